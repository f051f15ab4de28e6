/- Worlds that are written: steps, and what they leave alone. -/
import Derived.Test.YtbjllhjbhdjfjaaGreatDoorP1
import Derived.Laws.IdiomStrings
import Derived.Laws.MakeOwn
set_option linter.unusedVariables false
set_option linter.unusedSimpArgs false
set_option linter.unusedSectionVars false
namespace Go.Dn
def putRow(w:World)(b:Nat)(arr:Array Value)(el:TypeId)(fz:Nat×Nat):World:={ w with heap:=w.heap.setIfInBounds b (.cells arr el fz) }
theorem ix{w:World}{b:Nat}{arr:Array Value}{el:TypeId}{fz:Nat×Nat}(h:b<w.heap.size):(putRow w b arr el fz).heap[b]?=some (.cells arr el fz):=by simp only[putRow,Array.getElem?_setIfInBounds,aaR h,if_true]
theorem cA{w:World}{b c:Nat}{arr:Array Value}{el:TypeId}{fz:Nat×Nat}(h:c≠b):(putRow w b arr el fz).heap[c]?=w.heap[c]?:=by simp only[putRow,Array.getElem?_setIfInBounds,aaN (Ne.symm h)]
theorem putRow_putRow{w:World}{b:Nat}{arr arr':Array Value}{el:TypeId}{fz:Nat×Nat}:putRow (putRow w b arr el fz) b arr' el fz=putRow w b arr' el fz:=by simp[putRow,Array.setIfInBounds_setIfInBounds]
theorem qv{w:World}{b:Nat}{o:Obj}(h:w.heap[b]?=some o):b<w.heap.size:=(Array.getElem?_eq_some_iff.1 h).1
theorem p6{w:World}{b o:Nat}{v:Value}{arr:Array Value}{el:TypeId}{fz:Nat×Nat}(h:w.heap[b]?=some (.cells arr el fz)):
  w.setCell ⟨b,o,none⟩ v=putRow w b (arr.setIfInBounds o v) el fz:=by
 unfold World.setCell putRow;congr 1;apply Array.ext_getElem?;intro i;rw[Array.getElem?_modify,Array.getElem?_setIfInBounds];by_cases e:b=i
 ·subst e;rw[h];simp[qv h]
 ·simp[e]
theorem gR{P:Program}{b el:Nat}{fz:Nat×Nat}:∀(vs:List Value) (o i:Nat) (w:World) (arr:Array Value),w.heap[b]?=some (.cells arr el fz)->o+i+vs.length<=arr.size->
  (∀j,j<vs.length->¬(fz.1<=o+i+j/\o+i+j<fz.2))->(∀v∈vs,v.oneCell'=true)->
  ∃arr':Array Value,(storeCells ⟨b,o,none⟩ vs i).run P w = .ok () (putRow w b arr' el fz)/\arr'.toList=ma arr.toList (o+i) vs/\arr'.size=arr.size
 | [],o,i,w,arr,h,_,_,_=>by
  refine⟨arr,?_,by simp[ma],rfl⟩;have:putRow w b arr el fz=w:=by
   unfold putRow;congr 1;apply Array.ext_getElem?;intro j;rw[Array.getElem?_setIfInBounds];split
   ·rename_i e;subst e;rw[h,aaR (qv h)]
   ·rfl
  rw[this];rfl
 |v::vs,o,i,w,arr,h,hle,hf,h1=>by
  simp only[aaT]at hle;have hc:w.cell? ⟨b,o+i,none⟩=some arr[o+i]:=by simp[World.cell?,h,Array.getElem?_eq_getElem (show o+i<arr.size by omega)]
  have hfr:w.frozen? ⟨b,o+i,none⟩=false:=by have:=hf 0 (by simp);simp only[World.frozen?,h];simpa using this
  have hb:=qv h
  obtain⟨arr',e1,e2,e3⟩:=gR (P:=P) vs o (i+1) (putRow w b (arr.setIfInBounds (o+i) v) el fz) (arr.setIfInBounds (o+i) v) (ix hb) (by simp;omega)
   (λ j hj=>by have:=hf (j+1) (by simp;omega);rwa[show o+(i+1)+j=o+i+(j+1) by omega]) (λ x hx=>h1 x (by simp[hx]))
  refine⟨arr',?_,?_,by simpa using e3⟩
  ·simp only[storeCells,Sem.run_bind,Addr.add_plain,run_store P w _ v .plain (h1 v (by simp)),hc]
   rw[aaN (by simp[hfr])];simp only[Result.andThen_ok,p6 h,e1,putRow_putRow]
  ·rw[e2,<-aby,Ki _ _ _ _ (by omega)]
theorem RD.one'{F:Fz}{x:D}{v:Value}(h:RD F x v)(h1:(V.d x).one=true):v.oneCell'=true:=by
 cases x with
 |g cs=>simp[V.one]at h1
 |np=>simp only[RD]at h;subst h;rfl
 |b y=>simp only[RD]at h;subst h;rfl
 |i k y=>simp only[RD]at h;subst h;rfl
 |s y=>simp only[RD]at h;subst h;rfl
 |l fl y=>simp only[RD]at h;obtain⟨_,_,_,_,rfl,_⟩:=h;rfl
theorem RV.one'{G:Sg}{c:V}{v:Value}(h:RV G c v)(h1:c.one=true):v.oneCell'=true:=by
 cases c with
 |d x=>simp only[RV]at h;exact h.one' h1
 |m id off len=>simp only[RV]at h;obtain⟨_,_,rfl,_⟩:=h;rfl
 |p id off=>simp only[RV]at h;obtain⟨_,_,rfl⟩:=h;rfl
 |np=>simp only[RV]at h;subst h;rfl
 |e xs i off=>simp only[RV]at h;obtain⟨_,_,_,rfl,_⟩:=h;rfl
 |f k=>simp only[RV]at h;subst h;rfl
 |nifc=>simp only[RV]at h;subst h;rfl
 |t vs=>simp[V.one]at h1
 |u=>simp[V.one]at h1
theorem RV.cells_one{G:Sg}{c:V}{v:Value}(h:RV G c v)(h1:c.one=true):v.cells=#[v]:=by have:=RV.one' h h1;cases v<;>first|rfl|simp[Value.oneCell']at this
structure Ext (w:World) (G:Sg) (S:List Ob) (w':World) (G':Sg) (S':List Ob):Prop where
 os:w'.os=w.os
 tape:w'.tape=w.tape
 output:w'.output=w.output
 size:w.heap.size<=w'.heap.size
 F:Tu G.F G'.F
 obj:∀b id,G.own b=some (.obj id)->G'.own b=some (.obj id)
 keep:∀b,b<w.heap.size->(G.own b=none\/G.own b=some .ext)->G'.own b=G.own b/\w'.heap[b]?=w.heap[b]?/\∀o,G'.F b o=G.F b o
 newo:∀b id,G'.own b=some (.obj id)->id<S.length->G.own b=some (.obj id)
 ph:∀id,id<S.length->(∀b,G.own b≠some (.obj id))->bV S' id=bV S id
 len:S.length<=S'.length
theorem Ext.le{w:World}{G:Sg}{S:List Ob}{w':World}{G':Sg}{S':List Ob}(h:Ext w G S w' G' S'):Le G G':=⟨h.F,h.obj⟩
theorem Ext.refl(w:World)(G:Sg)(S:List Ob):Ext w G S w G S:=
 ⟨rfl,rfl,rfl,aa4 _,λ _ _ _ h=>h,λ _ _ h=>h,λ _ _ _=>⟨rfl,rfl,λ _=>rfl⟩,λ _ _ h _=>h,λ _ _ _=>rfl,aa4 _⟩
theorem Ext.trans{w:World}{G:Sg}{S:List Ob}{w1:World}{G1:Sg}{S1:List Ob}{w2:World}{G2:Sg}{S2:List Ob}(h:Ext w G S w1 G1 S1)(k:Ext w1 G1 S1 w2 G2 S2):Ext w G S w2 G2 S2:={
 os:=k.os.trans h.os
 tape:=k.tape.trans h.tape
 output:=k.output.trans h.output
 size:=abI h.size k.size
 F b o v x:=k.F b o v (h.F b o v x)
 obj b id x:=k.obj b id (h.obj b id x)
 keep b hb ho:=by obtain⟨h1,h2,h3⟩:=h.keep b hb ho;obtain⟨k1,k2,k3⟩:=k.keep b (abL hb h.size) (by rw[h1];exact ho);exact⟨k1.trans h1,k2.trans h2,λ o=>(k3 o).trans (h3 o)⟩
 newo b id x hid:=h.newo b id (k.newo b id x (abL hid h.len)) hid
 ph id hid hn:=(k.ph id (abL hid h.len) λ b x=>hn b (h.newo b id x hid)).trans (h.ph id hid hn)
 len:=abI h.len k.len }
theorem Ext.of_grow{w:World}{G:Sg}{S:List Ob}{w':World}{G':Sg}(h:Grow w G w' G'):Ext w G S w' G' S:={
 os:=h.os
 tape:=h.tape
 output:=h.output
 size:=h.size
 F:=h.F
 obj b id x:=by rw[h.own];exact x
 keep b hb _:=⟨by rw[h.own],h.heap b hb,λ o=>h.old b o hb⟩
 newo b id x _:=by rw[<-h.own];exact x
 ph _ _ _:=rfl
 len:=aa4 _ }
theorem fp:∀(S:List Ob) (id:Nat) (x:Ob),(oset S id x).length=S.length
 | [],_,_=>rfl
 |o::S,id,x=>by simp only[oset];split<;>simp[fp S id x]
theorem dE:∀{S:List Ob} {id:Nat} {x:Ob},id<S.length->bV (oset S id x) id=some x
 | [],_,_,h=>by simp at h
 |o::S,id,x,h=>by
  simp only[oset];split
  ·rename_i e;simp[bV,e]
  ·rename_i e;simp only[bV,fp];rw[aaN e];exact dE (by simp at h;omega)
theorem cJ:∀{S:List Ob} {id j:Nat} {x:Ob},j≠id->bV (oset S id x) j=bV S j
 | [],_,_,_,_=>rfl
 |o::S,id,j,x,h=>by
  simp only[oset];split
  ·rename_i e;simp only[bV];rw[aaN (by omega),aaN (by omega)]
  ·simp only[bV,fp];split
   ·rfl
   ·exact cJ h
theorem dG{S:List Ob}{o:Ob}{id:Nat}(h:id<S.length):bV (o::S) id=bV S id:=by simp only[bV];rw[aaN (by omega)]
theorem oM:∀{S:List Ob} {id:Nat},id<S.length->∃o,bV S id=some o
 | [],_,h=>by simp at h
 |o::S,id,h=>by
  simp only[bV];split
  ·exact⟨o,rfl⟩
  ·exact oM (by simp at h;omega)
section
variable {P : Program} {w : World} {G : Sg} {S : List Ob}
theorem Inv.phantom(hI:Inv w G S)(o:Ob)(hr:∀cs fl,o = .cells cs fl->bI (S.length+1) cs=true):Inv w G (o::S):={
 fz:=hI.fz
 ob b id ho:=by obtain⟨h1,o',go,h2,h3,h4⟩:=hI.ob b id ho;exact⟨h1,o',go,by rw[dG (dR h2)];exact h2,h3,h4⟩
 inj:=hI.inj
 tk:=hI.tk
 cl b id o ho:=by have:=hI.cl b id o ho;simp;omega
 rf id cs fl h:=by
  simp only[bV]at h;split at h
  ·rename_i e;simp at h;rw[e];exact hr cs fl h
  ·exact hI.rf id cs fl h
 tb:=hI.tb }
theorem Ext.phantom(o:Ob):Ext w G S w G (o::S):=
 ⟨rfl,rfl,rfl,aa4 _,λ _ _ _ h=>h,λ _ _ h=>h,λ _ _ _=>⟨rfl,rfl,λ _=>rfl⟩,λ _ _ h _=>h,λ id hid _=>dG hid,by simp⟩
def eT(w:World)(go:Obj):World:={ w with heap:=w.heap.push go }
def dj(w:World)(G:Sg)(ℓ:Loc):Sg:={ G with own:=λ b=>if b=w.heap.size then some ℓ else G.own b }
theorem ef{go:Obj}{b:Nat}(h:b<w.heap.size):(eT w go).heap[b]?=w.heap[b]?:=by simp only[eT];rw[Array.getElem?_push,aaN (by omega)]
theorem Bk{go:Obj}:(eT w go).heap[w.heap.size]?=some go:=by simp only[eT,Array.getElem?_push_size]
theorem nu(hI:Inv w G S)(ℓ:Loc):Le G (dj w G ℓ):=⟨λ _ _ _ h=>h,λ b id h=>by
 simp only[dj];rw[aaN]
 ·exact h
 ·have:=hI.tk _ _ h;omega⟩
theorem qZ{b:Nat}{ℓ ℓ':Loc}(hI:Inv w G S)(h:G.own b=some ℓ'):(dj w G ℓ).own b=some ℓ':=by
 simp only[dj];rw[aaN]
 ·exact h
 ·have:=hI.tk _ _ h;omega
theorem gq.push(hI:Inv w G S){go:Obj}{ℓ ℓ':Loc}{sz:Nat}{v:Value}(h:gq w G ℓ' sz v):gq (eT w go) (dj w G ℓ) ℓ' sz v:=
 h.same λ blk ho=>⟨qZ hI ho,ef (hI.tk _ _ ho),λ _=>rfl⟩
theorem Inv.push_obj(hI:Inv w G S){go:Obj}{id:Nat}{o:Ob}(hn:∀b,G.own b≠some (.obj id))(ho:bV S id=some o)(hor:kQ (eT w go) (dj w G (.obj id)) id o go):
  Inv (eT w go) (dj w G (.obj id)) S:={
 fz b o v h:=by rw[cell?_of_heap (ef (hI.F_lt h))];exact hI.fz b o v h
 ob b id' h:=by
  by_cases e:b=w.heap.size
  ·subst e;have:id'=id:=by simp only[dj,if_true]at h;injection h with h;injection h with h;exact h.symm
   subst this;refine⟨λ x=>?_,o,go,ho,Bk,hor⟩
   cases hx:G.F w.heap.size x with
   |none=>exact hx
   |some y=>have:=hI.F_lt hx;omega
  ·simp only[dj,aaN e]at h;obtain⟨h1,o',go',h2,h3,h4⟩:=hI.ob b id' h;exact⟨h1,o',go',h2,by rw[ef (hI.tk _ _ h)];exact h3,h4.same (nu hI _) λ off blk hk=>⟨qZ hI hk,ef (hI.tk _ _ hk),λ _=>rfl⟩⟩
 inj b b' id' h h':=by
  by_cases e:b=w.heap.size
  ·by_cases e':b'=w.heap.size
   ·rw[e,e']
   ·simp only[dj,aaN e']at h';simp only[dj,aaR e]at h;injection h with h;injection h with h;subst h
    exact absurd h' (hn b')
  ·simp only[dj,aaN e]at h;by_cases e':b'=w.heap.size
   ·simp only[dj,aaR e']at h';injection h' with h';injection h' with h';subst h'
    exact absurd h (hn b)
   ·simp only[dj,aaN e']at h';exact hI.inj b b' id' h h'
 tb:=hI.tb_of λ b hb ho=>⟨ef hb,by simp only[dj];rw[aaN (by omega)];exact ho⟩
 tk b ℓ h:=by
  have:(eT w go).heap.size=w.heap.size+1:=by simp[eT]
  by_cases e:b=w.heap.size
  ·omega
  ·simp only[dj,aaN e]at h;have:=hI.tk b ℓ h;omega
 cl b id' o' h:=by
  by_cases e:b=w.heap.size
  ·simp only[dj,aaR e]at h;injection h with h;cases h
  ·simp only[dj,aaN e]at h;exact hI.cl b id' o' h
 rf:=hI.rf }
theorem Ext.push_obj(hI:Inv w G S){go:Obj}{id n0:Nat}(hid:n0<=id)(S0:List Ob)(hS:S0.length=n0)(hsame:∀id,id<n0->bV S id=bV S0 id)(hlen:n0<=S.length):Ext w G S0 (eT w go) (dj w G (.obj id)) S:={
 os:=rfl
 tape:=rfl
 output:=rfl
 size:=by simp[eT]
 F _ _ _ h:=h
 obj:=(nu hI _).obj
 keep b hb _:=⟨by simp only[dj];rw[aaN (by omega)],ef hb,λ _=>rfl⟩
 newo b id' h hlt:=by
  by_cases e:b=w.heap.size
  ·simp only[dj,aaR e]at h;injection h with h;injection h with h;omega
  ·simp only[dj,aaN e]at h;exact h
 ph id' h _:=hsame id' (by omega)
 len:=by omega }
theorem JM(hI:Inv w G S){go:Obj}{o:Ob}(hr:∀cs fl,o = .cells cs fl->bI (S.length+1) cs=true)(hor:kQ (eT w go) (dj w G (.obj S.length)) S.length o go):
  Inv (eT w go) (dj w G (.obj S.length)) (o::S)/\Ext w G S (eT w go) (dj w G (.obj S.length)) (o::S):=by
 have hn:∀b,G.own b≠some (.obj S.length):=λ b h=>by
  obtain⟨_,o',_,h2,_⟩:=hI.ob b _ h;have:=dR h2;omega
 refine⟨(hI.phantom o hr).push_obj hn (by simp[bV]) hor,?_⟩;refine Ext.push_obj (S:=o::S) (hI.phantom o hr) (aa4 _) S rfl (λ id h=>dG h) (by simp)
theorem Inv.write(hI:Inv w G S){b id:Nat}{el:TypeId}{arr arr':Array Value}{fz:Nat×Nat}{cs cs':List V}{fl fl':List (Nat×Nat)}{own':Nat->Option Loc}(ho:G.own b=some (.obj id))(hob:bV S id=some (.cells cs fl))
  (hgo:w.heap[b]?=some (.cells arr el fz)) (hown:∀b ℓ,G.own b=some ℓ->(∀q,ℓ ≠ .slot q)->(∀q,ℓ ≠ .cell id q)->own' b=some ℓ) (hown':∀b ℓ,own' b=some ℓ->(∃q,ℓ = .slot q/\∃ℓ',G.own b=some ℓ')\/(∃q,ℓ = .cell id q/\∃ℓ',G.own b=some ℓ')\/G.own b=some ℓ)
  (hrf:bI (id+1) cs'=true) (hor:kQ (putRow w b arr' el fz) ⟨G.F,own'⟩ id (.cells cs' fl') (.cells arr' el fz)):
  Inv (putRow w b arr' el fz) ⟨G.F,own'⟩ (oset S id (.cells cs' fl')):=by
 have hle:Le G ⟨G.F,own'⟩:=⟨λ _ _ _ h=>h,λ b id h=>hown b _ h (by simp) (by simp)⟩
 have hFb:∀o,G.F b o=none:=(hI.ob b id ho).1;have hobj:∀b' id',own' b'=some (.obj id')->G.own b'=some (.obj id'):=by
  intro b' id' h;rcases hown' b' _ h with⟨q,e,_⟩|⟨q,e,_⟩|h
  ·cases e
  ·cases e
  ·exact h
 refine⟨λ c o v h=>?_,λ b' id' h=>?_,λ b1 b2 id' h1 h2=>hI.inj b1 b2 id' (hobj _ _ h1) (hobj _ _ h2),λ b' ℓ h=>?_,λ b' id' o h=>?_,λ id' cs1 fl1 h=>?_,hI.tb_of λ c hc h0=>⟨cA λ e=>(by subst e;rw[ho]at h0;cases h0),?_⟩⟩
 ·have hne:c≠b:=by intro e;subst e;rw[hFb]at h;simp at h
  rw[cell?_of_heap (cA hne)];exact hI.fz c o v h
 ·have h:=hobj _ _ h;by_cases e:b'=b
  ·subst e;have:id'=id:=by rw[ho]at h;injection h with h;injection h with h;exact h.symm
   subst this;exact⟨hFb,_,_,dE (dR hob),ix (qv hgo),hor⟩
  ·have hid:id'≠id:=λ e'=>e (hI.inj _ _ _ (e'▸h) ho);obtain⟨h1,o',go,h2,h3,h4⟩:=hI.ob b' id' h;refine⟨h1,o',go,by rw[cJ hid];exact h2,by rw[cA e];exact h3,h4.same hle λ off blk hk=>⟨hown _ _ hk (by simp) (by simp;intro e1;exact absurd e1 hid),?_,λ _=>rfl⟩⟩;refine cA λ e1=>?_;subst e1;rw[ho]at hk;injection hk with hk;cases hk
 ·have hsz:(putRow w b arr' el fz).heap.size=w.heap.size:=by simp[putRow]
  rw[hsz];rcases hown' b' _ h with⟨q,e,ℓ',h'⟩|⟨q,e,ℓ',h'⟩|h'<;>exact hI.tk _ _ h'
 ·rw[fp];rcases hown' b' _ h with⟨q,e,_⟩|⟨q,e,ℓ',h'⟩|h'
  ·cases e
  ·injection e with e1 e2;subst e1;exact dR hob
  ·exact hI.cl _ _ _ h'
 ·by_cases e:id'=id
  ·subst e;rw[dE (dR hob)]at h;simp at h;rw[<-h.1];exact hrf
  ·rw[cJ e]at h;exact hI.rf _ _ _ h
 ·show own' c=none
  cases hc':own' c with
  |none=>rfl
  |some ℓ=>rcases hown' c ℓ hc' with⟨_,_,ℓ',h'⟩|⟨_,_,ℓ',h'⟩|h'<;>rw[h0]at h'<;>cases h'
theorem Ext.write(hI:Inv w G S){b id:Nat}{el:TypeId}{arr arr':Array Value}{fz:Nat×Nat}{o':Ob}{own':Nat->Option Loc}(ho:G.own b=some (.obj id))
  (hgo:w.heap[b]?=some (.cells arr el fz)) (hown:∀b ℓ,G.own b=some ℓ->(∀q,ℓ ≠ .slot q)->(∀q,ℓ ≠ .cell id q)->own' b=some ℓ) (hnone:∀b,G.own b=none->own' b=none) (hobj:∀b id,own' b=some (.obj id)->G.own b=some (.obj id)):
  Ext w G S (putRow w b arr' el fz) ⟨G.F,own'⟩ (oset S id o'):={
 os:=rfl
 tape:=rfl
 output:=rfl
 size:=by simp[putRow]
 F _ _ _ h:=h
 obj b id h:=hown b _ h (by simp) (by simp)
 keep c hc h:=by
  have hne:c≠b:=by intro e;subst e;rcases h with h|h<;>rw[ho]at h<;>simp at h
  refine⟨?_,cA hne,λ _=>rfl⟩;rcases h with h|h
  ·rw[h];exact hnone c h
  ·rw[h];exact hown c _ h (by simp) (by simp)
 newo b id h _:=hobj b id h
 ph id' h hn:=by have:id'≠id:=λ e=>hn b (e▸ho);exact cJ this
 len:=by rw[fp];exact aa4 _ }
end
section
variable {P : Program} {w : World} {G : Sg} {S : List Ob}
structure St1 (w:World) (G:Sg) (S:List Ob) (w':World) (G':Sg) (S':List Ob) (q:Option Nat) (SP:Nat->Nat->Prop):Prop where
 inv:Inv w' G' S'
 ext:Ext w G S w' G' S'
 tok:∀q' sz v,some q'≠q->gq w G (.slot q') sz v->gq w' G' (.slot q') sz v
 sp:∀id off,SP id off->∀b,G.own b=some (.obj id)->w'.cell? ⟨b,off,none⟩=w.cell? ⟨b,off,none⟩
theorem dQ{b:Nat}:∀{cs:List V},bI b cs=true↔∀c∈cs,cj b c=true
 | []=>by simp[bI]
 |c::cs=>by simp[bI,dQ (cs:=cs)]
mutual
theorem pX{a b:Nat}(h:a<=b):∀v:V,cj a v=true->cj b v=true
 | .d _,_=>by simp[cj]
 | .m id _ _,e=>by simp[cj]at e⊢;omega
 | .p id _,e=>by simp[cj]at e⊢;omega
 | .np,_=>by simp[cj]
 | .e _ _ _,_=>by simp[cj]
 | .f _,_=>by simp[cj]
 | .nifc,_=>by simp[cj]
 | .t vs,e=>by simp only[cj]at e⊢;exact dH h vs e
 | .u,_=>by simp[cj]
theorem dH{a b:Nat}(h:a<=b):∀vs:List V,bI a vs=true->bI b vs=true
 | [],_=>by simp[bI]
 |v::vs,e=>by
  simp only[bI,Bool.and_eq_true]at e⊢;exact⟨pX h v e.1,dH h vs e.2⟩
end
theorem oy(b:Nat)(ds:List D):bI b (ds.map .d)=true:=by rw[dQ];intro c hc;obtain⟨d,_,rfl⟩:=List.mem_map.1 hc;rfl
theorem tY{G:Sg}{w:World}{id el:Nat}{cs:List V}{fl:Fl}{arr:Array Value}{n:Nat}(hr:eY G cs (arr.toList.take cs.length))(hone:cs.all V.one=true)(hle:cs.length<=arr.size){t:Option Nat}(hfl:oH t cs fl=true)(hel:∀x,t=some x->el=x)(hn:cs.length<=n):
  kQ w G id (.cells cs fl) (.cells arr el (n,n+1))/\kQ w G id (.cells cs fl) (.cells arr el (0,0)):=by
 have key:∀(o:Nat) c,cs[o]?=some c->∃v,arr[o]?=some v/\RV G c v/\c.one=true/\o<cs.length:=by intro o c hc;obtain⟨v,hv,hrv⟩:=eY.get hr hc;have hlt:=(abE.1 hc).1;rw[abP hlt]at hv;exact⟨v,by simpa using hv,hrv,abu.1 hone c (abQ hc),hlt⟩
 have kfl:∀o sz,(o,sz)∈fl->mU w G id arr el o sz:=by
  intro o sz hm;have h1:=abu.1 hfl _ hm;simp only at h1;unfold mU;split at h1
  ·rename_i e;rw[aaR e];exact hel _ (by simpa using h1)
  rename_i hne;rw[aaN hne];split at h1
  ·rename_i xs hc;obtain⟨v,hv,hrv,_,_⟩:=key _ _ hc;simp only[RV,RD]at hrv;obtain⟨a,n,c,sz',rfl,rfl,_,hfull,_⟩:=hrv;refine⟨_,hv,.inl ⟨a,xs.length,by rw[hfull trivial],λ hk=>?_⟩⟩;rw[Bool.or_eq_true,decide_eq_true_eq]at h1;rcases h1 with h1|h1
   ·omega
   ·rw[List.isEmpty_iff]at h1;rw[h1];rfl
  ·simp at h1
 constructor
 ·simp only[kQ];exact⟨hle,λ o c hc=>by obtain⟨v,h1,h2,h3,h4⟩:=key o c hc;exact⟨v,h1,h2,by omega,h3⟩,kfl⟩
 ·simp only[kQ];exact⟨hle,λ o c hc=>by obtain⟨v,h1,h2,h3,h4⟩:=key o c hc;exact⟨v,h1,h2,by omega,h3⟩,kfl⟩
theorem uC(hI:Inv w G S){el:Nat}{cs:List V}{fl:Fl}{arr:Array Value}{SP:Nat->Nat->Prop}(hr:eY G cs (arr.toList.take cs.length))(hone:cs.all V.one=true)(hle:cs.length<=arr.size){t:Option Nat}(hfl:oH t cs fl=true)(hel:∀x,t=some x->el=x)(hrf:bI (S.length+1) cs=true)(fz:Nat×Nat)(hfz:fz=(0,0)\/fz=(arr.size,arr.size+1)):
  St1 w G S (eT w (.cells arr el fz)) (dj w G (.obj S.length)) (.cells cs fl::S) none SP/\(dj w G (.obj S.length)).own w.heap.size=some (.obj S.length):=by
 have hle':=nu hI (.obj S.length);have hor:=tY (w:=eT w (.cells arr el fz)) (G:=dj w G (.obj S.length)) (id:=S.length) (el:=el) (eY.mono hle' _ _ hr) hone hle hfl hel hle;obtain⟨h1,h2⟩:=JM hI (go := .cells arr el fz) (o := .cells cs fl) (λ cs' fl' e=>by injection e with e1 e2;subst e1;exact hrf) (by rcases hfz with rfl|rfl;exact hor.2;exact hor.1);refine⟨⟨h1,h2,λ q' sz v _ h=>h.push hI,λ id off _ b hb=>cell?_of_heap (ef (hI.tk _ _ hb)) off⟩,by simp[dj]⟩
theorem W0(hI:Inv w G S){t:TypeId}{fl:Fl}{sz:Nat}{v:V}{va:Value}{r:Out}{SP:Nat->Nat->Prop}(hv:RV G v va)(h:oL S t fl sz v=some r):
  ∃x w' G',(Instr.box t va).run P w = .ok x w'/\RV G' r.1 x/\St1 w G S w' G' r.2 none SP:=by
 have key:∀cs:List V,kI S t fl cs=some r->eY G cs va.cells.toList->∃x w' G',(Instr.box t va).run P w = .ok x w'/\RV G' r.1 x/\St1 w G S w' G' r.2 none SP:=by
  intro cs h hr;unfold kI at h;split at h
  ·rename_i hc;simp at h;subst h;have hl:=eY.length hr;obtain⟨h1,h2⟩:=uC hI (el:=t) (cs:=cs) (fl:=fl) (arr:=va.cells) (SP:=SP) (by rw[abS (by omega)];exact hr) hc.2.1 (by rw[<-Array.length_toList];omega) hc.1 (λ x e=>Option.some.inj e) (dH (by omega) _ hc.2.2) (0,0) (.inl rfl);exact⟨_,_,_,rfl,by simp only[RV];exact⟨_,h2,rfl⟩,h1⟩
  ·simp at h
 unfold oL at h;split at h
 ·rename_i ds;split at h
  ·refine key _ h ?_;rw[BW];simp only[RV,RD]at hv;obtain⟨vs,rfl,hr⟩:=hv;exact hr
  ·simp at h
 ·split at h
  ·rename_i hne hsz;have h0:=h;unfold kI at h0;split at h0
   ·rename_i hc;have hone:v.one=true:=by simpa using hc.2.1
    refine key _ h ?_;rw[RV.cells_one hv hone,wM];exact⟨hv,by simp only[eY]⟩
   ·simp at h0
  ·simp at h
theorem OO(hI:Inv w G S){t:TypeId}{z:List V}{fl:Fl}{id n0:Nat}{SP:Nat->Nat->Prop}(hz:ie P t=some z)(hone:z.all V.one=true)(hfl:oH (some t) z fl=true)(hn:∀b,G.own b≠some (.obj id))(ho:bV S id=some (.cells z fl)):
  ∃x w',(Instr.alloc t true (.tuple #[])).run P w = .ok x w'/\RV (dj w G (.obj id)) (.p id 0) x/\Inv w' (dj w G (.obj id)) S/\(∃go,w'=eT w go):=by
 obtain⟨v,hv,hr,_⟩:=yL (P:=P) (w:=w) (G:=G) hz;have hl:=eY.length hr;have hle':=nu hI (.obj id);have hor:=(tY (w:=eT w (.cells v.cells t (0,0))) (G:=dj w G (.obj id)) (id:=id) (el:=t) (cs:=z) (fl:=fl) (arr:=v.cells) (n:=z.length) (eY.mono hle' _ _ (by rw[abS (by omega)];exact hr)) hone (by rw[<-Array.length_toList];omega) hfl (λ x e=>Option.some.inj e) (aa4 _)).2;refine⟨.pointer (some ⟨w.heap.size,0,none⟩),eT w (.cells v.cells t (0,0)),?_,?_,hI.push_obj hn ho hor,⟨_,rfl⟩⟩
 ·simp only[Instr.alloc,Sem.run_bind,hv,Result.andThen_ok];rfl
 ·simp only[RV];exact⟨_,by simp[dj],rfl⟩
def mX(sz:Nat):V->Option (List V)
 | .d (.g ds)=>if ds.length=sz then some (ds.map .d)else none
 |v=>if sz=1 then some [v]else none
theorem Qw{t:Nat}{fl:Fl}{sz:Nat}{v:V}:oL S t fl sz v=(mX sz v).bind (kI S t fl):=by
 unfold oL;split
 ·rename_i ds;show _=(if ds.length=sz then some (ds.map V.d)else none).bind (kI S t fl);split<;>rfl
 ·rename_i h;have:mX sz v=if sz=1 then some [v]else none:=by
   unfold mX;split
   ·rename_i ds;exact absurd rfl (h ds)
   ·rfl
  rw[this];split<;>rfl
theorem TT(hI:Inv w G S){t:TypeId}{sz:Nat}{v:V}{va:Value}{cs:List V}{fl:Fl}{id:Nat}(hv:RV G v va)(hb:mX sz v=some cs)(hone:cs.all V.one=true)(hfl:oH (some t) cs fl=true)(hn:∀b,G.own b≠some (.obj id))(ho:bV S id=some (.cells cs fl)):
  ∃x w',(Instr.box t va).run P w = .ok x w'/\RV (dj w G (.obj id)) (.p id 0) x/\Inv w' (dj w G (.obj id)) S/\(∃go,w'=eT w go):=by
 have hr:eY G cs va.cells.toList:=by
  unfold mX at hb;split at hb
  ·split at hb
   ·injection hb with hb;subst hb
    rw[BW];simp only[RV,RD]at hv;obtain⟨vs,rfl,hr⟩:=hv;exact hr
   ·cases hb
  ·split at hb
   ·injection hb with hb;subst hb
    rw[RV.cells_one hv (by simpa using hone),wM];exact⟨hv,by simp only[eY]⟩
   ·cases hb
 have hl:=eY.length hr;have hle':=nu hI (.obj id);have hor:=(tY (w:=eT w (.cells va.cells t (0,0))) (G:=dj w G (.obj id)) (id:=id) (el:=t) (cs:=cs) (fl:=fl) (arr:=va.cells) (n:=cs.length) (eY.mono hle' _ _ (by rw[abS (by omega)];exact hr)) hone (by rw[<-Array.length_toList];omega) hfl (λ x e=>Option.some.inj e) (aa4 _)).2;refine⟨.pointer (some ⟨w.heap.size,0,none⟩),eT w (.cells va.cells t (0,0)),?_,?_,hI.push_obj hn ho hor,⟨_,rfl⟩⟩
 ·rfl
 ·simp only[RV];exact⟨_,by simp[dj],rfl⟩
theorem EX{cs xs:List V}{off:Nat}(h:off+xs.length<=cs.length){o:Nat}{c:V}(hc:(zF cs off xs)[o]?=some c):
  (off<=o/\o<off+xs.length/\xs[o-off]?=some c)\/(¬(off<=o/\o<off+xs.length)/\cs[o]?=some c):=by
 unfold zF at hc;have hl:(cs.take off).length=off:=by simp;omega
 rcases abn o off with h1|h1
 ·right;rw[abg,List.getElem?_append_left (by omega),abP h1]at hc;exact⟨by omega,hc⟩
 ·rcases abn o (off+xs.length)with h2|h2
  ·left;rw[List.getElem?_append_left (by simp;omega),List.getElem?_append_right (by omega),hl]at hc;exact⟨h1,h2,hc⟩
  ·right;rw[List.getElem?_append_right (by simp;omega),List.getElem?_drop]at hc;refine⟨by omega,?_⟩;rw[<-hc];congr 1;simp;omega
theorem xL{vs l:List Value}{off:Nat}(h:off+l.length<=vs.length)(o:Nat):
  (ma vs off l)[o]?=if off<=o/\o<off+l.length then l[o-off]? else vs[o]?:=by
 unfold ma;have hl:(vs.take off).length=off:=by simp;omega
 rcases abn o off with h1|h1
 ·rw[aaN (by omega),abg,List.getElem?_append_left (by omega),abP h1]
 ·rcases abn o (off+l.length)with h2|h2
  ·rw[aaR ⟨h1,h2⟩,List.getElem?_append_left (by simp;omega),List.getElem?_append_right (by omega),hl]
  ·rw[aaN (by omega),List.getElem?_append_right (by simp;omega),List.getElem?_drop]
   congr 1;simp;omega
end
section
variable {P : Program} {w : World} {G : Sg} {S : List Ob}
theorem fM{fl:Fl}{t o z:Nat}:(o,z)∈eV fl t↔(o,z)∈fl/\o≠t:=by simp[eV]
def lN(own:Nat->Option Loc)(a c:Loc):Nat->Option Loc:=λ b=>if own b=some a then some c else own b
def qY(tk q:Option Nat)(own:Nat->Option Loc)(ℓ:Loc):Nat->Option Loc:=
 match tk,q with
 |some _,some y=>lN own (.slot y) ℓ
 |_,_=>own
theorem gb{own:Nat->Option Loc}{a c ℓ:Loc}{b:Nat}(h:own b=some ℓ)(hne:ℓ≠a):lN own a c b=some ℓ:=by
 simp only[lN];rw[aaN]
 ·exact h
 ·rw[h];intro e;injection e with e;exact hne e
theorem jw{own:Nat->Option Loc}{a c ℓ:Loc}{b:Nat}(h:lN own a c b=some ℓ):(ℓ=c/\own b=some a)\/own b=some ℓ:=by
 simp only[lN]at h;split at h
 ·rename_i e;injection h with h;exact .inl ⟨h.symm,e⟩
 ·exact .inr h
theorem oz{own:Nat->Option Loc}{a c:Loc}{b:Nat}(h:own b=none):lN own a c b=none:=by simp[lN,h]
theorem rW{own:Nat->Option Loc}{a c:Loc}{b:Nat}(h:own b=some a):lN own a c b=some c:=by simp[lN,h]
theorem H6{tk q:Option Nat}{own:Nat->Option Loc}{ℓ ℓ0:Loc}{c:Nat}(h:own c=some ℓ0)(hne:∀y,ℓ0 ≠ .slot y):qY tk q own ℓ c=some ℓ0:=by
 unfold qY;split
 ·exact gb h (hne _)
 ·exact h
theorem Ba{tk q:Option Nat}{own:Nat->Option Loc}{ℓ ℓ0:Loc}{c:Nat}(h:qY tk q own ℓ c=some ℓ0):(ℓ0=ℓ/\∃ℓ',own c=some ℓ')\/own c=some ℓ0:=by
 unfold qY at h;split at h
 ·rcases jw h with⟨e,h⟩|h
  ·exact .inl ⟨e,_,h⟩
  ·exact .inr h
 ·exact .inr h
theorem H9{tk q:Option Nat}{own:Nat->Option Loc}{ℓ:Loc}{c y:Nat}(hq:some y≠q)(h:own c=some (.slot y)):qY tk q own ℓ c=some (.slot y):=by
 unfold qY;split
 ·exact gb h (by intro e;injection e with e;subst e;exact hq rfl)
 ·exact h
theorem H8{tk q:Option Nat}{own:Nat->Option Loc}{ℓ:Loc}{c:Nat}(h:own c=none):qY tk q own ℓ c=none:=by
 unfold qY;split
 ·exact oz h
 ·exact h
theorem H7{tk q:Option Nat}{own:Nat->Option Loc}{ℓ:Loc}{c y z:Nat}(htk:tk=some z)(hq:q=some y)(h:own c=some (.slot y)):qY tk q own ℓ c=some ℓ:=by subst htk;subst hq;exact rW h
theorem E2{x y:Nat×Nat}:∀{fl:Fl},y∈P1 x fl->y=x\/y∈fl
 | [],h=>by simp only[P1,abK]at h;exact .inl h
 |z::r,h=>by
  simp only[P1]at h;split at h
  ·exact List.mem_cons.1 h
  ·rcases List.mem_cons.1 h with h|h
   ·exact .inr (by simp[h])
   ·rcases E2 h with h|h
    ·exact .inl h
    ·exact .inr (by simp[h])
theorem F3(hI:Inv w G S){t n:Nat}{agg:Bool}{fl:Fl}{tk:Option Nat}{a v:V}{va vx:Value}{S':List Ob}{q:Option Nat}(hsz:cq P t=some n)(ha:RV G a va)(hv:RV G v vx)
  (htk:∀z,tk=some z->∃y,q=some y/\gq w G (.slot y) z vx) (h:kr S agg n fl tk a v=some S'):
  ∃w' G',(Instr.storeAt t va vx).run P w = .ok () w'/\St1 w G S w' G' S' q (λ id off=>∀id' off',a = .p id' off'->id≠id'\/off<off'\/off'+n<=off):=by
 unfold kr at h;split at h;rotate_left
 ·simp at h
 rename_i id off;split at h;rotate_left
 ·simp at h
 rename_i cs fl0 hob;simp only[RV]at ha;obtain⟨b,ho,rfl⟩:=ha;obtain⟨hFb,o',go,hs',hgo,hor⟩:=hI.ob _ _ ho;rw[hob]at hs';simp at hs';subst hs'
 cases go with
 |cells arr el fz=>
  have hor':=hor;simp only[kQ]at hor';obtain⟨hlen,hcells,hflags⟩:=hor';have hbsz:=qv hgo;have hrf:=hI.rf _ _ _ hob;have tokne:∀blk ℓ,G.own blk=some ℓ->(∀i,ℓ ≠ .obj i)->blk≠b:=by intro blk ℓ h1 h2 e;subst e;rw[ho]at h1;injection h1 with h1;exact h2 _ h1.symm
  split at h
  ·-- a struct
   rename_i hagg;split at h;rotate_left
   ·simp at h
   rename_i ds;split at h;rotate_left
   ·simp at h
   rename_i hc;obtain⟨h1,h2,h3,h4⟩:=hc;injection h with h;subst h
   simp only[RV,RD]at hv;obtain⟨vs,rfl,hr⟩:=hv;have hvl:vs.toList.length=n:=by rw[eg.length hr,h1]
   have hnf:∀j,j<vs.toList.length->¬(fz.1<=off+0+j/\off+0+j<fz.2):=by intro j hj;obtain⟨_,_,_,hf,_⟩:=hcells (off+j) _ (abl (show off+j<cs.length by omega));simpa using hf
   have hone:∀x∈vs.toList,x.oneCell'=true:=by intro x hx;obtain⟨j,hj⟩:=List.mem_iff_getElem?.1 hx;have hjl:=(abE.1 hj).1;obtain⟨y,hy,hry⟩:=eg.get hr (abl (show j<ds.length by omega));rw[hj]at hy;simp at hy;subst hy;exact hry.one' (abu.1 h4 _ (List.mem_map.2 ⟨_,List.getElem_mem _,rfl⟩))
   obtain⟨arr',e1,e2,e3⟩:=gR (P:=P) (el:=el) vs.toList off 0 w arr hgo (by omega) hnf hone;simp only[Nat.add_zero]at e2;have hget:∀o:Nat,arr'[o]?=if off<=o/\o<off+n then vs.toList[o-off]? else arr[o]?:=by intro o;have:=xL (vs:=arr.toList) (l:=vs.toList) (off:=off) (by rw[hvl,Array.length_toList];omega) o;rw[<-e2,hvl]at this;simpa using this
   have hrf':bI (id+1) (zF cs off (ds.map .d))=true:=by
    rw[dQ]at hrf⊢;intro c hc;obtain⟨j,hj⟩:=List.mem_iff_getElem?.1 hc;rcases EX (by simp;omega) hj with⟨_,_,h⟩|⟨_,h⟩
    ·simp at h;obtain⟨d,_,rfl⟩:=h;rfl
    ·exact hrf c (abQ h)
   have hkeep:∀blk ℓ,G.own blk=some ℓ->(∀i,ℓ ≠ .obj i)->(putRow w b arr' el fz).heap[blk]?=w.heap[blk]?:=λ blk ℓ h1 h2=>cA (tokne _ _ h1 h2);have hor2:kQ (putRow w b arr' el fz) ⟨G.F,G.own⟩ id (.cells (zF cs off (ds.map .d)) (fl0.filter (λ x=>!(off<=x.1&&x.1<off+n))++fl.map (λ x=>(off+x.1,x.2)))) (.cells arr' el fz):=by
    simp only[kQ];have hll:(zF cs off (ds.map V.d)).length=cs.length:=by simp[zF];omega
    refine⟨by omega,λ o c hc=>?_,λ o z hm=>?_⟩
    ·rcases EX (by simp;omega) hc with⟨p1,p2,h⟩|⟨p,h⟩
     ·have p2':o<off+n:=by simpa[h1]using p2
      simp at h;obtain⟨d,hd,rfl⟩:=h;obtain⟨y,hy,hry⟩:=eg.get hr hd;obtain⟨_,_,_,hf,_⟩:=hcells o _ (abl (show o<cs.length by omega));exact⟨y,by rw[hget,aaR ⟨p1,p2'⟩];exact hy,by simpa only[RV]using hry,hf,abu.1 h4 _ (List.mem_map.2 ⟨d,abQ hd,rfl⟩)⟩
     ·obtain⟨y,hy,hry,hf,ho1⟩:=hcells o c h;exact⟨y,by rw[hget,aaN (by simpa[h1]using p)];exact hy,hry,hf,ho1⟩
    ·rcases List.mem_append.1 hm with hm|hm
     ·simp at hm;obtain⟨hm,hno⟩:=hm;refine(hflags o z hm).map λ y hy ht=>?_;refine⟨y,by rw[hget,aaN (by omega)];exact hy,ht.same λ blk hb=>⟨hb,hkeep _ _ hb (by simp),λ _=>rfl⟩⟩
     ·simp at hm;obtain⟨o1,hm2,rfl⟩:=hm;have:=abu.1 h3 _ hm2;simp only at this;split at this
      ·simp at this
      rename_i hne;unfold mU;rw[aaN hne];split at this
      ·rename_i xs hc;rw[List.getElem?_map]at hc;obtain⟨d,hd,hde⟩:=Option.map_eq_some_iff.1 hc;injection hde with hde
       subst hde;obtain⟨y,hy,hry⟩:=eg.get hr hd;have hlt:=(abE.1 hd).1;simp only[RD]at hry;obtain⟨A,m,c,sz',rfl,rfl,_,hfull,_⟩:=hry;exact⟨_,by rw[hget,aaR ⟨by omega,by omega⟩,show off+o1-off=o1 by omega];exact hy,.inl ⟨A,xs.length,by rw[hfull trivial],λ hk=>by
        rw[Bool.or_eq_true,decide_eq_true_eq]at this;rcases this with h1|h1
        ·omega
        ·rw[List.isEmpty_iff]at h1;rw[h1];rfl⟩⟩
      ·simp at this
   refine⟨putRow w b arr' el fz,⟨G.F,G.own⟩,?_,?_⟩
   ·have hcz:¬(Value.agg vs).cells.size≠n:=by simp only[Value.cells];rw[<-Array.length_toList];omega
    simp only[Instr.storeAt,Instr.sureAddr,Sem.run_bind,Sem.run_pure,Result.andThen_ok,storeVar,dn hsz,aaN hcz];exact e1
   ·exact⟨hI.write ho hob hgo (λ _ _ h _ _=>h) (λ _ _ h => .inr (.inr h)) hrf' hor2,Ext.write hI ho hgo (λ _ _ h _ _=>h) (λ _ h=>h) (λ _ _ h=>h),λ q' z v' _ ht=>ht.same λ blk hb=>⟨hb,hkeep _ _ hb (by simp),λ _=>rfl⟩,λ id1 off1 hsp b1 hb1=>by
     by_cases e:b1=b
     ·subst e;have hid:id1=id:=by rw[ho]at hb1;injection hb1 with hb1;injection hb1 with hb1;exact hb1.symm
      subst hid;rcases hsp id1 off rfl with h|h|h
      ·exact absurd rfl h
      ·simp[World.cell?,ix hbsz,hgo,hget,aaN (show ¬(off<=off1/\off1<off+n) by omega)]
      ·simp[World.cell?,ix hbsz,hgo,hget,aaN (show ¬(off<=off1/\off1<off+n) by omega)]
     ·exact cell?_of_heap (cA e) _⟩
  ·-- one cell
   split at h;rotate_left
   ·simp at h
   rename_i hc;obtain⟨hone,rfl,hoff,href⟩:=hc;injection h with h;subst h
   have h1c:=RV.one' hv hone;obtain⟨_,_,_,hfoff,_⟩:=hcells off _ (abl hoff);obtain⟨arr',e1,e2,e3⟩:=gR (P:=P) (el:=el) [vx] off 0 w arr hgo (by simp;omega) (by intro j hj;simp at hj;subst hj;simpa using hfoff) (by simpa using h1c);simp only[Nat.add_zero]at e2;have hget:∀o:Nat,arr'[o]?=if o=off then some vx else arr[o]?:=by
    intro o;have:=xL (vs:=arr.toList) (l:=[vx]) (off:=off) (by simp;omega) o;rw[<-e2]at this;by_cases e:o=off
    ·subst e;simpa using this
    ·rw[aaN (by simp;omega)]at this;simpa[e]using this
   have hrf':bI (id+1) (cs.set off v)=true:=by
    rw[dQ]at hrf⊢;intro c hc;rcases List.mem_or_eq_of_mem_set hc with h|h
    ·exact hrf c h
    ·subst h;exact href
   let own':Nat->Option Loc:=qY tk q G.own (.cell id off)
   have hown:∀c ℓ,G.own c=some ℓ->(∀y,ℓ ≠ .slot y)->own' c=some ℓ:=λ c ℓ h1 h2=>H6 h1 h2;have hle:Le G ⟨G.F,own'⟩:=⟨λ _ _ _ h=>h,λ c i h=>hown c _ h (by simp)⟩
   have hkeep:∀blk ℓ,G.own blk=some ℓ->(∀i,ℓ ≠ .obj i)->(putRow w b arr' el fz).heap[blk]?=w.heap[blk]?:=λ blk ℓ h1 h2=>cA (tokne _ _ h1 h2);have hor2:kQ (putRow w b arr' el fz) ⟨G.F,own'⟩ id (.cells (cs.set off v) (B2 tk off (eV fl0 off))) (.cells arr' el fz):=by
    simp only[kQ];have hold:∀o z,(o,z)∈eV fl0 off->mU (putRow w b arr' el fz) ⟨G.F,own'⟩ id arr' el o z:=by intro o z hm;obtain⟨hm,hne⟩:=fM.1 hm;refine(hflags o z hm).map λ y hy ht=>?_;exact⟨y,by rw[hget,aaN hne];exact hy,ht.same λ blk hb=>⟨hown _ _ hb (by simp),hkeep _ _ hb (by simp),λ _=>rfl⟩⟩
    refine⟨by simp;omega,λ o c hc=>?_,λ o z hm=>?_⟩
    ·by_cases e:o=off
     ·subst e;rw[List.getElem?_set_self hoff]at hc;simp at hc;subst hc;exact⟨vx,by rw[hget,aaR rfl],RV.mono hle _ _ hv,hfoff,hone⟩
     ·rw[List.getElem?_set_ne (Ne.symm e)]at hc;obtain⟨y,hy,hry,hf,ho1⟩:=hcells o c hc;exact⟨y,by rw[hget,aaN e];exact hy,RV.mono hle _ _ hry,hf,ho1⟩
    ·cases htk':tk with
     |none=>rw[htk']at hm;exact hold o z hm
     |some z0=>
      rw[htk']at hm;simp only[B2]at hm;split at hm
      ·exact hold o z hm
      rename_i hz0;rcases E2 hm with hm|hm
      ·injection hm with m1 m2;subst m1;subst m2
       unfold mU;rw[aaN hz0];obtain⟨y,hq,ht⟩:=htk _ htk';refine⟨vx,by rw[hget,aaR rfl],?_⟩;rcases ht with ht|⟨blk,hb,ht⟩
       ·exact .inl ht
       ·refine .inr ⟨blk,?_,(ht.same (hkeep _ _ hb (by simp)) λ _=>rfl).weak⟩
        exact H7 htk' hq hb
      ·exact hold o z hm
   refine⟨putRow w b arr' el fz,⟨G.F,own'⟩,?_,?_⟩
   ·have hcz:¬vx.cells.size≠1:=by rw[RV.cells_one hv hone];simp
    simp only[Instr.storeAt,Instr.sureAddr,Sem.run_bind,Sem.run_pure,Result.andThen_ok,storeVar,dn hsz,aaN hcz,RV.cells_one hv hone];exact e1
   ·refine⟨hI.write ho hob hgo (λ c ℓ h h1 _=>hown c ℓ h h1) (λ c ℓ h=>?_) hrf' hor2,Ext.write hI ho hgo (λ c ℓ h h1 _=>hown c ℓ h h1) (λ c h=>H8 h) (λ c i h=>?_),λ y z v' hne ht=>ht.same λ blk hb=>⟨H9 hne hb,hkeep _ _ hb (by simp),λ _=>rfl⟩,λ id1 off1 hsp b1 hb1=>?_⟩
    ·rcases Ba h with⟨e,h⟩|h
     ·exact .inr (.inl ⟨off,e,h⟩)
     ·exact .inr (.inr h)
    ·rcases Ba h with⟨e,_⟩|h
     ·cases e
     ·exact h
    ·by_cases e:b1=b
     ·subst e;have hid:id1=id:=by rw[ho]at hb1;injection hb1 with hb1;injection hb1 with hb1;exact hb1.symm
      subst hid;have hne:off1≠off:=by rcases hsp id1 off rfl with h|h|h<;>first|exact absurd rfl h|omega
      simp[World.cell?,ix hbsz,hgo,hget,hne]
     ·exact cell?_of_heap (cA e) _
 |_=>simp only[kQ]at hor
end
section
variable {P : Program} {w : World} {G : Sg} {S : List Ob} {SP : Nat → Nat → Prop}
theorem St1.of_push{go:Obj}{o:Ob}(hI:Inv w G S)(hr:∀cs fl,o = .cells cs fl->bI (S.length+1) cs=true)(hor:kQ (eT w go) (dj w G (.obj S.length)) S.length o go):
  St1 w G S (eT w go) (dj w G (.obj S.length)) (o::S) none SP/\(dj w G (.obj S.length)).own w.heap.size=some (.obj S.length):=by
 obtain⟨h1,h2⟩:=JM hI hr hor;exact⟨⟨h1,h2,λ q' sz v _ h=>h.push hI,λ id off _ b hb=>cell?_of_heap (ef (hI.tk _ _ hb)) off⟩,by simp[dj]⟩
end
section
variable {P : Program} {w : World} {G : Sg} {S : List Ob} {SP : Nat → Nat → Prop}
theorem DD{e:TypeId}(h:((P.info? e).map (·.bytes)).getD 5000<=1024):∃i,P.info? e=some i/\i.bytes<=1024:=by
 cases hi:P.info? e with
 |none=>simp[hi]at h
 |some i=>simp[hi]at h;exact⟨i,rfl,h⟩
theorem yK{e:TypeId}{z:List V}(h:ie P e=some z):∃i v,P.info? e=some i/\i.zero=some v/\eY G z v.cells.toList:=by
 unfold ie at h;split at h
 ·rename_i v hv
  cases hi:P.info? e with
  |none=>simp[hi]at hv
  |some i=>simp[hi]at hv;exact⟨i,v,rfl,hv,uH h⟩
 ·simp at h
theorem Inv.drew(hI:Inv w G S):Inv w.drew G S:=⟨hI.fz,hI.ob,hI.inj,hI.tk,hI.cl,hI.rf,hI.tb⟩
theorem St1.drew(hI:Inv w G S):St1 w G S w.drew G S none SP:=
 ⟨hI.drew,⟨rfl,rfl,rfl,aa4 _,λ _ _ _ h=>h,λ _ _ h=>h,λ _ _ _=>⟨rfl,rfl,λ _=>rfl⟩,λ _ _ h _=>h,λ _ _ _=>rfl,aa4 _⟩,λ _ _ _ _ h=>h,λ _ _ _ _ _=>rfl⟩
theorem St1.trans{w1 w2:World}{G1 G2:Sg}{S1 S2:List Ob}{q q2:Option Nat}(h:St1 w G S w1 G1 S1 q SP)(k:St1 w1 G1 S1 w2 G2 S2 q2 SP)(hq:q=none\/q=q2):St1 w G S w2 G2 S2 q2 SP:={
 inv:=k.inv
 ext:=h.ext.trans k.ext
 tok q' sz v hne ht:=k.tok q' sz v hne (h.tok q' sz v (by rcases hq with e|e<;>subst e;simp;exact hne) ht)
 sp id off hs b hb:=(k.sp id off hs b (h.ext.obj _ _ hb)).trans (h.sp id off hs b hb) }
def gC(w:World)(G:Sg)(arr:Array Value)(n:Nat)(ℓ:Option Loc):Sg:=
 ⟨λ b o=>if b=w.heap.size then(if o<n then arr[o]? else none)else G.F b o,λ b=>if b=w.heap.size then ℓ else G.own b⟩
theorem PQ(hI:Inv w G S)(arr:Array Value)(el:TypeId)(fz:Nat×Nat)(n:Nat)(ℓ:Option Loc)(hℓ:∀x,ℓ=some x->∃d,x = .slot d):
  St1 w G S (eT w (.cells arr el fz)) (gC w G arr n ℓ) S none SP:=by
 have hold:∀b,b<w.heap.size->(gC w G arr n ℓ).own b=G.own b:=λ b hb=>by simp only[gC];rw[aaN (by omega)]
 have holdF:∀b o,b<w.heap.size->(gC w G arr n ℓ).F b o=G.F b o:=λ b o hb=>by simp only[gC];rw[aaN (by omega)]
 have hsz:(eT w (.cells arr el fz)).heap.size=w.heap.size+1:=by simp[eT]
 have hF:Tu G.F (gC w G arr n ℓ).F:=λ b o v h=>by rw[holdF b o (hI.F_lt h)];exact h
 have hle:Le G (gC w G arr n ℓ):=⟨hF,λ b id h=>by rw[hold b (hI.tk _ _ h)];exact h⟩
 have hobj:∀b id,(gC w G arr n ℓ).own b=some (.obj id)->G.own b=some (.obj id):=by
  intro b id h;simp only[gC]at h;split at h
  ·obtain⟨d,e⟩:=hℓ _ h;cases e
  ·exact h
 have htok:∀ℓ' sz v,gq w G ℓ' sz v->gq (eT w (.cells arr el fz)) (gC w G arr n ℓ) ℓ' sz v:=λ ℓ' sz v h=>
  h.same λ blk hb=>⟨by rw[hold _ (hI.tk _ _ hb)];exact hb,ef (hI.tk _ _ hb),λ o=>holdF _ _ (hI.tk _ _ hb)⟩
 refine⟨⟨λ b o v h=>?_,λ b id h=>?_,λ b b' id h h'=>hI.inj _ _ _ (hobj _ _ h) (hobj _ _ h'),λ b ℓ' h=>?_,λ b id o h=>?_,hI.rf,hI.tb_of λ b hb h0=>⟨ef hb,(hold b hb).trans h0⟩⟩,⟨rfl,rfl,rfl,by omega,hF,hle.obj,λ b hb _=>⟨hold b hb,ef hb,λ o=>holdF b o hb⟩,λ b id h _=>hobj _ _ h,λ _ _ _=>rfl,aa4 _⟩,λ q' sz v _ h=>htok _ _ _ h,λ id off _ b hb=>cell?_of_heap (ef (hI.tk _ _ hb)) off⟩
 ·by_cases e:b=w.heap.size
  ·subst e;simp only[gC,if_true]at h;split at h
   ·unfold World.cell?;simp only[eT,Array.getElem?_push_size];exact h
   ·simp at h
  ·simp only[gC,aaN e]at h;rw[cell?_of_heap (ef (hI.F_lt h))];exact hI.fz b o v h
 ·have h0:=hobj _ _ h;have hb:=hI.tk _ _ h0;obtain⟨h1,o,go,h2,h3,h4⟩:=hI.ob b id h0;refine⟨λ o=>by rw[holdF b o hb];exact h1 o,o,go,h2,by rw[ef hb];exact h3,h4.same hle λ off blk hk=>?_⟩;have hb':=hI.tk _ _ hk;exact⟨by rw[hold _ hb'];exact hk,ef hb',λ o=>holdF _ _ hb'⟩
 ·rw[hsz];by_cases e:b=w.heap.size
  ·omega
  ·simp only[gC,aaN e]at h;have:=hI.tk _ _ h;omega
 ·simp only[gC]at h;split at h
  ·obtain⟨d,e⟩:=hℓ _ h;cases e
  ·exact hI.cl _ _ _ h
theorem PO(hI:Inv w G S){arr:Array Value}{xs:List D}{l:List Value}{n c sz:Nat}{ℓ:Option Loc}{full:Bool}(hs:sized xs sz)(hr:eg G.F (xs.flatMap D.cells) l)(hl:∀(i:Nat) v,l[i]?=some v->arr[i]?=some v)(hn:xs.length*sz<=n)(hc:xs.length<=c)(hf:full=true->c=xs.length):
  RD (gC w G arr n ℓ).F (.l full xs) (.slice (some ⟨w.heap.size,0,none⟩) xs.length c):=by
 simp only[RD];refine⟨_,_,_,sz,rfl,rfl,hc,hf,hs,λ _=>⟨_,_,rfl,?_⟩⟩;rw[kv];refine cN.of_get λ i d hi=>?_;obtain⟨v,hv,hrv⟩:=eg.get hr hi;have hlt:=(abE.1 hi).1;rw[jm hs]at hlt;refine⟨v,?_,RD.mono (λ b o v h=>?_) d v hrv⟩
 ·simp only[gC,if_true,abv];rw[aaR (by omega)];exact hl _ _ hv
 ·simp only[gC];rw[aaN]
  ·exact h
  ·have:=hI.F_lt h;omega
theorem MO{arr:Array Value}{el:TypeId}{n c sz d zc:Nat}{fz:Nat×Nat}(hzc:zc%1000000=sz)(hty:∀t,y3 zc=some t->el=t)(hn:n<=c)(hc:c*sz<=arr.size)(hfz:fz=(0,0)):
  gq (eT w (.cells arr el fz)) (gC w G arr (n*sz) (some (.slot d))) (.slot d) zc (.slice (some ⟨w.heap.size,0,none⟩) n c):=by
 subst hzc;refine .inr ⟨w.heap.size,by simp[gC],0,n,c,arr,el,fz,rfl,Bk,hn,by omega,by subst hfz;exact aa4 _,⟨hty,λ _=>⟨rfl,by subst hfz;rfl⟩⟩,λ o ho=>⟨?_,by subst hfz;simp⟩⟩;simp only[gC,if_true];rw[aaN (by omega)]
theorem Mj{y:Nat}{c:Int}(h:y<=1024)(h0:0<=c)(hc:c<=4294967296):(y:Int)*c<=281474976710656:=by have:(y:Int)*c<=1024*4294967296:=Int.mul_le_mul (by omega) hc (by omega) (by omega);omega
theorem zG{z:Array Value}(hz:z.size=1){n o:Nat}(h:o<n):(madeCells z n)[o]?=some z[0]!:=by simp[madeCells,hz,Nat.mod_one,h]
theorem aaM(hI:Inv w G S){t e:TypeId}{zd:D}{n c v:V}{vn vc:Value}{d:Nat}(hu:P.underlying t=some (.slice e))(hz:ie P e=some [.d zd])(hb:((P.info? e).map (·.bytes)).getD 5000<=1024)(hsz:cq P e=some 1)(hn:RV G n vn)(hc:RV G c vc)(h:Zz zd n c=some v):
  ∃x w' G',(Instr.makeSlice t vn vc).run P w = .ok x w'/\RV G' v x/\St1 w G S w' G' S none SP/\gq w' G' (.slot d) 1 x:=by
 unfold Zz at h;split at h;rotate_left
 ·simp at h
 rename_i k n j c;split at h;rotate_left
 ·simp at h
 rename_i hcnd;obtain⟨h0,hnc,hc32,hw⟩:=hcnd;injection h with h;subst h
 simp only[RV,RD]at hn hc;subst hn;subst hc;obtain⟨i,hi,hbi⟩:=DD hb;obtain⟨i',z,hi',hiz,hzr⟩:=yK (G:=G) hz;rw[hi]at hi';injection hi' with hi';subst hi'
 have his:i.size=1:=by simp[cq,hi]at hsz;exact hsz
 have hzl:=eY.length hzr;have hzs:z.cells.size=1:=by simpa using hzl
 have hz0:RD G.F zd z.cells[0]!:=by
  obtain⟨u,hu0,hru⟩:=eY.get hzr (i:=0) rfl;simp only[RV]at hru;have:z.cells[0]! = u:=by rw[getElem!_pos z.cells 0 (by omega)];simpa[Array.getElem?_eq_getElem (show 0<z.cells.size by omega)]using hu0
  rw[this];exact hru
 have hr:=run_make (P:=P) w t e i z hu hi hiz k j n c h0 hnc (Mj hbi (by omega) hc32) (by omega);rw[his,Nat.mul_one]at hr;have hsz':sized (List.replicate n.toNat zd) 1:=λ x hx=>by rw[(List.mem_replicate.1 hx).2,<-D.cells_length];cases zd<;>first|rfl|simp[V.one]at hw
 have hcells:zd.cells=[zd]:=by cases zd<;>first|rfl|simp[V.one]at hw
 have hn0:(List.replicate n.toNat zd).length=n.toNat:=List.length_replicate ..;have hRD:=PO (w:=w) (arr:=madeCells z.cells c.toNat) (n:=n.toNat*1) (c:=c.toNat) (ℓ:=some (.slot d)) (full:=false) hI hsz' (l:=List.replicate n.toNat z.cells[0]!) (by
   refine eg.of_get (by rw[jm hsz'];simp) λ i x hx=>?_;have he:(List.replicate n.toNat zd).flatMap D.cells=List.replicate n.toNat zd:=by
    generalize n.toNat=m
    induction m with
    |zero=>rfl
    |succ m ih=>rw[List.replicate_succ,List.flatMap_cons,ih,hcells];rfl
   rw[he]at hx;obtain⟨h1,h2⟩:=abE.1 hx;simp at h1 h2;subst h2
   exact⟨_,by rw[List.getElem?_replicate,aaR (by omega)],hz0⟩) (λ i v hi=>by
   obtain⟨h1,h2⟩:=abE.1 hi;simp at h1 h2
   rw[zG hzs (by omega),h2]) (by omega) (by omega) (by simp)
 rw[hn0]at hRD;refine⟨_,_,_,hr,by simp only[RV];exact hRD,PQ hI _ _ _ _ _ (λ x hx=>by injection hx with hx;exact⟨d,hx.symm⟩),MO (by decide) (by intro t h;simp[y3]at h) (by omega) (by simp[madeCells]) rfl⟩
theorem Qj(hI:Inv w G S){t e:TypeId}{zd n c:V}{vn vc:Value}{r:Out}(hu:P.underlying t=some (.slice e))(hz:ie P e=some [zd])(hb:((P.info? e).map (·.bytes)).getD 5000<=1024)(hsz:cq P e=some 1)(hn:RV G n vn)(hc:RV G c vc)(h:ou S zd n c=some r):
  ∃x w' G',(Instr.makeSlice t vn vc).run P w = .ok x w'/\RV G' r.1 x/\St1 w G S w' G' r.2 none SP:=by
 unfold ou at h;split at h;rotate_left
 ·simp at h
 rename_i k n j c;split at h;rotate_left
 ·simp at h
 rename_i hcnd;obtain⟨h0,hnc,hc32,hone,href⟩:=hcnd;subst hnc;injection h with h;subst h
 simp only[RV,RD]at hn hc;subst hn;subst hc;obtain⟨i,hi,hbi⟩:=DD hb;obtain⟨i',z,hi',hiz,hzr⟩:=yK (G:=G) hz;rw[hi]at hi';injection hi' with hi';subst hi'
 have his:i.size=1:=by simp[cq,hi]at hsz;exact hsz
 have hzl:=eY.length hzr;have hzs:z.cells.size=1:=by simpa using hzl
 have hz0:RV G zd z.cells[0]!:=by
  obtain⟨u,hu0,hru⟩:=eY.get hzr (i:=0) rfl;have:z.cells[0]! = u:=by rw[getElem!_pos z.cells 0 (by omega)];simpa[Array.getElem?_eq_getElem (show 0<z.cells.size by omega)]using hu0
  rw[this];exact hru
 have hr:=run_make (P:=P) w t e i z hu hi hiz k j n n h0 (Int.le_refl _) (Mj hbi (by omega) hc32) (by omega);rw[his,Nat.mul_one]at hr;have hsm:(madeCells z.cells n.toNat).size=n.toNat:=by simp[madeCells]
 obtain⟨h1,h2⟩:=uC hI (el:=e) (cs:=List.replicate n.toNat zd) (fl:=[]) (arr:=madeCells z.cells n.toNat) (SP:=SP) (by
   refine eY.of_get (by simp[hsm]) λ i x hx=>?_;obtain⟨h1,h2⟩:=abE.1 hx;simp at h1 h2;subst h2;refine⟨_,?_,hz0⟩
   rw[abP (by simpa using h1),Array.getElem?_toList,zG hzs (by omega)]) (by simp[hone]) (by simp[hsm]) (t:=none) (by simp[oH]) (λ _ e=>by cases e) (by rw[dQ];intro x hx;rw[(List.mem_replicate.1 hx).2];exact pX (by omega) _ href) (0,0) (.inl rfl)
 refine⟨_,_,_,hr,?_,h1⟩;simp only[RV];exact⟨_,_,rfl,aa4 _,λ _=>⟨_,h2,rfl⟩⟩
theorem Ff{F:Fz}(b:List UInt8):eg F (ofBytes b) (b.map λ c=>Value.int .u8 c.toNat):=by refine eg.of_get (by simp[ofBytes]) λ i x hx=>?_;simp[ofBytes]at hx;obtain⟨c,hc,rfl⟩:=hx;exact⟨_,by rw[List.getElem?_map,hc];rfl,by simp only[RD]⟩
theorem zI(b:List UInt8):sized (ofBytes b) 1:=by intro x hx;simp[ofBytes]at hx;obtain⟨c,_,rfl⟩:=hx;rfl
theorem CN(b:List UInt8):(ofBytes b).flatMap D.cells=ofBytes b:=by
 induction b with
 |nil=>rfl
 |cons c b ih=>simp only[ofBytes,List.map_cons,List.flatMap_cons]at ih⊢;rw[ih];rfl
theorem TU(b:List UInt8)(cap:Nat)(i:Nat)(v:Value)(h:(b.map λ c=>Value.int .u8 c.toNat)[i]?=some v):(bytesRow ⟨b.toArray⟩ cap)[i]?=some v:=by have hlt:=(abE.1 h).1;simp at hlt;unfold bytesRow;rw[Array.getElem?_append_left (by simpa using hlt)];simpa using h
end
section
variable {P : Program} {w : World} {G : Sg} {S : List Ob} {SP : Nat → Nat → Prop}
theorem kQ.same'{w':World}{G':Sg}{id:Nat}{o:Ob}{go:Obj}(h:kQ w G id o go)(hle:Le G G')(hk:∀cs fl,o = .cells cs fl->∀off z,(off,z)∈fl->∀blk,G.own blk=some (.cell id off)->G'.own blk=some (.cell id off)/\w'.heap[blk]?=w.heap[blk]?/\∀o,G'.F blk o=G.F blk o):kQ w' G' id o go:=by
 cases o with
 |cells cs fl=>
  cases go<;>simp only[kQ]at h⊢;obtain⟨h1,h2,h3⟩:=h;refine⟨h1,λ o c hc=>?_,λ o sz hm=>?_⟩
  ·obtain⟨v,hv,hr,hf,ho⟩:=h2 o c hc;exact⟨v,hv,RV.mono hle c v hr,hf,ho⟩
  ·exact(h3 o sz hm).map λ v hv ht=>⟨v,hv,ht.same (hk _ _ rfl o sz hm)⟩
 |dead=>cases go<;>simp only[kQ]at h
def Src(S:List Ob)(ℓ:Loc):Prop:=(∃q,ℓ = .slot q)\/∃id off,ℓ = .cell id off/\∀cs fl z,bV S id=some (.cells cs fl)->(off,z)∉fl
def jQ:Option Loc->Option Nat
 |some (.slot q)=>some q
 |_=>none
theorem Src.not_obj{ℓ:Loc}(h:Src S ℓ):∀i,ℓ ≠ .obj i:=by rintro i rfl;rcases h with⟨q,e⟩|⟨_,_,e,_⟩<;>cases e
theorem Src.not_ext{ℓ:Loc}(h:Src S ℓ):ℓ ≠ .ext:=by rintro rfl;rcases h with⟨q,e⟩|⟨_,_,e,_⟩<;>cases e
theorem HJ(hI:Inv w G S){ℓ:Loc}{blk off n m c sz d zc:Nat}{cs:Array Value}{el:TypeId}{fz:Nat×Nat}{xs zs:List D}{l:List Value}(hsrc:Src S ℓ)(ho:G.own blk=some ℓ)(hgo:w.heap[blk]?=some (.cells cs el fz))(hnc:n+m<=c)(hcs:off+c*sz<=cs.size)(hzc:zc%1000000=sz)(hf2:fz.1<=fz.2)(hty:(∀t,y3 zc=some t->el=t)/\(zM (.slot d) zc=true->off=0/\fz.1=fz.2))
  (hfr:∀o,off+n*sz<=o->G.F blk o=none/\¬(fz.1<=o/\o<fz.2)) (hn:xs.length=n) (hm:zs.length=m) (hxs:sized xs sz) (hzs:sized zs sz) (hxr:bN G.F blk off xs) (hl:eg G.F (zs.flatMap D.cells) l) (hone:∀v∈l,v.oneCell'=true):
  ∃w' G',(storeCells ((⟨blk,off,none⟩:Addr).add (n*sz)) l).run P w = .ok () w'/\St1 w G S w' G' S (jQ (some ℓ)) SP/\RD G'.F (.l false (xs++zs)) (.slice (some ⟨blk,off,none⟩) (n+m) c)/\gq w' G' (.slot d) zc (.slice (some ⟨blk,off,none⟩) (n+m) c):=by
 have hll:l.length=m*sz:=by rw[eg.length hl,jm hzs,hm]
 have hmul:(n+m)*sz<=c*sz:=abH _ hnc;rw[abw]at hmul;have hbsz:=qv hgo;obtain⟨arr',e1,e2,e3⟩:=gR (P:=P) l (off+n*sz) 0 w cs hgo (by omega) (λ j hj=>by simpa using(hfr (off+n*sz+j) (by omega)).2) hone;simp only[Nat.add_zero]at e2;have hget:∀o:Nat,arr'[o]?=if off+n*sz<=o/\o<off+n*sz+m*sz then l[o-(off+n*sz)]? else cs[o]?:=by intro o;have:=xL (vs:=cs.toList) (l:=l) (off:=off+n*sz) (by rw[hll,Array.length_toList];omega) o;rw[<-e2,hll]at this;simpa using this
 let F':Fz:=λ b o=>if b=blk/\off+n*sz<=o/\o<off+n*sz+m*sz then arr'[o]? else G.F b o
 let own':=lN G.own ℓ (.slot d)
 have hF:Tu G.F F':=by
  intro b o v h;simp only[F'];rw[aaN]
  ·exact h
  ·rintro⟨rfl,h1,_⟩;rw[(hfr o h1).1]at h;simp at h
 have hFo:∀b o,b≠blk->F' b o=G.F b o:=λ b o h=>by simp only[F'];rw[aaN (by intro x;exact h x.1)]
 have hobj:∀b id,own' b=some (.obj id)->G.own b=some (.obj id):=by
  intro b id h;rcases jw h with⟨e,_⟩|h
  ·cases e
  ·exact h
 have hne:∀b ℓ',G.own b=some ℓ'->ℓ'≠ℓ->b≠blk:=by intro b ℓ' h1 h2 e;subst e;rw[ho]at h1;injection h1 with h1;exact h2 h1.symm
 have hle:Le G ⟨F',own'⟩:=⟨hF,λ b id h=>gb h (λ e=>hsrc.not_obj _ e.symm)⟩
 have htok:∀ℓ' sz v,ℓ'≠ℓ->gq w G ℓ' sz v->gq (putRow w blk arr' el fz) ⟨F',own'⟩ ℓ' sz v:=λ ℓ' sz v hn h=>
  h.same λ b hb=>⟨gb hb hn,cA (hne _ _ hb hn),λ o=>hFo _ _ (hne _ _ hb hn)⟩
 refine⟨putRow w blk arr' el fz,⟨F',own'⟩,?_,⟨⟨λ b o v h=>?_,λ b id h=>?_,λ b b' id h h'=>hI.inj _ _ _ (hobj _ _ h) (hobj _ _ h'),λ b ℓ' h=>?_,λ b id o h=>?_,hI.rf,hI.tb_of λ c hc h0=>⟨cA λ e=>(by subst e;rw[ho]at h0;cases h0),(by
   show own' c=none
   cases hc':own' c with
   |none=>rfl
   |some y=>rcases jw hc' with⟨_,h'⟩|h'<;>rw[h0]at h'<;>cases h')⟩⟩,⟨rfl,rfl,rfl,by simp[putRow],hF,hle.obj,λ b hb h=>?_,λ b id h _=>hobj _ _ h,λ _ _ _=>rfl,aa4 _⟩,λ q' sz v hq h=>htok _ _ _ (λ e=>hq (by rw[<-e];rfl)) h,λ id off _ b hb=>cell?_of_heap (cA (hne _ _ hb (λ e=>hsrc.not_obj _ e.symm))) off⟩,?_,?_⟩
 ·rw[Addr.add_plain];exact e1
 ·by_cases e:b=blk
  ·subst e;have hc:(putRow w b arr' el fz).cell? ⟨b,o,none⟩=arr'[o]?:=by simp[World.cell?,ix hbsz]
   rw[hc];simp only[F']at h;split at h
   ·exact h
   ·rename_i hno;have hlt:o<off+n*sz:=by
     rcases abn o (off+n*sz)with h' | h'
     ·exact h'
     ·rw[(hfr o h').1]at h;simp at h
    rw[hget,aaN (by omega)];have:=hI.fz b o v h;simpa[World.cell?,hgo]using this
  ·replace h:F' b o=some v:=h;rw[hFo _ _ e]at h;rw[cell?_of_heap (cA e)];exact hI.fz b o v h
 ·have h0:=hobj _ _ h;have hb:b≠blk:=hne _ _ h0 (λ e=>hsrc.not_obj _ e.symm);obtain⟨h1,o,go,h2,h3,h4⟩:=hI.ob b id h0;refine⟨λ o=>(hFo _ _ hb).trans (h1 o),o,go,h2,by rw[cA hb];exact h3,h4.same' hle λ cs1 fl1 hc off1 z hm1 b1 hk=>?_⟩;have hnl:Loc.cell id off1≠ℓ:=by
   rintro rfl;rcases hsrc with⟨q,e⟩|⟨id',off',e,hno⟩
   ·cases e
   ·injection e with e4 e5;subst e4;subst e5
    subst hc;exact hno _ _ _ h2 hm1
  exact⟨gb hk hnl,cA (hne _ _ hk hnl),λ o=>hFo _ _ (hne _ _ hk hnl)⟩
 ·have:(putRow w blk arr' el fz).heap.size=w.heap.size:=by simp[putRow]
  rw[this];rcases jw h with⟨_,h⟩|h<;>exact hI.tk _ _ h
 ·rcases jw h with⟨e,_⟩|h
  ·cases e
  ·exact hI.cl _ _ _ h
 ·have hb':b≠blk:=by
   rintro rfl;rw[ho]at h;rcases h with h|h
   ·cases h
   ·injection h with h;exact hsrc.not_ext h
  refine⟨?_,cA hb',λ o=>hFo _ _ hb'⟩;rcases h with h|h
  ·rw[h];exact oz h
  ·rw[h];exact gb h hsrc.not_ext.symm
 ·simp only[RD];refine⟨_,_,_,sz,rfl,by simp[hn,hm],hnc,by simp,hxs.append hzs,λ _=>⟨_,_,rfl,?_⟩⟩;rw[bN.append hxs];refine⟨bN.mono hF _ _ _ hxr,?_⟩;rw[kv,hn];refine cN.of_get λ i x hi=>?_;obtain⟨v,hv,hr⟩:=eg.get hl hi;have hlt:=(abE.1 hv).1;refine⟨v,?_,RD.mono hF _ _ hr⟩;simp only[F'];rw[aaR ⟨trivial,by omega,by omega⟩,hget,aaR ⟨by omega,by omega⟩,show off+n*sz+i-(off+n*sz)=i by omega];exact hv
 ·refine .inr ⟨blk,rW ho,off,n+m,c,arr',el,fz,rfl,ix hbsz,hnc,by rw[hzc];omega,hf2,hty,λ o h=>?_⟩
  rw[hzc,abw]at h;obtain⟨f1,f2⟩:=hfr o (by omega);exact⟨by simp only[F'];rw[aaN (by omega)];exact f1,f2⟩
theorem Ks(hI:Inv w G S){sz:Nat}{y:V}{vy:Value}{zs:List D}(hv:RV G y vy)(h:dK S sz y=some zs)(hh:bA sz zs=true):
  ∃l:List Value,(Builtin.lenOf vy).run P w = .ok zs.length w/\(Builtin.firstCells sz zs.length vy).run P w = .ok l.toArray w/\eg G.F (zs.flatMap D.cells) l/\sized zs sz:=by
 unfold dK at h;split at h
 ·rename_i b;injection h with h;subst h
  simp only[RV,RD]at hv;subst hv;have hlen:(ofBytes b).length=b.length:=by simp[ofBytes]
  refine⟨b.map λ c=>Value.int .u8 c.toNat,?_,?_,?_,oa hh (zI b)⟩
  ·simp[Builtin.lenOf,hlen];rfl
  ·simp only[Builtin.firstCells,hlen];have:(ByteArray.extract ⟨b.toArray⟩ 0 b.length).data=b.toArray:=by simp[ByteArray.data_extract]
   simp[this]
  ·rw[CN];exact Ff b
 ·obtain⟨a,c,rfl,hc,hs,l,h1,h2,h3⟩:=wJ (P:=P) hI hv h hh;exact⟨l,by simp[Builtin.lenOf],h2,h3,hs⟩
def BZ(P:Program)(ats:Array TypeId):Prop:=∀u,ats[1]?=some u->∃d,P.underlying u=some d/\∀k,d ≠ .int k
theorem q8{ats:Array TypeId}{t ty e:TypeId}{i:TypeInfo}{base:Option Addr}{sLen sCap n:Nat}{x:Value}{news:Array Value}{w':World}(h0:ats[0]?=some t)(hz:BZ P ats)(hu:P.underlying t=some (.slice e))(hi:P.info? e=some i)
  (hl:(Builtin.lenOf x).run P w = .ok n w) (hf:(Builtin.firstCells i.size n x).run P w = .ok news w) (hle:sLen+n<=sCap) (hst:∀a,base=some a->(storeCells (a.add (sLen*i.size)) news.toList).run P w = .ok () w') (hst0:base=none->w'=w):
  (Builtin.append_ ats ty #[.slice base sLen sCap,x]).run P w = .ok (.slice base (sLen+n) sCap) w':=by
 cases hu1:ats[1]? with
 |none=>
  cases base with
  |none=>rw[hst0 rfl];simp[Builtin.append_,h0,hu1,run_underlying hu,sizeOf,typeInfo,hi,hl,hf,hle]
  |some a=>simp[Builtin.append_,h0,hu1,run_underlying hu,sizeOf,typeInfo,hi,hl,hf,hle,hst a rfl]
 |some u=>
  obtain⟨d,hd,hn⟩:=hz u hu1;have hm:(match d with | .int k=>true|_=>false)=false:=by cases d<;>first|rfl|exact absurd rfl (hn _)
  cases base with
  |none=>rw[hst0 rfl];simp[Builtin.append_,h0,hu1,run_underlying hu,run_underlying hd,hm,sizeOf,typeInfo,hi,hl,hf,hle]
  |some a=>simp[Builtin.append_,h0,hu1,run_underlying hu,run_underlying hd,hm,sizeOf,typeInfo,hi,hl,hf,hle,hst a rfl]
theorem yv{ats:Array TypeId}{t ty e:TypeId}{i:TypeInfo}{z:Value}{base:Option Addr}{sLen sCap n:Nat}{x:Value}{olds news:Array Value}(h0:ats[0]?=some t)(hz:BZ P ats)(hu:P.underlying t=some (.slice e))(hi:P.info? e=some i)(hiz:i.zero=some z)
  (hl:(Builtin.lenOf x).run P w = .ok n w) (hf:(Builtin.firstCells i.size n x).run P w.drew = .ok news w.drew) (hfo:(Builtin.firstCells i.size sLen (.slice base sLen sCap)).run P w.drew = .ok olds w.drew) (hgt:¬sLen+n<=sCap) (h63:sLen+n<=4294967296) (hb:i.bytes<=1024):
  (Builtin.append_ ats ty #[.slice base sLen sCap,x]).run P w = .ok (.slice (some ⟨w.heap.size,0,none⟩) (sLen+n) (grownCap w (sLen+n) sCap e)) (eT w.drew (.cells (olds++news++Builtin.zeroCells z.cells (grownCap w (sLen+n) sCap e-(sLen+n))) e (0,0))):=by
 have hfit:Builtin.nextslicecap (sLen+n) sCap*i.bytes<=281474976710656:=growslice_fits (by omega) (by
  have:(sLen+n)*i.bytes<=4294967296*1024:=Nat.mul_le_mul h63 hb
  omega)
 have h48':¬(281474976710656<Builtin.nextslicecap (sLen+n) sCap*i.bytes):=by omega
 have h63':¬(9223372036854775807<((sLen:Int)+(n:Int))):=by omega
 cases hu1:ats[1]? with
 |none=>
  simp[Builtin.append_,h0,hu1,run_underlying hu,sizeOf,typeInfo,hi,hl,zeroValue,hiz,hgt,h63',h48',Question.forced,hf,hfo,newRow,grownCap];rfl
 |some u=>
  obtain⟨d,hd,hn⟩:=hz u hu1;have hm:(match d with | .int k=>true|_=>false)=false:=by cases d<;>first|rfl|exact absurd rfl (hn _)
  simp[Builtin.append_,h0,hu1,run_underlying hu,run_underlying hd,hm,sizeOf,typeInfo,hi,hl,zeroValue,hiz,hgt,h63',h48',Question.forced,hf,hfo,newRow,grownCap];rfl
theorem Nk{F:Fz}{zs:List D}{l:List Value}(h:dV zs=true)(hl:eg F (zs.flatMap D.cells) l):∀v∈l,v.oneCell'=true:=by
 intro v hv;obtain⟨j,hj⟩:=List.mem_iff_getElem?.1 hv;have hjl:=(abE.1 hj).1;rw[eg.length hl]at hjl;obtain⟨u,hu,hr⟩:=eg.get hl (abl hjl);rw[hj]at hu;injection hu with hu;subst hu
 refine hr.one' ?_;have hm:=List.getElem_mem hjl;obtain⟨x,hx,hc⟩:=List.mem_flatMap.1 hm;exact abu.1 (abu.1 h x hx) _ hc
theorem Md(hI:Inv w G S){ats:Array TypeId}{t ty e:TypeId}{sz d zc:Nat}{full:Bool}{xs zs:List D}{y:V}{vb vy:Value}{ℓ:Option Loc}(hsm:sz<1000000)(hzc:zc%1000000=sz)(hte:∀t,y3 zc=some t->e=t)(h0:ats[0]?=some t)(htl:BZ P ats)(hu:P.underlying t=some (.slice e))(hsz:cq P e=some sz)(hz:(ie P e).map (·.length)=some sz)(hb:((P.info? e).map (·.bytes)).getD 5000<=1024)
  (hbv:RV G (.d (.l full xs)) vb) (hyv:RV G y vy) (ht:dK S sz y=some zs) (hx:bA sz xs=true) (hh:bA sz zs=true) (hlen:xs.length+zs.length<=4294967296) (hfull:(full=false\/zc≠sz/\xs≠[])->∃ℓ0,ℓ=some ℓ0/\gq w G ℓ0 zc vb) (hth:∀ℓ0,ℓ=some ℓ0->zM (.slot d) zc=true->zM ℓ0 zc=true) (hone:full=false->dV zs=true) (hℓ:∀ℓ0,ℓ=some ℓ0->Src S ℓ0):
  ∃x w' G',(Builtin.append_ ats ty #[vb,vy]).run P w = .ok x w'/\RV G' (.d (.l (full&&zs.isEmpty) (xs++zs))) x/\St1 w G S w' G' S (jQ ℓ) SP/\gq w' G' (.slot d) zc x:=by
 obtain⟨i,hi,hbi⟩:=DD hb;have his:i.size=sz:=by simp[cq,hi]at hsz;exact hsz
 obtain⟨z,hzz⟩:∃z,ie P e=some z:=by cases h:ie P e with|none=>rw[h]at hz;simp at hz|some z=>exact⟨z,rfl⟩
 have hzl:z.length=sz:=by rw[hzz]at hz;simpa using hz
 obtain⟨i',zv,hi',hiz,hzr⟩:=yK (G:=G) hzz;rw[hi]at hi';injection hi' with hi';subst hi'
 have hzs:zv.cells.size=sz:=by have:=eY.length hzr;simp at this;omega
 obtain⟨l,hl1,hl2,hl3,hzsz⟩:=Ks (P:=P) hI hyv ht hh;have hbv0:=hbv;simp only[RV,RD]at hbv;obtain⟨a,n,c,sz',rfl,hn,hnc,hf,hs,hr⟩:=hbv;have hxsz:=oa hx hs;by_cases hle:n+zs.length<=c
 ·-- there is room
  have hleft:zs=[]->(∃a' n',Value.slice a n c = .slice a' n' n'/\(1000000<=zc->n'=0))->∃x w' G',(Builtin.append_ ats ty #[.slice a n c,vy]).run P w = .ok x w'/\RV G' (.d (.l (full&&zs.isEmpty) (xs++zs))) x/\St1 w G S w' G' S (jQ ℓ) SP/\gq w' G' (.slot d) zc x:=by
   intro hzn hful;subst hzn;have hln:l=[]:=by have:=eg.length hl3;simpa using this
   subst hln;refine⟨.slice a n c,w,G,?_,by simpa using hbv0,⟨hI,Ext.refl _ _ _,λ _ _ _ _ h=>h,λ _ _ _ _ _=>rfl⟩,.inl hful⟩;exact q8 h0 htl hu hi hl1 (by rw[his];exact hl2) hle (λ a' ha=>by simp[storeCells]) (λ _=>rfl)
  by_cases hfz:full=true/\(zc=sz\/xs=[])
  ·obtain⟨hfu,hzz⟩:=hfz;have:=hf hfu;have hzn:zs=[]:=List.length_eq_zero_iff.1 (by omega);exact hleft hzn ⟨a,n,by rw[this],λ h=>by
    rcases hzz with hzz|hzz
    ·omega
    ·rw[hn,hzz];rfl⟩
  ·have hfu:full=false\/zc≠sz/\xs≠[]:=by
    cases hx:full with
    |false=>exact .inl rfl
    |true=>exact .inr ⟨λ e=>hfz ⟨hx,.inl e⟩,λ e=>hfz ⟨hx,.inr e⟩⟩
   obtain⟨ℓ0,rfl,htok⟩:=hfull hfu;rcases htok with⟨a',n',e,hn0⟩|⟨blk,ho,htl'⟩
   ·injection e with e1 e2 e3
    exact hleft (List.length_eq_zero_iff.1 (by omega)) ⟨a,n,by rw[e3,e2],λ h=>by rw[e2];exact hn0 h⟩
   ·obtain⟨off,n',c',cs,el,fz,e,hgo,g1,g2,g0,g4,g3⟩:=htl';rw[hzc]at g2 g3;injection e with e1 e2 e3;subst e1;subst e2;subst e3
    have hxr:bN G.F blk off xs:=by
     by_cases hxn:xs=[]
     ·subst hxn;simp only[bN]
     ·obtain⟨blk',off',e,hel⟩:=hr hxn;injection e with e;injection e with e1 e2;subst e1;subst e2;exact hel
    obtain⟨w',G',p1,p2,p3,p4⟩:=HJ (P:=P) (SP:=SP) (d:=d) hI (hℓ _ rfl) ho hgo hle g2 hzc g0 ⟨g4.1,λ h=>g4.2 (hth _ rfl h)⟩ g3 hn.symm rfl hxsz hzsz hxr hl3 (λ v hv=>by
     cases hx:full with
     |false=>exact Nk (hone hx) hl3 v hv
     |true=>
      have:=hf hx;have hzn:zs=[]:=List.length_eq_zero_iff.1 (by omega);subst hzn;have hln:l=[]:=by have:=eg.length hl3;simpa using this
      subst hln;cases hv)
    refine⟨_,w',G',q8 h0 htl hu hi hl1 (by rw[his];exact hl2) hle (λ a' ha=>by injection ha with ha;subst ha;rw[his];exact p1) (by simp),?_,p2,p4⟩
    cases hx:full with
    |false=>simp only[Bool.false_and,RV];exact p3
    |true=>
     have:=hf hx;have hzn:zs=[]:=List.length_eq_zero_iff.1 (by omega);subst hzn;have h1:=RV.mono p2.ext.le _ _ hbv0;rw[hx]at h1;simpa using h1
 ·-- a new row
  obtain⟨l',_,hl2',hl3',_⟩:=Ks (P:=P) hI.drew hyv ht hh;have hbv1:RV G (.d (.l full xs)) (.slice a n c):=hbv0;obtain⟨a2,c2,e2,_,_,lo,ho1,ho2,ho3⟩:=wJ (P:=P) (S:=S) (sz:=sz) (xs:=xs) hI.drew hbv1 rfl hx;injection e2 with e2a e2b e2c;subst e2a;subst e2c
  have hgl:grownCap w (n+zs.length) c e ≥ n+zs.length:=grownCap_ge w _ _ e;have hrun:=yv (w:=w) h0 htl hu hi hiz hl1 (by rw[his];exact hl2') (olds:=lo.toArray) (by rw[his];rw[<-hn]at ho2;exact ho2) hle (by omega) hbi (ty:=ty);have hlo:lo.length=n*sz:=by rw[ho1,hn]
  have hll:l'.length=zs.length*sz:=by rw[eg.length hl3',jm hzsz]
  generalize hcap:grownCap w (n+zs.length) c e=cap at hrun hgl;have hasz:(lo.toArray++l'.toArray++Builtin.zeroCells zv.cells (cap-(n+zs.length))).size=cap*sz:=by simp only[Array.size_append,List.size_toArray,size_zeroCells,hlo,hll,hzs];rw[<-abw,<-abw];congr 1;omega
  have hlx:(xs++zs).length=n+zs.length:=by simp[hn]
  have hst:=(St1.drew (SP:=SP) hI).trans (PQ hI.drew (lo.toArray++l'.toArray++Builtin.zeroCells zv.cells (cap-(n+zs.length))) e (0,0) ((n+zs.length)*sz) (some (.slot d)) (λ x hx=>by injection hx with hx;exact⟨d,hx.symm⟩)) (.inl rfl);have hRD:=PO (w:=w.drew) (arr:=lo.toArray++l'.toArray++Builtin.zeroCells zv.cells (cap-(n+zs.length))) (n:=(n+zs.length)*sz) (c:=cap) (ℓ:=some (.slot d)) (full:=full&&zs.isEmpty) hI.drew (hxsz.append hzsz) (l:=lo++l')
   (by rw[List.flatMap_append];exact eg.append ho3 hl3') (λ j v hj=>by
    rw[Array.getElem?_append_left (by have:=(abE.1 hj).1;simpa using this)]
    simpa using hj) (by rw[hlx];exact aa4 _) (by rw[hlx];exact hgl) (by
    intro hff;simp at hff;have:=hf hff.1;have hz0:=hff.2;subst hz0
    simp at hle;omega)
  rw[hlx]at hRD;refine⟨_,_,_,hrun,by simp only[RV];exact hRD,⟨hst.inv,hst.ext,λ q' sz v _ h=>hst.tok q' sz v (by simp) h,hst.sp⟩,?_⟩;exact MO (w:=w.drew) hzc hte hgl (by rw[hasz];exact aa4 _) rfl
end
section
variable {P : Program} {w : World} {G : Sg} {S : List Ob} {SP : Nat → Nat → Prop}
theorem aaD(hI:Inv w G S){ats:Array TypeId}{t ty e:TypeId}{base y:V}{vb vy:Value}{r:Out}(h0:ats[0]?=some t)(htl:BZ P ats)(hu:P.underlying t=some (.slice e))(hsz:cq P e=some 1)(hz:(ie P e).map (·.length)=some 1)
  (hbv:RV G base vb) (hyv:RV G y vy) (h:Yz S (((P.info? e).map (·.bytes)).getD 5000) base y=some r):
  ∃x w' G',(Builtin.append_ ats ty #[vb,vy]).run P w = .ok x w'/\RV G' r.1 x/\St1 w G S w' G' r.2 none SP:=by
 unfold Yz at h;split at h;rotate_left
 ·simp at h
 split at h;rotate_left
 ·simp at h
 rename_i zs ht;split at h;rotate_left
 ·simp at h
 rename_i hc;obtain⟨hh,hone,hb,hlen⟩:=hc;injection h with h;subst h
 obtain⟨i,hi,hbi⟩:=DD hb;have his:i.size=1:=by simp[cq,hi]at hsz;exact hsz
 obtain⟨z,hzz⟩:∃z,ie P e=some z:=by cases h:ie P e with|none=>rw[h]at hz;simp at hz|some z=>exact⟨z,rfl⟩
 obtain⟨i',zv,hi',hiz,hzr⟩:=yK (G:=G) hzz;rw[hi]at hi';injection hi' with hi';subst hi'
 obtain⟨l,hl1,hl2,hl3,hzsz⟩:=Ks (P:=P) hI hyv ht hh;simp only[RV,RD]at hbv;obtain⟨a,n,c,sz',rfl,hn,hnc,hf,hs,hr⟩:=hbv;have hn0:n=0:=by simpa using hn
 have hc0:c=0:=by have:=hf trivial;omega
 subst hn0;subst hc0;by_cases hm:zs=[]
 ·subst hm;have hln:l=[]:=by have:=eg.length hl3;simpa using this
  subst hln;refine⟨.slice a 0 0,w,G,q8 h0 htl hu hi hl1 (by rw[his];exact hl2) (by simp) (λ a' ha=>by simp[storeCells]) (λ _=>rfl),?_,⟨hI.phantom _ (by intro cs fl e;injection e with e _;subst e;rfl),Ext.phantom _,λ _ _ _ _ h=>h,λ _ _ _ _ _=>rfl⟩⟩;simp only[RV];exact⟨a,0,rfl,by simp,by simp⟩
 ·have hml:0<zs.length:=abR.2 hm;obtain⟨l',_,hl2',hl3',_⟩:=Ks (P:=P) hI.drew hyv ht hh;have hfo:(Builtin.firstCells i.size 0 (.slice a 0 0)).run P w.drew = .ok #[] w.drew:=by cases a<;>simp[Builtin.firstCells,loadCells,loadCellsFrom]
  have hrun:=yv (w:=w) (ty:=ty) h0 htl hu hi hiz hl1 (by rw[his];exact hl2') hfo (by omega) (by omega) hbi;have hgl:grownCap w (0+zs.length) 0 e ≥ 0+zs.length:=grownCap_ge w _ _ e;generalize hcap:grownCap w (0+zs.length) 0 e=cap at hrun hgl;have hfl:zs.flatMap D.cells=zs:=by
   have:∀ys:List D,(ys.map V.d).all V.one=true->ys.flatMap D.cells=ys:=by
    intro ys hy
    induction ys with
    |nil=>rfl
    |cons y ys ih=>
     simp at hy;rw[List.flatMap_cons,ih (by simpa using hy.2)];cases y<;>first|rfl|simp[V.one]at hy
   exact this zs hone
  rw[hfl]at hl3';have hll:=eg.length hl3';obtain⟨h1,h2⟩:=uC hI.drew (el:=e) (cs:=zs.map .d) (fl:=[]) (arr:=#[]++l'.toArray++Builtin.zeroCells zv.cells (cap-(0+zs.length))) (SP:=SP) (by
   rw[BW];simp[hll,List.take_append_of_le_length]
   exact hl3') hone (by simp[hll]) (t:=none) (by simp[oH]) (λ _ e=>by cases e) (oy _ _) (0,0) (.inl rfl)
  rw[abv]at hrun hgl;refine⟨_,_,_,hrun,?_,(St1.drew hI).trans (by simpa using h1) (.inl rfl)⟩;simp only[RV];exact⟨_,_,rfl,hgl,λ _=>⟨_,h2,rfl⟩⟩
theorem Mi(hI:Inv w G S){t e:TypeId}{len:Nat}{parts:Array (Nat×Operand)}{vals:List V}{a:Act}{xs:List D}(hf:Fr G vals a)(hu:P.underlying t=some (.slice e))(hsz:cq P e=some 1)
  (hz:(ie P e).isSome=true) (hlen:parts.size=len) (hle:len*1<=16777216) (h:jN 1 0 (parts.toList.map λ p=>(p.1,ev vals p.2))=some xs) (hone:(xs.map V.d).all V.one=true):
  ∃x w' G',(Instr.buildSlice t len (parts.map λ (i,x)=>(i,a.eval x))).run P w = .ok x w'/\RV G' (.m S.length 0 xs.length) x/\St1 w G S w' G' (.cells (xs.map .d) []::S) none SP:=by
 obtain⟨B,h1,h5,h6,h7,h3⟩:=o8 (w:=w) hf hu hsz hz hlen hle h;have hfl:xs.flatMap D.cells=xs:=by
  have:∀ys:List D,(ys.map V.d).all V.one=true->ys.flatMap D.cells=ys:=by
   intro ys hy
   induction ys with
   |nil=>rfl
   |cons y ys ih=>
    simp at hy;rw[List.flatMap_cons,ih (by simpa using hy.2)];cases y<;>first|rfl|simp[V.one]at hy
  exact this xs hone
 rw[hfl]at h5;have hl:=eg.length h5;obtain⟨g1,g2⟩:=uC hI (el:=e) (cs:=xs.map .d) (fl:=[]) (arr:=B) (SP:=SP) (by
  rw[BW,abS (by simp;simp at hl;omega)]
  exact h5) hone (by simp;simp at hl;omega) (t:=none) (by simp[oH]) (λ _ e=>by cases e) (oy _ _) (0,0) (.inl rfl)
 refine⟨_,_,_,h1,?_,g1⟩;simp only[RV];exact⟨_,_,by rw[h7],by omega,λ _=>⟨_,g2,rfl⟩⟩
theorem qE{fl:Fl}{t z:Nat}(h:tok fl t=some z):(t,z)∈fl:=by
 unfold tok at h;obtain⟨x,hx,rfl⟩:=Option.map_eq_some_iff.1 h;have h1:=List.find?_some hx;have h2:=List.mem_of_find?_eq_some hx;have:x.1=t:=by simpa using h1
 subst this;exact h2
theorem Ta(hI:Inv w G S){id off z:Nat}{S':List Ob}(h:re S (.p id off)=some (z,S')){b:Nat}(ho:G.own b=some (.obj id)){v:Value}(hv:w.cell? ⟨b,off,none⟩=some v):
  Inv w G S'/\Ext w G S w G S'/\(z≠2000000->gq w G (.cell id off) z v)/\Src S' (.cell id off):=by
 unfold re at h;simp only at h;split at h;rotate_left
 ·simp at h
 rename_i cs fl hob;split at h;rotate_left
 ·simp at h
 rename_i sz htok;injection h with h;injection h with h1 h2;subst h1;subst h2
 obtain⟨hFb,o',go,hs',hgo,hor⟩:=hI.ob _ _ ho;rw[hob]at hs';injection hs' with hs';subst hs'
 cases go<;>simp only[kQ]at hor;rename_i arr el fz;obtain⟨hlen,hcells,hflags⟩:=hor;have hlt:=dR hob;refine⟨⟨hI.fz,λ b' id' h'=>?_,hI.inj,hI.tk,λ b' id' o' h'=>by rw[fp];exact hI.cl _ _ _ h',λ id' cs' fl' h'=>?_,hI.tb⟩,⟨rfl,rfl,rfl,aa4 _,λ _ _ _ h=>h,λ _ _ h=>h,λ _ _ _=>⟨rfl,rfl,λ _=>rfl⟩,λ _ _ h _=>h,λ id' _ hn=>cJ (λ e=>hn b (e▸ho)),by rw[fp];exact aa4 _⟩,?_,?_⟩
 ·obtain⟨h1,o1,go1,h2,h3,h4⟩:=hI.ob _ _ h';by_cases e:id'=id
  ·subst e;have:=hI.inj _ _ _ h' ho;subst this;rw[hgo]at h3;injection h3 with h3;subst h3
   rw[hob]at h2;injection h2 with h2;subst h2
   refine⟨h1,_,_,dE hlt,hgo,?_⟩;simp only[kQ];exact⟨hlen,hcells,λ o1 z1 hm=>hflags o1 z1 (fM.1 hm).1⟩
  ·exact⟨h1,o1,go1,by rw[cJ e];exact h2,h3,h4⟩
 ·by_cases e:id'=id
  ·subst e;rw[dE hlt]at h';injection h' with h';injection h' with h1 h2;subst h1;exact hI.rf _ _ _ hob
  ·rw[cJ e]at h';exact hI.rf _ _ _ h'
 ·intro hz;have hF:=hflags _ _ (qE htok);unfold mU at hF;rw[aaN hz]at hF;obtain⟨u,hu,ht⟩:=hF;have:w.cell? ⟨b,off,none⟩=arr[off]?:=by simp[World.cell?,hgo]
  rw[hv,hu]at this;injection this with this;subst this
  exact ht
 ·refine .inr ⟨id,off,rfl,λ cs' fl' z' h'=>?_⟩;rw[dE hlt]at h';injection h' with h';injection h' with h1 h2;subst h2
  intro hm;exact(fM.1 hm).2 rfl
theorem NC(hI:Inv w G S)(t d:Nat):St1 w G S w ⟨G.F,lN G.own (.slot t) (.slot d)⟩ S (some t) SP/\(∀sz v,gq w G (.slot t) sz v->gq w ⟨G.F,lN G.own (.slot t) (.slot d)⟩ (.slot d) sz v):=by
 have hobj:∀b id,lN G.own (.slot t) (.slot d) b=some (.obj id)->G.own b=some (.obj id):=by
  intro b id h;rcases jw h with⟨e,_⟩|h
  ·cases e
  ·exact h
 have hle:Le G ⟨G.F,lN G.own (.slot t) (.slot d)⟩:=⟨λ _ _ _ h=>h,λ b id h=>gb h (by simp)⟩
 refine⟨⟨⟨hI.fz,λ b id h=>?_,λ b b' id h h'=>hI.inj _ _ _ (hobj _ _ h) (hobj _ _ h'),λ b ℓ h=>?_,λ b id o h=>?_,hI.rf,hI.tb_of λ c _ h0=>⟨rfl,oz h0⟩⟩,⟨rfl,rfl,rfl,aa4 _,λ _ _ _ h=>h,hle.obj,λ b _ h=>⟨?_,rfl,λ _=>rfl⟩,λ b id h _=>hobj _ _ h,λ _ _ _=>rfl,aa4 _⟩,λ q' sz v hq h=>?_,λ _ _ _ _ _=>rfl⟩,λ sz v h=>?_⟩
 ·obtain⟨h1,o,go,h2,h3,h4⟩:=hI.ob _ _ (hobj _ _ h);exact⟨h1,o,go,h2,h3,h4.same hle λ off blk hk=>⟨gb hk (by simp),rfl,λ _=>rfl⟩⟩
 ·rcases jw h with⟨_,h⟩|h<;>exact hI.tk _ _ h
 ·rcases jw h with⟨e,_⟩|h
  ·cases e
  ·exact hI.cl _ _ _ h
 ·rcases h with h|h
  ·rw[h];exact oz h
  ·rw[h];exact gb h (by simp)
 ·exact h.same λ blk hb=>⟨gb hb (by intro e;injection e with e;exact hq (by rw[e])),rfl,λ _=>rfl⟩
 ·rcases h with h|⟨blk,ho,ht⟩
  ·exact .inl h
  ·exact .inr ⟨blk,rW ho,ht⟩
end
def iO(w:World)(G:Sg)(a:Act)(fl:Fl):Prop:=∀q z,(q,z)∈fl->a.tmps.getD q undef=undef\/gq w G (.slot q) z (a.tmps.getD q undef)
theorem yh(a:Act)(d:Nat)(x:Value)(q:Nat):(a.put (some d) x).tmps.getD q undef=if q=d then(if d<a.tmps.size then x else undef)else a.tmps.getD q undef:=by
 simp only[Act.put,Array.getD_eq_getD_getElem?,Array.getElem?_setIfInBounds];by_cases e:d=q
 ·subst e;by_cases h:d<a.tmps.size
  ·simp[h]
  ·simp[h,Array.getElem?_eq_none (Nat.le_of_not_lt h)]
 ·rw[aaN e,aaN (Ne.symm e)]
theorem QL(a:Act)(x:Value):a.put none x=a:=rfl
theorem iO.put{w w':World}{G G':Sg}{a:Act}{fl:Fl}{dst:Option Nat}{x:Value}{q:Option Nat}(h:iO w G a fl)(ht:∀q' sz v,some q'≠q->gq w G (.slot q') sz v->gq w' G' (.slot q') sz v)(hq:∀y z,q=some y->(y,z)∉fl):
  iO w' G' (a.put dst x) (match dst with|some d=>eV fl d|none=>fl):=by
 intro q' z hm;have hm':(q',z)∈fl/\(a.put dst x).tmps.getD q' undef=a.tmps.getD q' undef:=by
  cases dst with
  |none=>exact⟨hm,rfl⟩
  |some d=>
   obtain⟨h1,h2⟩:=fM.1 hm;exact⟨h1,by rw[yh,aaN h2]⟩
 rw[hm'.2];rcases h q' z hm'.1 with h|h
 ·exact .inl h
 ·exact .inr (ht _ _ _ (λ e=>hq q' z e.symm hm'.1) h)
theorem iO.add{w:World}{G:Sg}{a:Act}{fl:Fl}{d:Nat}{x:Value}{z:Nat}(h:iO w G (a.put (some d) x) fl)(ht:x=undef\/gq w G (.slot d) z x):iO w G (a.put (some d) x) ((d,z)::fl):=by
 intro q' z' hm;rcases List.mem_cons.1 hm with e|hm
 ·injection e with e1 e2;subst e1;subst e2
  rw[yh,aaR rfl];split
  ·exact ht
  ·exact .inl rfl
 ·exact h q' z' hm
theorem iO.sub{w:World}{G:Sg}{a:Act}{fl fl':Fl}(h:iO w G a fl)(hs:∀x∈fl',x∈fl):iO w G a fl':=λ q z hm=>h q z (hs _ hm)
theorem j9{fl:Fl}{t:Nat}:∀x∈eV fl t,x∈fl:=λ x h=>(fM (o:=x.1) (z:=x.2)).1 h |>.1
theorem rz{fl:Fl}{t z:Nat}:(t,z)∉eV fl t:=λ h=>(fM.1 h).2 rfl
theorem ry{fl:Fl}{s t:Nat}:∀x∈eV (eV fl s) t,x∈eV (eV fl t) s:=by intro x h;obtain⟨h1,h2⟩:=(fM (o:=x.1) (z:=x.2)).1 h;obtain⟨h3,h4⟩:=fM.1 h1;exact fM.2 ⟨fM.2 ⟨h3,h2⟩,h4⟩
section
variable {P : Program} {aK : Pol} {w : World} {G : Sg} {S : List Ob}
structure Eff (P:Program) (aK:Pol) (w:World) (G:Sg) (S:List Ob) (a:Act) (k r i:Nat) (ops:List Oper) (vals:List V) (fl:Fl) (o:Oper) (v:V) (S':List Ob) (x:Value) (w':World) (G':Sg):Prop where
 run:(execOp a.eval o).run P w = .ok (.value x) w'\/(execOp a.eval o).run P w = .ok .skip w'/\x=undef
 rv:RV G' v x
 inv:Inv w' G' S'
 ext:Ext w G S w' G' S'
 tok:iO w' G' (a.put o.dst x) (cv P aK k r i ops fl o)
 sp:∀id off,gf P vals id off 1 o=true->∀b,G.own b=some (.obj id)->w'.cell? ⟨b,off,none⟩=w.cell? ⟨b,off,none⟩
structure NoTok (o:Oper):Prop where
 h1:∀x,o.op ≠ .assign x
 h2:∀t a x,o.op ≠ .store t a x
 h3:∀t n c,o.op ≠ .makeSlice t n c
 h4:∀c,o.op = .call c->c.callee ≠ .builtin .append
theorem ko{k r i:Nat}{ops:List Oper}{fl:Fl}{o:Oper}(h:NoTok o):cv P aK k r i ops fl o=(match o.dst with|some d=>eV fl d|none=>fl):=by
 unfold cv;simp only;split
 ·rfl
 ·split
  ·rename_i e _;exact absurd e (h.h1 _)
  ·rename_i e _;exact absurd e (h.h1 _)
  ·rename_i e;exact absurd e (h.h2 _ _ _)
  ·rename_i e _;exact absurd e (h.h3 _ _ _)
  ·rename_i e _;split
   ·rename_i e2;exact absurd e2 (h.h4 _ e)
   ·rfl
  ·rfl
theorem Eff.mk'{a:Act}{k r i:Nat}{ops:List Oper}{vals:List V}{fl:Fl}{o:Oper}{v:V}{S':List Ob}{x:Value}{w':World}{G':Sg}(htk:iO w G a fl)(h:NoTok o)
  (hrun:(execOp a.eval o).run P w = .ok (.value x) w'\/(execOp a.eval o).run P w = .ok .skip w'/\x=undef) (hrv:RV G' v x) (hst:St1 w G S w' G' S' none λ id off=>gf P vals id off 1 o=true):
  Eff P aK w G S a k r i ops vals fl o v S' x w' G':=
 ⟨hrun,hrv,hst.inv,hst.ext,by rw[ko h];exact htk.put hst.tok (by simp),hst.sp⟩
def OI(aK:Pol)(w:World)(G:Sg)(a:Act)(vals:List V)(ops:List Oper)(o:Oper)(k r i:Nat):Prop:=
 ∀c x,o.op = .call c->c.callee = .builtin .append->c.args.toList.head?=some x->
  (aK.app k r i=2->∀q,oZ ops x=some q->a.eval x=undef\/a.eval x=a.tmps.getD q undef)/\
  (aK.app k r i=3->∀q id off,lB ops x=some q->vals.getD q .u = .p id off->a.eval x=undef\/∃b,G.own b=some (.obj id)/\w.cell? ⟨b,off,none⟩=some (a.eval x))
theorem Rt{c:Call}(h:Kr P c=true):BZ P c.argTypes:=by
 intro u hu;unfold Kr at h;rw[hu]at h;simp only at h;split at h
 ·rename_i e he;exact⟨_,he,by simp⟩
 ·rename_i he;exact⟨_,he,by simp⟩
 ·simp at h
theorem p9{t e:TypeId}(h:mu P t=some e):P.underlying t=some (.slice e):=by unfold mu at h;split at h<;>simp_all
theorem ri{G:Sg}{full:Bool}{xs:List D}{v:Value}(h:RV G (.d (.l full xs)) v):v≠undef:=by simp only[RV,RD]at h;obtain⟨_,_,_,_,rfl,_⟩:=h;simp[undef]
theorem CP{G:Sg}{x:V}{v:Value}(h:RV G x v)(h1:x.one=true):v≠undef:=by have:=RV.one' h h1;intro e;subst e;simp[undef,Value.oneCell']at this
theorem I4{a:V}{z:Nat}{S1:List Ob}(h:re S a=some (z,S1))(sz:Nat)(y:V):view S sz y=view S1 sz y:=by
 unfold re at h;split at h;rotate_left
 ·simp at h
 split at h;rotate_left
 ·simp at h
 rename_i id off _ cs fl hob;split at h;rotate_left
 ·simp at h
 injection h with h;injection h with _ h;subst h
 rename_i off0 _ _ _ _ _
 cases y with
 |m id' off' len'=>
  simp only[view];by_cases e:id'=id
  ·subst e;rw[dE (dR hob),hob]
  ·rw[cJ e]
 |d x=>cases x<;>rfl
 |_=>rfl
theorem sT{a:V}{z:Nat}{S1:List Ob}(h:re S a=some (z,S1)){sz:Nat}{y:V}:dK S sz y=dK S1 sz y:=by
 unfold dK;split
 ·rfl
 ·exact I4 h sz _
theorem Hh{f:Task->Option Out}{k r i:Nat}{ops:List Oper}{vals:List V}{fl:Fl}{a:Act}{o:Oper}{c:Call}{v:V}{S':List Ob}(hI:Inv w G S)(hf:Fr G vals a)(htk:iO w G a fl)(hgd:mm o=true)(hsteal:OI aK w G a vals ops o k r i)
    (hop:o.op = .call c) (hcal:c.callee = .builtin .append) (h:aD f (gU P aK k r i ops vals fl S o)=some (v,S')):∃x w' G',Eff P aK w G S a k r i ops vals fl o v S' x w' G':=by
  unfold gU at h;simp only[hop,hcal]at h;split at h;rotate_left
  · simp[aD]at h
  rename_i x y t hargs ht;simp only[bE,abd,bS]at h;obtain⟨e,he,sz,hsz,bx,hbx,vy,hvy,h⟩:=h;split at h;rotate_left
  · simp at h
  rename_i hc;simp only[Bool.and_eq_true,decide_eq_true_eq]at hc;obtain⟨⟨⟨htl,hz⟩,hds⟩,hsm⟩:=hc;obtain⟨d,hd⟩:=Option.isSome_iff_exists.1 hds;have hu:=p9 he;have hxr:=eh hf hbx;have hyr:=eh hf hvy;have hrun:∀{z:Value} {w':World},(Builtin.append_ c.argTypes o.type #[a.eval x,a.eval y]).run P w = .ok z w'->(execOp a.eval o).run P w = .ok (.value z) w':=by
    intro z w' h;have ha:c.args.map a.eval=#[a.eval x,a.eval y]:=by apply Array.ext';rw[Array.toList_map,hargs];rfl
    simp[execOp,hop,resolve,hcal,invoke,builtin,ha,h]
  have hst:=hsteal c x hop hcal (by rw[hargs];rfl)
  have gen:∀(full0:Bool) (S1:List Ob) (ℓ:Option Loc) (hI1:Inv w G S1) (hE1:Ext w G S w G S1) (fr:Bool) (zc:Nat),zc%1000000=sz->(∀t,y3 zc=some t->e=t)->(fr=true->zc=sz\/∃fu,bx = .d (.l fu []))->(∀ℓ0,ℓ=some ℓ0->∀d,zM (.slot d) zc=true->zM ℓ0 zc=true)->iv S1 sz (((P.info? e).map (·.bytes)).getD 5000) fr bx vy=some v->dK S sz vy=dK S1 sz vy->
      (fr=false->∃ℓ0,ℓ=some ℓ0/\gq w G ℓ0 zc (a.eval x))->(∀ℓ0,ℓ=some ℓ0->Src S1 ℓ0)->(∀q,jQ ℓ=some q->∃d z,o.dst=some d/\tok fl q=some z/\True)->S'=S1->
      (cv P aK k r i ops fl o=(match o.dst with|some d=>(match jQ ℓ with|some q=>(d,zc)::eV (eV fl d) q|none=>(d,zc)::eV fl d)|none=>fl))->∃x w' G',Eff P aK w G S a k r i ops vals fl o v S' x w' G':=by
    intro full0 S1 ℓ hI1 hE1 fr zc hzc hte hz0 hth ha hta htok hsrc hq hS' hfl;unfold iv at ha;split at ha;rotate_left
    · simp at ha
    rename_i full xs;split at ha;rotate_left
    · simp at ha
    rename_i zs hzs;split at ha;rotate_left
    · simp at ha
    rename_i hcond;obtain⟨g1,g2,g3,g4,g5,g6⟩:=hcond;injection ha with ha
    obtain⟨x',w',G',p1,p2,p3,p4⟩:=Md (P:=P) (SP:=λ id off=>gf P vals id off 1 o=true) (ty:=o.type) (d:=o.dst.getD 0) hI1 hsm hzc hte ht (Rt htl) hu hsz hz g5 hxr hyr hzs g2 g3 g6 (ℓ:=ℓ) (λ hff=>by
      cases fr with
      | true => rcases hff with hff | hff
                · rw[g1 rfl]at hff;cases hff
                · rcases hz0 rfl with e | ⟨fu, e⟩
                  · exact absurd e hff.1
                  · injection e with e;injection e with _ e;exact absurd e hff.2
      |false=>exact htok rfl) (λ ℓ0 e=>hth ℓ0 e _) g4 hsrc
    refine⟨x',w',G',.inl (hrun p1),by rw[<-ha];exact p2,by rw[hS'];exact p3.inv,by rw[hS'];exact hE1.trans p3.ext,?_,p3.sp⟩;rw[hfl]
    cases hd:o.dst with
    |none=>
      simp only;have:jQ ℓ=none:=by
        cases hsl:jQ ℓ with
        |none=>rfl
        |some q=>obtain⟨d,z,h1,_⟩:=hq q hsl;rw[hd]at h1;cases h1
      have:=htk.put (dst:=none) (x:=x') p3.tok (by rw[this];simp);exact this
    |some d=>
      rw[hd]at p4;simp only[Option.getD_some]at p4;simp only
      cases hsl:jQ ℓ with
      |none=>
        rw[hsl]at p3;exact(htk.put (dst:=some d) (x:=x') p3.tok (by simp)).add (.inr p4)
      |some q=>
        rw[hsl]at p3;have h1:iO w G a (eV fl q):=htk.sub j9;exact((h1.put (dst:=some d) (x:=x') p3.tok (by intro y z e;injection e with e;subst e;exact rz)).sub ry).add (.inr p4)
  have hgn:o.guard=none:=by
    unfold mm at hgd
    cases hg:o.guard with
    |none=>rfl
    |some g=>
      rw[hg]at hgd;simp[hop,hcal]at hgd
  have hts:∀{t:Nat},zN (aK.mR k r i)=some t->uQ (aK.mR k r i) sz=sz+3000000+4000000*t:=λ h=>by unfold uQ;rw[h]
  have hts0:zN (aK.mR k r i)=none->uQ (aK.mR k r i) sz=sz:=λ h=>by unfold uQ;rw[h]
  have htsz:uQ (aK.mR k r i) sz%1000000=sz:=by
    cases ht0:zN (aK.mR k r i) with
    |none=>rw[hts0 ht0];omega
    |some t=>rw[hts ht0];omega
  have htst:(∀t,zN (aK.mR k r i)=some t->e=t)->∀t,y3 (uQ (aK.mR k r i) sz)=some t->e=t:=by
    intro h1 t h
    cases ht0:zN (aK.mR k r i) with
    |none=>rw[hts0 ht0]at h;simp only[y3]at h;rw[aaN (by omega)]at h;cases h
    |some t1=>
      rw[hts ht0]at h;simp only[y3]at h;rw[aaR (by omega)]at h;injection h with h
      have h2:=h1 t1 ht0;clear htsz hts hts0;have h3:t1=t:=by omega
      exact h2.trans h3
  split at h
  · rename_i happ
    simp only[bS]at h;split at h;rotate_left
    · simp at h
    rename_i htb;simp only[bE,abd,aD,Option.some.injEq,Prod.mk.injEq]at h;obtain⟨v',hv',rfl,rfl⟩:=h;have htb':(∀t,zN (aK.mR k r i)=some t->e=t)/\(uQ (aK.mR k r i) sz=sz\/∃fu,bx = .d (.l fu [])):=by
      unfold tsB at htb;split at htb
      · rename_i t ht0
        rw[Bool.and_eq_true]at htb;refine⟨λ t' e'=>by rw[ht0]at e';injection e' with e';subst e';simpa using htb.1,.inr ?_⟩;split at htb
        · exact⟨_,rfl⟩
        · simp at htb
      · rename_i ht0
        exact⟨λ t' e'=>by(rw[ht0]at e';cases e'),.inl (hts0 ht0)⟩
    refine gen true S none hI (Ext.refl _ _ _) true _ htsz (htst htb'.1) (λ _=>htb'.2) (λ _ e=>by cases e) hv' rfl (by simp) (by simp) (by simp[jQ]) rfl ?_;unfold cv;simp only[hgn,hop,hcal,hargs,ht,Option.bind_some,he,hsz,happ,jQ,hd];simp
  · rename_i happ
    simp only[bS,bE]at h;split at h;rotate_left
    · simp at h
    rename_i hs1;simp only[abd,aD,Option.some.injEq]at h;obtain⟨r',hr',e'⟩:=h;have hsz1:sz=1:=by simpa using hs1
    subst hsz1;obtain⟨x',w',G',p1,p2,p3⟩:=aaD (P:=P) (SP:=λ id off=>gf P vals id off 1 o=true) (ty:=o.type) hI ht (Rt htl) hu hsz hz hxr hyr hr';obtain⟨rfl,rfl⟩:=Prod.mk.inj e';refine⟨x',w',G',.inl (hrun p1),p2,p3.inv,p3.ext,?_,p3.sp⟩;have:cv P aK k r i ops fl o=(match o.dst with|some d=>eV fl d|none=>fl):=by unfold cv;cases o.dst<;>simp[hop,hcal,hargs,ht,he,hsz,happ]
    rw[this];exact htk.put p3.tok (by simp)
  · rename_i happ
    simp only[bS,bE,abd,aD]at h;obtain⟨q,hq,h⟩:=h;split at h;rotate_left
    · simp at h
    rename_i htq;simp only[Bool.and_eq_true,decide_eq_true_eq]at htq;obtain⟨htq,htt⟩:=htq;have htt':∀t,zN (aK.mR k r i)=some t->e=t:=by intro t ht0;unfold tsT at htt;rw[ht0]at htt;simpa using htt
    simp only[abd,Option.some.injEq,Prod.mk.injEq]at h;obtain⟨v',hv',rfl,rfl⟩:=h;have hlist:∃full xs,bx = .d (.l full xs):=by
      unfold iv at hv';split at hv'
      · exact⟨_,_,rfl⟩
      · simp at hv'
    obtain⟨full,xs,rfl⟩:=hlist;have hval:=(hst.1 happ q hq).resolve_left (ri hxr)
    · refine gen true S (some (.slot q)) hI (Ext.refl _ _ _) false _ htsz (htst htt') (λ e => by cases e) (λ ℓ0 e d h => by injection e with e; subst e; exact h) hv' rfl (λ _ => ⟨_, rfl, ?_⟩) (λ ℓ0 e => by injection e with e; subst e; exact .inl ⟨_, rfl⟩) (λ q' hq' => by simp [jQ] at hq'; subst hq'; exact ⟨d, _, hd, htq, trivial⟩) rfl ?_
      · rcases htk q _ (qE htq) with h' | h'
        · rw[<-hval]at h';exact absurd h' (ri hxr)
        · rw[hval];exact h'
      · unfold cv
        simp only[hgn,hop,hcal,hargs,ht,Option.bind_some,he,hsz,happ,jQ,hd,hq];simp
  · rename_i happ
    simp only[bS,bE,abd,aD]at h;obtain⟨q,hq,⟨z,S1⟩,hun,h⟩:=h;split at h;rotate_left
    · simp at h
    rename_i hzs;simp only[Bool.and_eq_true,decide_eq_true_eq]at hzs;obtain⟨hzs,hst1⟩:=hzs;have hz4:z%4000000<3000000:=by unfold RB at hzs;split at hzs<;>omega
    have hzall:z%1000000=sz/\z≠2000000/\∀t,y3 z=some t->e=t:=by
      unfold tkT at hst1;unfold RB at hzs;split at hzs
      · rename_i t0 ht0
        refine⟨by omega,by omega,λ t h=>?_⟩;rw[ht0]at hst1;have:e=t0:=by simpa using hst1
        simp only[y3]at h;rw[aaR (by omega)]at h;injection h with h
        have h2:t0=t:=by omega
        exact this.trans h2
      · exact⟨by omega,by omega,λ t h=>by simp only[y3]at h;rw[aaN (by omega)]at h;cases h⟩
    simp only[abd,Option.some.injEq,Prod.mk.injEq]at h;obtain⟨v',hv',rfl,rfl⟩:=h;obtain⟨id,off,hva⟩:∃id off,vals.getD q .u = .p id off:=by
      unfold re at hun;split at hun
      · rename_i e;exact⟨_,_,e⟩
      · simp at hun
    have hlist:∃full xs,bx = .d (.l full xs):=by
      unfold iv at hv';split at hv'
      · exact⟨_,_,rfl⟩
      · simp at hv'
    obtain⟨full,xs,rfl⟩:=hlist;obtain⟨b,hb,hcell⟩:=(hst.2 happ q id off hq hva).resolve_left (ri hxr);rw[hva]at hun;obtain⟨q1,q2,q3,q4⟩:=Ta hI hun hb hcell;refine gen true S1 (some (.cell id off)) q1 q2 false z hzall.1 hzall.2.2 (λ e=>by cases e) (λ ℓ0 e d h=>by simp only[zM,decide_eq_true_eq]at h;omega) (by unfold iv at hv' ⊢;rw[<-sT hun];exact hv') (sT hun) (λ _=>⟨_,rfl,q3 hzall.2.1⟩) (λ ℓ0 e=>by injection e with e;subst e;exact q4) (by simp[jQ]) rfl ?_;unfold cv;simp only[hgn,hop,hcal,hargs,ht,Option.bind_some,he,hsz,happ,jQ,hd];simp[hzs]
  · simp[aD]at h
theorem H0{agg:Bool}{n:Nat}{fl:Fl}{tk:Option Nat}{a v:V}{S':List Ob}{x:Value}(h:kr S agg n fl tk a v=some S')(hv:RV G v x):x≠undef:=by
 unfold kr at h;split at h;rotate_left
 ·simp at h
 split at h;rotate_left
 ·simp at h
 split at h
 ·split at h;rotate_left
  ·simp at h
  simp only[RV,RD]at hv;obtain⟨vs,rfl,_⟩:=hv;simp[undef]
 ·split at h;rotate_left
  ·simp at h
  rename_i hc;exact CP hv hc.1
theorem tI{vals:List V}{o:Oper}{t:TypeId}{ad x:Operand}{va:V}{sz:Nat}(hop:o.op = .store t ad x)(hva:ev vals ad=some va)(hsz:cq P t=some sz){id off:Nat}(h:gf P vals id off 1 o=true):
  ∀id' off',va = .p id' off'->id≠id'\/off<off'\/off'+sz<=off:=by
 intro id' off' e;subst e;unfold gf at h;simp only[hop,hva,hsz]at h;simp at h;omega
def XL(o:Oper):Prop:=∀c f,o.op = .call c->c.callee ≠ .value f
theorem Xe{f:Task->Option Out}{k r i:Nat}{ops:List Oper}{vals:List V}{fl:Fl}{a:Act}{o:Oper}{v:V}{S':List Ob}(hI:Inv w G S)(hf:Fr G vals a)(htk:iO w G a fl)(hgd:mm o=true)(hsteal:OI aK w G a vals ops o k r i)
  (hnc:XL o) (h:aD f (gU P aK k r i ops vals fl S o)=some (v,S')):∃x w' G',Eff P aK w G S a k r i ops vals fl o v S' x w' G':=by
 have h0:=h;unfold gU at h;split at h
 ·-- box
  rename_i t x hop;simp only[bE,abd,aD,Option.some.injEq]at h;obtain⟨sz,hsz,vx,hvx,r',hr',e⟩:=h;obtain⟨rfl,rfl⟩:=Prod.mk.inj e;obtain⟨x',w',G',p1,p2,p3⟩:=W0 (P:=P) (t:=t) hI (eh hf hvx) hr';exact⟨x',w',G',.mk' htk ⟨by simp[hop],by simp[hop],by simp[hop],by simp[hop]⟩ (.inl (by simp[execOp,hop,p1])) p2 p3⟩
 ·-- store
  rename_i t ad x hop;simp only[bE,abd,aD,Option.some.injEq,Prod.mk.injEq]at h;obtain⟨g,hg,sz,hsz,va,hva,vx,hvx,S1,hS1,rfl,rfl⟩:=h;have htk':∀y z,x = .tmp y->tok fl y=some z->gq w G (.slot y) z (a.eval x)\/a.eval x=undef:=by
   intro y z e h1;subst e;rcases htk y z (qE h1)with h|h
   ·exact .inr h
   ·exact .inl h
  have hne:=H0 hS1 (eh hf hvx);by_cases hyes:∃y,x = .tmp y/\o.guard=none
  ·obtain⟨y,rfl,hgn⟩:=hyes;simp only[hgn]at hS1;obtain⟨w',G',p1,p2⟩:=F3 (P:=P) (w:=w) (G:=G) (q:=some y) hI hsz (eh hf hva) (eh hf hvx) (λ z hz=>⟨y,rfl,(htk' y z rfl hz).resolve_right hne⟩) hS1;refine⟨undef,w',G',.inr ⟨by simp[execOp,hop,p1],rfl⟩,by simp only[RV],p2.inv,p2.ext,?_,λ id off hs=>p2.sp id off (tI hop hva hsz hs)⟩;have h1:iO w G a (eV fl y):=htk.sub j9;have h2:=h1.put (dst:=o.dst) (x:=undef) p2.tok (by intro y' z e;injection e with e;subst e;exact rz);unfold cv;simp only[hgn,hop]
   cases hd:o.dst with
   |none=>rw[hd]at h2;simpa using h2
   |some d=>rw[hd]at h2;exact h2.sub ry
  ·have htk0:∀z,(match x,o.guard with | .tmp y,none=>tok fl y|_,_=>none)≠some z:=by
    intro z hz;split at hz
    ·rename_i hgn;exact hyes ⟨_,rfl,hgn⟩
    ·cases hz
   obtain⟨w',G',p1,p2⟩:=F3 (P:=P) (w:=w) (G:=G) (q:=none) hI hsz (eh hf hva) (eh hf hvx) (λ z hz=>absurd hz (htk0 z)) hS1;refine⟨undef,w',G',.inr ⟨by simp[execOp,hop,p1],rfl⟩,by simp only[RV],p2.inv,p2.ext,?_,λ id off hs=>p2.sp id off (tI hop hva hsz hs)⟩;have h2:=htk.put (dst:=o.dst) (x:=undef) p2.tok (by simp);have:cv P aK k r i ops fl o=(match o.dst with|some d=>eV fl d|none=>fl):=by
    unfold cv;simp only;split
    ·rfl
    ·rename_i hgs;have hgn:o.guard=none:=by cases hg:o.guard<;>simp[hg]at hgs⊢
     cases x with
     |tmp y=>exact absurd ⟨y,rfl,hgn⟩ hyes
     |_=>cases o.dst<;>simp[hop]
   rw[this];exact h2
 ·-- a make
  rename_i t n c hop;simp only[bE,abd,bS]at h;obtain⟨e,he,z,hz,h⟩:=h;have hu:=p9 he;split at h;rotate_left
  ·simp at h
  rename_i hc;simp only[Bool.and_eq_true,decide_eq_true_eq]at hc;split at h
  ·rename_i zd happ;simp only[bE,abd,aD,Option.some.injEq,Prod.mk.injEq]at h;obtain⟨vn,hvn,vc,hvc,v',hv',rfl,rfl⟩:=h;obtain⟨x',w',G',p1,p2,p3,p4⟩:=aaM (P:=P) (SP:=λ id off=>gf P vals id off 1 o=true) (d:=o.dst.getD 0) hI hu hz hc.1 hc.2 (eh hf hvn) (eh hf hvc) hv';refine⟨x',w',G',.inl (by simp[execOp,hop,p1]),p2,p3.inv,p3.ext,?_,p3.sp⟩;have h2:=htk.put (dst:=o.dst) (x:=x') p3.tok (by simp);unfold cv;simp only;split
   ·exact h2
   ·cases hd:o.dst with
    |none=>rw[hd]at h2;simpa[hop]using h2
    |some d=>
     rw[hd]at h2 p4;simp only[hop,happ,if_true,he,Option.bind_some,hc.2];exact h2.add (.inr p4)
  ·rename_i zd happ;simp only[bE,abd,aD,Option.some.injEq]at h;obtain⟨vn,hvn,vc,hvc,r',hr',e'⟩:=h;obtain⟨rfl,rfl⟩:=Prod.mk.inj e';obtain⟨x',w',G',p1,p2,p3⟩:=Qj (P:=P) (SP:=λ id off=>gf P vals id off 1 o=true) hI hu hz hc.1 hc.2 (eh hf hvn) (eh hf hvc) hr';refine⟨x',w',G',.inl (by simp[execOp,hop,p1]),p2,p3.inv,p3.ext,?_,p3.sp⟩;have h2:=htk.put (dst:=o.dst) (x:=x') p3.tok (by simp);have:cv P aK k r i ops fl o=(match o.dst with|some d=>eV fl d|none=>fl):=by unfold cv;cases o.dst<;>simp[hop,happ]
   rw[this];exact h2
  ·simp[aD]at h
 ·-- a row of parts
  rename_i t len parts hop;simp only[bE,abd,bS]at h;obtain⟨e,he,h⟩:=h;have hu:=p9 he;split at h;rotate_left
  ·simp at h
  rename_i hc;simp only[decide_eq_true_eq]at hc;split at h
  ·simp only[bE,abd,bS]at h;obtain⟨xs,hxs,h⟩:=h;split at h;rotate_left
   ·simp at h
   rename_i hone;simp only[aD,Option.some.injEq]at h;obtain⟨rfl,rfl⟩:=Prod.mk.inj h;obtain⟨x',w',G',p1,p2,p3⟩:=Mi (P:=P) (SP:=λ id off=>gf P vals id off 1 o=true) hI hf hu hc.1 hc.2.2.2 hc.2.1 hc.2.2.1 hxs hone;exact⟨x',w',G',.mk' htk ⟨by simp[hop],by simp[hop],by simp[hop],by simp[hop]⟩ (.inl (by simp[execOp,hop,p1])) p2 p3⟩
  ·simp[aD]at h
 ·-- an append
  rename_i c hop;split at h
  ·rename_i hcal;exact Hh hI hf htk hgd hsteal hop hcal h0
  ·rename_i fv hcal;exact absurd hcal (hnc c fv hop)
  ·simp[aD]at h
 ·simp[aD]at h
end
mutual
theorem RV.lift{A B:Sg}{n:Nat}(hF:Tu A.F B.F)(ho:∀b i,i<n->A.own b=some (.obj i)->B.own b=some (.obj i)):∀(x:V) (v:Value),cj n x=true->RV A x v->RV B x v
 | .d x,_,_,hx=>by simp only[RV]at hx⊢;exact RD.mono hF x _ hx
 | .m ..,_,hr,hx=>by
  simp only[RV]at hx⊢;simp[cj]at hr;obtain⟨a,c,e,hl,hb⟩:=hx;exact⟨a,c,e,hl,λ hp=>by obtain⟨blk,h1,ha⟩:=hb hp;exact⟨blk,ho _ _ hr h1,ha⟩⟩
 | .p ..,_,hr,hx=>by simp only[RV]at hx⊢;simp[cj]at hr;obtain⟨blk,h1,e⟩:=hx;exact⟨blk,ho _ _ hr h1,e⟩
 | .np,_,_,hx=>by simpa only[RV]using hx
 | .e xs _ _,_,_,hx=>by
  simp only[RV]at hx⊢;obtain⟨blk,o,sz,e,hs,hr⟩:=hx;exact⟨blk,o,sz,e,hs,bN.mono hF _ _ xs hr⟩
 | .f _,_,_,hx=>by simpa only[RV]using hx
 | .nifc,_,_,hx=>by simpa only[RV]using hx
 | .t xs,_,hr,hx=>by simp only[RV]at hx⊢;simp only[cj]at hr;obtain⟨vs,e,hv⟩:=hx;exact⟨vs,e,eY.lift hF ho xs _ hr hv⟩
 | .u,_,_,_=>by simp only[RV]
theorem eY.lift{A B:Sg}{n:Nat}(hF:Tu A.F B.F)(ho:∀b i,i<n->A.own b=some (.obj i)->B.own b=some (.obj i)):∀(xs:List V) (vs:List Value),bI n xs=true->eY A xs vs->eY B xs vs
 | [],_,_,hx=>by simpa only[eY]using hx
 |c::cs,_,hr,hx=>by
  simp only[eY]at hx⊢;simp only[bI,Bool.and_eq_true]at hr;obtain⟨v,r,e,h1,h2⟩:=hx;exact⟨v,r,e,RV.lift hF ho c v hr.1 h1,eY.lift hF ho cs r hr.2 h2⟩
end
mutual
theorem yk:∀(x:V) (n:Nat),cj n x=true↔v8 x<=n
 | .d _,_=>by simp[cj,v8]
 | .m id _ _,_=>by simp[cj,v8];omega
 | .p id _,_=>by simp[cj,v8];omega
 | .np,_=>by simp[cj,v8]
 | .e _ _ _,_=>by simp[cj,v8]
 | .f _,_=>by simp[cj,v8]
 | .nifc,_=>by simp[cj,v8]
 | .t vs,n=>by simp only[cj,v8];exact iH vs n
 | .u,_=>by simp[cj,v8]
theorem iH:∀(xs:List V) (n:Nat),bI n xs=true↔mG xs<=n
 | [],_=>by simp[bI,mG]
 |x::xs,n=>by simp only[bI,mG,Bool.and_eq_true,yk x n,iH xs n];omega
end
theorem jO:∀{A B:List Ob} {id:Nat},id<B.length->bV (A++B) id=bV B id
 | [],_,_,_=>rfl
 |a::A,B,id,h=>by
  simp only[List.cons_append,bV,aaS];rw[aaN (by omega)];exact jO h
theorem pR:∀{A B B':List Ob} {id:Nat},B.length=B'.length->B.length<=id->bV (A++B) id=bV (A++B') id
 | [],B,B',id,h,hid=>by
  have:∀{S:List Ob},S.length<=id->bV S id=none:=by
   intro S hS
   cases hx:bV S id with
   |none=>rfl
   |some o=>have:=dR hx;omega
  rw[List.nil_append,List.nil_append,this hid,this (by omega)]
 |a::A,B,B',id,h,hid=>by
  simp only[List.cons_append,bV,aaS,h];split
  ·rfl
  ·exact pR h hid
theorem RF(rb:Nat)(S:List Ob):nB rb S++oR rb S=S:=List.take_append_drop ..
theorem fQ{rb:Nat}{S:List Ob}(h:rb<=S.length):(oR rb S).length=rb:=by simp[oR];omega
theorem ft{rb:Nat}{S:List Ob}(h:rb<=S.length):(nB rb S).length=S.length-rb:=by simp[nB]
theorem kG{rb:Nat}{S:List Ob}(h:rb<=S.length){id:Nat}(hid:id<rb):bV (oR rb S) id=bV S id:=by have:=jO (A:=nB rb S) (B:=oR rb S) (id:=id) (by rw[fQ h];exact hid);rw[RF]at this;exact this.symm
theorem tN{rb:Nat}{S S':List Ob}(h:rb<=S.length)(hl:S'.length=rb){id:Nat}(hid:rb<=id):bV (nB rb S++S') id=bV S id:=by have:=pR (A:=nB rb S) (B:=S') (B':=oR rb S) (id:=id) (by rw[fQ h,hl]) (by omega);rw[RF]at this;exact this
def vw(rb:Nat):Loc->Loc
 | .obj id=>if id<rb then .obj id else .ext
 | .cell id off=>if id<rb then .cell id off else .ext
 |_ => .ext
def fF(G:Sg)(rb:Nat):Sg:=⟨G.F,λ b=>(G.own b).map (vw rb)⟩
def Ds(rb n:Nat):Loc->Loc
 | .obj id=>if id=rb then .obj n else .obj id
 | .cell id off=>if id=rb then .cell n off else .cell id off
 |ℓ=>ℓ
open Classical in
noncomputable def fW(G:Sg)(rb n:Nat)(G':Sg):Sg:=⟨G'.F,λ b=>if (fF G rb).own b=some .ext then G.own b else(G'.own b).map (Ds rb n)⟩
section
variable {P : Program} {w : World} {G : Sg} {S : List Ob} {rb : Nat}
theorem jK{b id:Nat}:(fF G rb).own b=some (.obj id)↔G.own b=some (.obj id)/\id<rb:=by
 simp only[fF]
 cases h:G.own b with
 |none=>simp
 |some ℓ=>
  cases ℓ<;>simp[vw]
  ·split<;>rename_i hh<;>simp<;>intro e<;>omega
  ·split<;>simp
theorem AN{b id off:Nat}:(fF G rb).own b=some (.cell id off)↔G.own b=some (.cell id off)/\id<rb:=by
 simp only[fF]
 cases h:G.own b with
 |none=>simp
 |some ℓ=>
  cases ℓ<;>simp[vw]
  ·split<;>simp
  ·split<;>rename_i hh<;>simp<;>intro e<;>omega
theorem MS{b q:Nat}:(fF G rb).own b≠some (.slot q):=by
 simp only[fF]
 cases h:G.own b with
 |none=>simp
 |some ℓ=>
  cases ℓ<;>simp[vw]
  ·split<;>simp
  ·split<;>simp
theorem MR{b:Nat}(h:G.own b=none):(fF G rb).own b=none:=by simp[fF,h]
theorem AO{b:Nat}{ℓ:Loc}(h:(fF G rb).own b=some ℓ):∃ℓ',G.own b=some ℓ':=by
 simp only[fF]at h
 cases h':G.own b with
 |none=>rw[h']at h;simp at h
 |some ℓ'=>exact⟨_,rfl⟩
theorem PX(hI:Inv w G S)(hrb:rb<=S.length):Inv w (fF G rb) (oR rb S):={
 fz:=hI.fz
 ob b id h:=by
  obtain⟨h,hid⟩:=jK.1 h;obtain⟨h1,o,go,h2,h3,h4⟩:=hI.ob b id h;refine⟨h1,o,go,by rw[kG hrb hid];exact h2,h3,?_⟩
  cases o with
  |cells cs fl=>
   have hrf:=hI.rf _ _ _ h2;cases go<;>simp only[kQ]at h4⊢;obtain⟨p1,p2,p3⟩:=h4;refine⟨p1,λ o c hc=>?_,λ o sz hm=>?_⟩
   ·obtain⟨v,hv,hr,hf,ho⟩:=p2 o c hc;have hc':=dQ.1 hrf c (abQ hc);exact⟨v,hv,RV.lift (A:=G) (B:=fF G rb) (n:=id+1) (λ _ _ _ h=>h) (λ b i hi h=>jK.2 ⟨h,by omega⟩) c v hc' hr,hf,ho⟩
   ·exact(p3 o sz hm).map λ v hv ht=>⟨v,hv,ht.same λ blk hb=>⟨AN.2 ⟨hb,hid⟩,rfl,λ _=>rfl⟩⟩
  |dead=>cases go<;>simp only[kQ]at h4
 inj b b' id h h':=hI.inj _ _ _ (jK.1 h).1 (jK.1 h').1
 tk b ℓ h:=by obtain⟨ℓ',h'⟩:=AO h;exact hI.tk _ _ h'
 cl b id o h:=by rw[fQ hrb];exact(AN.1 h).2
 rf id cs fl h:=by have:=dR h;rw[fQ hrb]at this;rw[kG hrb this]at h;exact hI.rf _ _ _ h
 tb:=hI.tb_of λ b _ h0=>⟨rfl,by simp[fF,h0]⟩ }
theorem Ou{w':World}{G':Sg}{So S2:List Ob}(hI:Inv w G S)(hrb:rb<=S.length)(hI':Inv w' G' So)(hE:Ext w (fF G rb) (oR rb S) w' G' So)
  (hs:So.length=rb/\S2=nB rb S++So\/∃cs fl S',So = .cells cs fl::S'/\S'.length=rb/\bI rb cs=true/\S2 = .cells cs fl::(nB rb S++S')):
  Inv w' (fW G rb S.length G') S2/\Ext w G S w' (fW G rb S.length G') S2/\(∀q z v,gq w G (.slot q) z v->gq w' (fW G rb S.length G') (.slot q) z v)/\(∀id off,rb<=id->∀b,G.own b=some (.obj id)->w'.cell? ⟨b,off,none⟩=w.cell? ⟨b,off,none⟩)/\
   (∀x v,cj rb x=true->RV G' x v->RV (fW G rb S.length G') x v)/\(∀b,G'.own b=some (.obj rb)->(fW G rb S.length G').own b=some (.obj S.length)):=by
 have hsl:So.length<=rb+1:=by
  rcases hs with⟨h,_⟩|⟨cs,fl,S',rfl,h,_⟩
  ·omega
  ·simp only[aaT];omega
 have hs2l:S.length<=S2.length:=by
  rcases hs with⟨h,rfl⟩|⟨cs,fl,S',rfl,h,_,rfl⟩
  ·simp[ft hrb,h];omega
  ·simp[ft hrb,h];omega
 have glo:∀id,id<rb->bV S2 id=bV So id:=by
  intro id hid;rcases hs with⟨h,rfl⟩|⟨cs,fl,S',rfl,h,_,rfl⟩
  ·exact jO (by omega)
  ·rw[dG (by simp[ft hrb,h];omega),dG (by omega)]
   exact jO (by omega)
 have ghi:∀id,rb<=id->id<S.length->bV S2 id=bV S id:=by
  intro id hid hlt;rcases hs with⟨h,rfl⟩|⟨cs,fl,S',rfl,h,_,rfl⟩
  ·exact tN hrb h hid
  ·rw[dG (by simp[ft hrb,h];omega)]
   exact tN hrb h hid
 have gnew:∀o,bV So rb=some o->∃cs fl,o = .cells cs fl/\bI rb cs=true/\bV S2 S.length=some o/\S2.length=S.length+1:=by
  intro o ho;rcases hs with⟨h,rfl⟩|⟨cs,fl,S',rfl,h,hr,rfl⟩
  ·have:=dR ho;omega
  ·have:bV (.cells cs fl::S') rb=some (.cells cs fl):=by simp[bV,h]
   rw[this]at ho;injection ho with ho
   have hl:(nB rb S++S').length=S.length:=by simp[ft hrb,h];omega
   exact⟨cs,fl,ho.symm,hr,by rw[<-ho];simp only[bV];rw[aaR hl.symm],by simp[hl]⟩
 have hlowl:=fQ hrb;have hidK:∀b,(fF G rb).own b=some .ext->G'.own b=some .ext/\w'.heap[b]?=w.heap[b]?/\(∀o,G'.F b o=G.F b o)/\(fW G rb S.length G').own b=G.own b:=by intro b hb;obtain⟨ℓ,hℓ⟩:=AO hb;obtain⟨h1,h2,h3⟩:=hE.keep b (hI.tk _ _ hℓ) (.inr hb);exact⟨by rw[h1];exact hb,h2,h3,by simp only[fW];rw[aaR hb]⟩
 have hidO:∀b id,rb<=id->G.own b=some (.obj id)->(fF G rb).own b=some .ext:=by intro b id h1 h2;simp only[fF,h2,Option.map_some,vw];rw[aaN (by omega)]
 have hidC:∀b id off,rb<=id->G.own b=some (.cell id off)->(fF G rb).own b=some .ext:=by intro b id off h1 h2;simp only[fF,h2,Option.map_some,vw];rw[aaN (by omega)]
 have hidS:∀b q,G.own b=some (.slot q)->(fF G rb).own b=some .ext:=by intro b q h2;simp only[fF,h2,Option.map_some,vw]
 have seen:∀b ℓ,G'.own b=some ℓ->ℓ ≠ .ext->(fW G rb S.length G').own b=some (Ds rb S.length ℓ):=by intro b ℓ h1 h2;simp only[fW];rw[aaN,h1];rfl;intro hb;have:=(hidK b hb).1;rw[h1]at this;injection this with this;exact h2 this
 have cases2:∀b ℓ,(fW G rb S.length G').own b=some ℓ->((fF G rb).own b=some .ext/\G.own b=some ℓ)\/∃ℓ',G'.own b=some ℓ'/\ℓ=Ds rb S.length ℓ'/\(fF G rb).own b≠some .ext:=by
  intro b ℓ h;simp only[fW]at h;split at h
  ·rename_i hb;exact .inl ⟨hb,h⟩
  ·rename_i hb;obtain⟨ℓ',h1,h2⟩:=Option.map_eq_some_iff.1 h;exact .inr ⟨ℓ',h1,h2.symm,hb⟩
 have hobj2:∀b id,(fW G rb S.length G').own b=some (.obj id)->((fF G rb).own b=some .ext/\G.own b=some (.obj id)/\rb<=id/\id<S.length)\/(∃id',G'.own b=some (.obj id')/\id'<=rb/\(id'<rb/\id=id'\/id'=rb/\id=S.length)):=by
  intro b id h;rcases cases2 b _ h with⟨h1,h2⟩|⟨ℓ',h1,h2,_⟩
  ·refine .inl ⟨h1,h2,?_,?_⟩
   ·rcases abn id rb with hlt|hge
    ·have:=(jK (G:=G) (rb:=rb) (b:=b) (id:=id)).2 ⟨h2,hlt⟩;rw[h1]at this;cases this
    ·exact hge
   ·obtain⟨_,o,_,ho,_⟩:=hI.ob _ _ h2;exact dR ho
  ·cases ℓ' with
   |obj id'=>
    have hlt:id'<So.length:=by obtain⟨_,o,_,ho,_⟩:=hI'.ob _ _ h1;exact dR ho
    refine .inr ⟨id',h1,by omega,?_⟩;simp only[Ds]at h2;split at h2
    ·injection h2 with h2;rename_i e;exact .inr ⟨e,h2⟩
    ·injection h2 with h2;rename_i e;exact .inl ⟨by omega,h2⟩
   |cell id' off'=>simp only[Ds]at h2;split at h2<;>cases h2
   |slot q=>simp[Ds]at h2
   |ext=>simp[Ds]at h2
 have hle:Le G (fW G rb S.length G'):=by
  refine⟨hE.F,λ b id h=>?_⟩;rcases abn id rb with hlt|hge
  ·have:=seen b _ (hE.obj _ _ (jK.2 ⟨h,hlt⟩)) (by simp)
   rw[this];simp only[Ds];rw[aaN (by omega)]
  ·rw[(hidK b (hidO b id hge h)).2.2.2];exact h
 have hlift:∀x v,cj rb x=true->RV G' x v->RV (fW G rb S.length G') x v:=λ x v hr hx=>
  RV.lift (A:=G') (B:=fW G rb S.length G') (n:=rb) (λ _ _ _ h=>h) (λ b i hi h=>by rw[seen b _ h (by simp)];simp only[Ds];rw[aaN (by omega)]) x v hr hx
 refine⟨⟨hI'.fz,λ b id h=>?_,λ b b' id h h'=>?_,λ b ℓ h=>?_,λ b id o h=>?_,λ id cs fl h=>?_,λ b arr hb=>⟨(hI'.tb b arr hb).1,by simp only[fW];rw[aaN (by simp[fF,(hI.tb b arr hb).2]),(hI'.tb b arr hb).2];rfl⟩⟩,⟨hE.os,hE.tape,hE.output,hE.size,hE.F,hle.obj,λ b hb h=>?_,λ b id h hid=>?_,λ id hid hn=>?_,hs2l⟩,λ q z v ht=>?_,λ id off hid b hb=>?_,hlift,λ b h=>?_⟩
 ·rcases hobj2 b id h with⟨h1,h2,h3,h4⟩|⟨id',h1,h2,h3⟩
  ·obtain⟨k1,k2,k3,k4⟩:=hidK b h1;obtain⟨p1,o,go,p2,p3,p4⟩:=hI.ob _ _ h2;refine⟨λ o=>(k3 o).trans (p1 o),o,go,by rw[ghi _ h3 h4];exact p2,by rw[k2];exact p3,p4.same hle λ off blk hk=>?_⟩;obtain⟨j1,j2,j3,j4⟩:=hidK blk (hidC _ _ _ h3 hk);exact⟨by rw[j4];exact hk,j2,j3⟩
  ·obtain⟨p1,o,go,p2,p3,p4⟩:=hI'.ob _ _ h1;have hup:Ds rb S.length (.obj id') = .obj id:=by
    simp only[Ds];rcases h3 with⟨e1,e2⟩|⟨e1,e2⟩
    ·rw[aaN (by omega),e2]
    ·rw[aaR e1,e2]
   have hupc:∀off,Ds rb S.length (.cell id' off) = .cell id off:=by
    intro off;simp only[Ds];rcases h3 with⟨e1,e2⟩|⟨e1,e2⟩
    ·rw[aaN (by omega),e2]
    ·rw[aaR e1,e2]
   have hog:bV S2 id=some o:=by
    rcases h3 with⟨e1,e2⟩|⟨e1,e2⟩
    ·subst e2;rw[glo _ e1];exact p2
    ·subst e2;subst e1;obtain⟨_,_,_,_,hg,_⟩:=gnew o p2;exact hg
   refine⟨p1,o,go,hog,p3,?_⟩
   cases o with
   |cells cs fl=>
    have hrf:bI rb cs=true:=by
     rcases h3 with⟨e1,e2⟩|⟨e1,e2⟩
     ·exact dH (by omega) _ (hI'.rf _ _ _ p2)
     ·subst e1;obtain⟨_,_,e,hr,_⟩:=gnew _ p2;injection e with e _;subst e;exact hr
    cases go<;>simp only[kQ]at p4⊢;obtain⟨q1,q2,q3⟩:=p4;refine⟨q1,λ o c hc=>?_,λ o sz hm=>?_⟩
    ·obtain⟨v,hv,hr,hf,ho⟩:=q2 o c hc;exact⟨v,hv,hlift c v (dQ.1 hrf c (abQ hc)) hr,hf,ho⟩
    ·refine(q3 o sz hm).map λ v hv ht=>⟨v,hv,?_⟩
     rcases ht with ht|⟨blk,hb,ht⟩
     ·exact .inl ht
     ·exact .inr ⟨blk,by rw[seen blk _ hb (by simp),hupc],ht⟩
   |dead=>cases go<;>simp only[kQ]at p4
 ·rcases hobj2 b id h with⟨h1,h2,h3,h4⟩|⟨i1,h1,h2,h3⟩<;>rcases hobj2 b' id h' with⟨k1,k2,k3,k4⟩|⟨i2,k1,k2,k3⟩
  ·exact hI.inj _ _ _ h2 k2
  ·omega
  ·omega
  ·have:i1=i2:=by omega
   subst this;exact hI'.inj _ _ _ h1 k1
 ·rcases cases2 b _ h with⟨_,h2⟩|⟨ℓ',h1,_,_⟩
  ·exact abL (hI.tk _ _ h2) hE.size
  ·exact hI'.tk _ _ h1
 ·rcases cases2 b _ h with⟨_,h2⟩|⟨ℓ',h1,h2,_⟩
  ·exact abL (hI.cl _ _ _ h2) hs2l
  ·cases ℓ' with
   |obj id'=>simp only[Ds]at h2;split at h2<;>cases h2
   |cell id' off'=>
    have hlt:=hI'.cl _ _ _ h1;simp only[Ds]at h2;split at h2
    ·injection h2 with h2 _
     have e:id'=rb:=by assumption
     obtain⟨o',ho'⟩:=oM hlt;rw[e]at ho';obtain⟨_,_,_,_,_,hl⟩:=gnew o' ho';omega
    ·injection h2 with h2 _;omega
   |slot q=>simp[Ds]at h2
   |ext=>simp[Ds]at h2
 ·rcases abn id rb with h1|h1
  ·rw[glo _ h1]at h;exact hI'.rf _ _ _ h
  ·rcases abn id S.length with h2|h2
   ·rw[ghi _ h1 h2]at h;exact hI.rf _ _ _ h
   ·have hlt:=dR h;rcases hs with⟨e,rfl⟩|⟨cs',fl',S',rfl,e,hr,rfl⟩
    ·simp[ft hrb,e]at hlt;omega
    ·have hl:(nB rb S++S').length=S.length:=by simp[ft hrb,e];omega
     have:id=S.length:=by simp only[aaT,hl]at hlt;omega
     subst this;simp only[bV,hl,if_true]at h;injection h with h;injection h with h _;subst h
     exact dH (by omega) _ hr
 ·rcases h with h|h
  ·have hn:=MR (rb:=rb) h;obtain⟨k1,k2,k3⟩:=hE.keep b hb (.inl hn);refine⟨?_,k2,k3⟩;simp only[fW];rw[aaN (by rw[hn];simp),k1,hn,h];rfl
  ·have hx:(fF G rb).own b=some .ext:=by simp[fF,h,vw]
   obtain⟨k1,k2,k3,k4⟩:=hidK b hx;exact⟨k4,k2,k3⟩
 ·rcases hobj2 b id h with⟨_,h2,_,_⟩|⟨id',h1,h2,h3⟩
  ·exact h2
  ·have:id'<rb/\id=id':=by omega
   obtain⟨e1,rfl⟩:=this;exact(jK.1 (hE.newo _ _ h1 (by omega))).1
 ·rcases abn id rb with h1|h1
  ·rw[glo _ h1,hE.ph id (by omega) (λ b hb=>hn b (jK.1 hb).1),kG hrb h1]
  ·exact ghi _ h1 hid
 ·exact ht.same λ blk hb=>by
   obtain⟨k1,k2,k3,k4⟩:=hidK blk (hidS _ _ hb);exact⟨by rw[k4];exact hb,k2,k3⟩
 ·exact cell?_of_heap (hidK b (hidO b id hid hb)).2.1 off
 ·rw[seen b _ h (by simp)];simp[Ds]
end
section
variable {P : Program} {aK : Pol} {w : World} {G : Sg} {S : List Ob}
structure EffR (P:Program) (aK:Pol) (w:World) (G:Sg) (S:List Ob) (a:Act) (k r i:Nat) (ops:List Oper) (vals:List V) (fl:Fl) (o:Oper) (v:V) (S':List Ob) (x:Value) (w':World) (G':Sg):Prop where
 rv:RV G' v x
 inv:Inv w' G' S'
 ext:Ext w G S w' G' S'
 tok:iO w' G' (a.put o.dst x) (cv P aK k r i ops fl o)
 sp:∀id off,gf P vals id off 1 o=true->∀b,G.own b=some (.obj id)->w'.cell? ⟨b,off,none⟩=w.cell? ⟨b,off,none⟩
def GU(P:Program)(o:Oper)(a:Act)(w:World)(R:Value->World->Prop):Prop:=
 ∀(next:Act->World->Prop) (Q:Exit->Act->World->Prop),(∀x w',R x w'->next (a.put o.dst x) w')->o.wp P a w next Q
theorem Eff.does{a:Act}{k r i:Nat}{ops:List Oper}{vals:List V}{fl:Fl}{o:Oper}{v:V}{S':List Ob}{x:Value}{w':World}{G':Sg}(h:Eff P aK w G S a k r i ops vals fl o v S' x w' G'):
  GU P o a w λ x w'=>∃G',EffR P aK w G S a k r i ops vals fl o v S' x w' G':=by
 intro next Q hn;have:=hn x w' ⟨G',h.rv,h.inv,h.ext,h.tok,h.sp⟩;unfold Oper.wp;rcases h.run with e|⟨e,rfl⟩
 ·rw[e];exact this
 ·rw[e];exact this
def gL(P:Program)(k:Nat)(vs:Array Value)(w:World)(R:Value->World->Prop):Prop:=
 ∀(o:Oper) (a:Act) (next:Act->World->Prop) (Q:Exit->Act->World->Prop),(∀x w',R x w'->next (a.put o.dst x) w')->o.upon P a next Q ((callFunc k vs).run P w)
theorem gL.of_calls {k : Nat} {vs : Array Value} {R : Value → World → Prop} {fn : Func} (hf : P.funcs[k]? = some fn) (hb : fn.body.isSome = true) (hn : fn.name ≠ "runtime.NumGoroutine")
  (h:Calls P k vs w λ e w'=>∃x,e = .returned x/\R x w'):gL P k vs w R:=by
 intro o a next Q hnx;have:(callFunc k vs).run P w = .ok (.enter k vs) w:=by obtain⟨c,hc⟩:=Option.isSome_iff_exists.1 hb;simp[callFunc,hf,hn,hc]
 rw[this];simp only[Oper.upon];refine Calls.mono h λ e w' he=>?_;obtain⟨x,rfl,hr⟩:=he;exact hnx x w' hr
def cx(P:Program)(k:Nat)(args:List V)(S:List Ob)(o:Out):Prop:=
 ∀(w:World) (G:Sg) (vs:Array Value),Inv w G S->eY G args vs.toList->(∀b q,G.own b≠some (.slot q))->gL P k vs w λ x w'=>∃G',RV G' o.1 x/\Inv w' G' o.2/\Ext w G S w' G' o.2
def lA(P:Program)(f:Task->Option Out):Prop:=∀k args S o,f (.call k args S)=some o->cx P k args S o
theorem pG{rb:Nat}{o r:Out}(h:oJ rb S o=some r):
  (o.2.length=rb/\r.2=nB rb S++o.2\/∃cs fl S',o.2 = .cells cs fl::S'/\S'.length=rb/\bI rb cs=true/\r.2 = .cells cs fl::(nB rb S++S'))/\
  (cj rb o.1=true/\r.1=o.1\/(∃off,o.1 = .p rb off/\r.1 = .p S.length off)\/∃off len,o.1 = .m rb off len/\r.1 = .m S.length off len):=by
 unfold oJ at h;split at h
 ·rename_i hl;split at h
  ·rename_i hb;injection h with h;subst h
   exact⟨.inl ⟨hl,rfl⟩,.inl ⟨(yk _ _).2 hb,rfl⟩⟩
  ·simp at h
 ·split at h
  ·rename_i cs fl S' id off e2 e1;split at h
   ·rename_i hc;injection h with h;subst h
    obtain⟨rfl,h1,h2⟩:=hc;exact⟨.inr ⟨cs,fl,S',e2,h1,h2,rfl⟩,.inr (.inl ⟨off,e1,rfl⟩)⟩
   ·simp at h
  ·rename_i cs fl S' id off len e2 e1;split at h
   ·rename_i hc;injection h with h;subst h
    obtain⟨rfl,h1,h2⟩:=hc;exact⟨.inr ⟨cs,fl,S',e2,h1,h2,rfl⟩,.inr (.inr ⟨off,len,e1,rfl⟩)⟩
   ·simp at h
  ·simp at h
theorem Ml{f:Task->Option Out}(hF:lA P f){k r i:Nat}{ops:List Oper}{vals:List V}{fl:Fl}{a:Act}{o:Oper}{c:Call}{fv:Operand}{v:V}{S':List Ob}(hI:Inv w G S)(hf:Fr G vals a)(htk:iO w G a fl)
  (hop:o.op = .call c) (hcal:c.callee = .value fv) (h:aD f (gU P aK k r i ops vals fl S o)=some (v,S')):
  GU P o a w λ x w'=>∃G',EffR P aK w G S a k r i ops vals fl o v S' x w' G':=by
 unfold gU at h;simp only[hop,hcal,bE,abd]at h;obtain⟨args,hargs,vf,hvf,h⟩:=h;split at h;rotate_left
 ·simp[aD]at h
 rename_i g;simp only[bS]at h;split at h;rotate_left
 ·simp at h
 rename_i hrb;simp only[decide_eq_true_eq]at hrb;rw[fP]at h;obtain⟨out,hout,h⟩:=abd.1 h;simp only[bE,abd,aD,Option.some.injEq]at h;obtain⟨r2,hj,e⟩:=h;subst e;have hfr:=eh hf hvf;simp only[RV]at hfr;have har:=oh hf hargs;intro next Q hn;have hex:execOp a.eval o=callFunc g (c.args.map a.eval):=by simp[execOp,hop,resolve,hcal,hfr,Deferred.ofValue,invoke]
 unfold Oper.wp;rw[hex];have hall:eY G args (c.args.map a.eval).toList:=by rw[Array.toList_map];exact har
 have hrefs:bI (mG args) args=true:=(iH _ _).2 (aa4 _);have hall':eY (fF G (mG args)) args (c.args.map a.eval).toList:=
  eY.lift (A:=G) (B:=fF G (mG args)) (n:=mG args) (λ _ _ _ h=>h) (λ b i hi h=>jK.2 ⟨h,hi⟩) _ _ hrefs hall
 refine hF g _ _ _ hout w (fF G (mG args)) _ (PX hI hrb) hall' (λ b q=>MS) o a next Q ?_;rintro x w' ⟨G',hr1,hi1,he1⟩;obtain⟨sh1,sh2⟩:=pG hj;simp only at sh1 sh2;obtain⟨u1,u2,u3,u4,u5,u6⟩:=Ou hI hrb hi1 he1 sh1;refine hn x w' ⟨_,?_,u1,u2,?_,?_⟩
 ·rcases sh2 with⟨h1,h2⟩|⟨off,h1,h2⟩|⟨off,len,h1,h2⟩
  ·rw[h2];exact u5 _ _ h1 hr1
  ·rw[h1]at hr1;rw[h2];simp only[RV]at hr1⊢;obtain⟨blk,h3,h4⟩:=hr1;exact⟨blk,u6 _ h3,h4⟩
  ·rw[h1]at hr1;rw[h2];simp only[RV]at hr1⊢;obtain⟨A,C,h3,h4,h5⟩:=hr1;exact⟨A,C,h3,h4,λ hp=>by obtain⟨blk,h6,h7⟩:=h5 hp;exact⟨blk,u6 _ h6,h7⟩⟩
 ·rw[ko ⟨by simp[hop],by simp[hop],by simp[hop],by intro c' e;rw[hop]at e;injection e with e;subst e;rw[hcal];simp⟩]
  exact htk.put (λ q' sz v _ h=>u3 _ _ _ h) (q:=none) (by simp)
 ·intro id off hs b hb;refine u4 id off ?_ b hb;unfold gf at hs;simp only[hop,hcal,hargs,hvf]at hs;exact(iH _ _).1 hs
theorem Ii{vals:List V}{a:Act}{o:Oper}{v:V}(hI:Inv w G S)(hf:Fr G vals a)(h:fA P vals S o=some v):
  GU P o a w λ x w'=>(execOp a.eval o).run P w = .ok (.value x) w'/\(∀id off b,G.own b=some (.obj id)->w'.cell? ⟨b,off,none⟩=w.cell? ⟨b,off,none⟩)/\∃G',RV G' v x/\Inv w' G' S/\Ext w G S w' G' S/\(∀q sz v,gq w G (.slot q) sz v->gq w' G' (.slot q) sz v):=by
 obtain⟨x,w',G',p1,p2,p3,p4⟩:=Ka hI hf h;intro next Q hn;unfold Oper.wp;rw[p1]
 exact hn x w' ⟨p1,λ id off b hb=>cell?_of_heap (p3.heap _ (hI.tk _ _ hb)) off,G',p2,p4,Ext.of_grow p3,λ q' sz v ht=>
  ht.same λ blk hb=>⟨by rw[p3.own];exact hb,p3.heap _ (hI.tk _ _ hb),λ o=>p3.old _ _ (hI.tk _ _ hb)⟩⟩
theorem zK{ty:TypeId}{b off:Nat}{x y:Value}{w':World}(hag:mP P ty=some false)(hc:w.cell? ⟨b,off,none⟩=some y)(h:(Instr.loadAt ty (.pointer (some ⟨b,off,none⟩))).run P w = .ok x w'):y=x:=by simp[Instr.loadAt,Instr.sureAddr,loadVar,iz hag,hc]at h;exact h.1
theorem GZ(hI:Inv w G S){n id off b:Nat}{v:V}(h:gQ false n S (.p id off)=some v)(ho:G.own b=some (.obj id)):∃y,w.cell? ⟨b,off,none⟩=some y:=by
 unfold gQ at h;simp only at h;split at h;rotate_left
 ·simp at h
 rename_i cs fl hob;obtain⟨_,o',go,hs',hgo,hor⟩:=hI.ob _ _ ho;rw[hob]at hs';injection hs' with hs';subst hs'
 cases go<;>simp only[kQ]at hor;obtain⟨y,hy,_⟩:=hor.2.1 off v (by simpa using h);exact⟨y,by simp[World.cell?,hgo,hy]⟩
theorem Nt{k r i:Nat}{ops:List Oper}{vals:List V}{fl:Fl}{a:Act}{o:Oper}{v:V}(hI:Inv w G S)(hf:Fr G vals a)(htk:iO w G a fl)(hne:gM o=false)(h:fA P vals S o=some v):
  GU P o a w λ x w'=>(execOp a.eval o).run P w = .ok (.value x) w'/\(∀id off b,G.own b=some (.obj id)->w'.cell? ⟨b,off,none⟩=w.cell? ⟨b,off,none⟩)/\∃G',EffR P aK w G S a k r i ops vals fl o v S x w' G':=by
 obtain⟨x,w',G',p1,p2,p3,p4⟩:=Ka hI hf h;have hext:Ext w G S w' G' S:=Ext.of_grow p3
 have htok:∀q' sz v,gq w G (.slot q') sz v->gq w' G' (.slot q') sz v:=λ q' sz v ht=>
  ht.same λ blk hb=>⟨by rw[p3.own];exact hb,p3.heap _ (hI.tk _ _ hb),λ o=>p3.old _ _ (hI.tk _ _ hb)⟩
 have hsp:∀id off,∀b,G.own b=some (.obj id)->w'.cell? ⟨b,off,none⟩=w.cell? ⟨b,off,none⟩:=λ id off b hb=>cell?_of_heap (p3.heap _ (hI.tk _ _ hb)) off;have hdone:∀G2,RV G2 v x->Inv w' G2 S->Ext w G S w' G2 S->iO w' G2 (a.put o.dst x) (cv P aK k r i ops fl o)->GU P o a w λ x w'=>(execOp a.eval o).run P w = .ok (.value x) w'/\(∀id off b,G.own b=some (.obj id)->w'.cell? ⟨b,off,none⟩=w.cell? ⟨b,off,none⟩)/\∃G',EffR P aK w G S a k r i ops vals fl o v S x w' G':=by intro G2 h1 h2 h3 h4 next Q hn;unfold Oper.wp;rw[p1];exact hn x w' ⟨p1,λ id off b hb=>hsp id off b hb,G2,h1,h2,h3,h4,λ id off _ b hb=>hsp id off b hb⟩
 have hplain:cv P aK k r i ops fl o=(match o.dst with|some d=>eV fl d|none=>fl)->GU P o a w λ x w'=>(execOp a.eval o).run P w = .ok (.value x) w'/\(∀id off b,G.own b=some (.obj id)->w'.cell? ⟨b,off,none⟩=w.cell? ⟨b,off,none⟩)/\∃G',EffR P aK w G S a k r i ops vals fl o v S x w' G':=by intro e;refine hdone G' p2 p4 hext ?_;rw[e];exact htk.put (q:=none) (λ q' sz v _ h=>htok q' sz v h) (by simp)
 by_cases hg:o.guard.isSome=true
 ·refine hplain ?_;unfold cv;simp only[hg,if_true];cases o.dst<;>rfl
 have hgn:o.guard=none:=by cases hx:o.guard<;>simp[hx]at hg⊢
 cases hop:o.op with
 |assign y=>
  cases hd:o.dst with
  |none=>exact hplain (by unfold cv;cases y<;>simp[hgn,hop,hd])
  |some d=>
   have hxe:x=a.eval y/\w'=w:=by
    have:(execOp a.eval o).run P w = .ok (.value (a.eval y)) w:=by simp[execOp,hop]
    rw[this]at p1;injection p1 with p1 p1';injection p1 with p1;exact⟨p1.symm,p1'.symm⟩
   cases y with
   |tmp t=>
    cases ht:tok fl t with
    |none=>exact hplain (by unfold cv;simp[hgn,hop,hd,ht])
    |some z=>
     obtain⟨rfl,rfl⟩:=hxe;obtain⟨q1,q2⟩:=NC (SP:=λ _ _=>True) p4 t d;refine hdone _ (RV.mono q1.ext.le _ _ p2) q1.inv (hext.trans q1.ext) ?_;have:cv P aK k r i ops fl o=(d,z)::eV (eV fl d) t:=by unfold cv;simp[hgn,hop,hd,ht]
     rw[this];have h1:iO w' G a (eV fl t):=htk.sub j9;have h2:=(h1.put (dst:=some d) (x:=a.eval (.tmp t)) (G':=⟨G'.F,lN G'.own (.slot t) (.slot d)⟩) (w':=w') (q:=some t) (λ q' sz v hq h=>q1.tok q' sz v hq (htok q' sz v h)) (by intro y z e;injection e with e;subst e;exact rz)).sub ry;rw[hd];refine h2.add ?_;rcases htk t z (qE ht)with h|h
     ·exact .inl h
     ·exact .inr (q2 _ _ (htok _ _ _ h))
   |const c=>
    by_cases hc:c = .slice none 0 0
    ·subst hc
     cases hz:(mu P o.type).bind (cq P) with
     |none=>exact hplain (by unfold cv;simp[hgn,hop,hd,hz])
     |some z=>
      refine hdone G' p2 p4 hext ?_;have:cv P aK k r i ops fl o=(d,uQ (aK.mR k r i) z)::eV fl d:=by unfold cv;simp[hgn,hop,hd,hz]
      rw[this];have h2:=htk.put (dst:=some d) (x:=x) (q:=none) (λ q' sz v _ h=>htok q' sz v h) (by simp);rw[hd];exact h2.add (.inr (.inl ⟨none,0,⟨hxe.1,λ _=>rfl⟩⟩))
    ·refine hplain ?_;unfold cv;simp only[hgn,hop,hd];split<;>simp_all
   |func g=>exact hplain (by unfold cv;simp[hgn,hop,hd])
   |global g=>exact hplain (by unfold cv;simp[hgn,hop,hd])
 |call c=>
  refine hplain (ko ⟨by simp[hop],by simp[hop],by simp[hop],λ c' e hc=>?_⟩);rw[hop]at e;injection e with e;subst e
  simp[gM,hop,hc]at hne
 |store t ad y=>simp[gM,hop]at hne
 |makeSlice t n c=>simp[gM,hop]at hne
 |_=>exact hplain (ko ⟨by simp[hop],by simp[hop],by simp[hop],by simp[hop]⟩)
end
section
variable {P : Program} {aK : Pol}
def zo(vals vals':List V)(o:Oper):Prop:=∀x∈o.op.operands.toList,ev vals x=ev vals' x
theorem mapM_congr{vals vals':List V}:∀{xs:List Operand},(∀x∈xs,ev vals x=ev vals' x)->xs.mapM (ev vals)=xs.mapM (ev vals')
 | [],_=>rfl
 |x::xs,h=>by
  rw[List.mapM_cons,List.mapM_cons,h x (by simp),mapM_congr λ y hy=>h y (by simp[hy])]
theorem zU{vals vals':List V}{x:Option Operand}(h:∀y,x=some y->ev vals y=ev vals' y):Dr vals x=Dr vals' x:=by
 cases x with
 |none=>rfl
 |some y=>simp only[Dr,h y rfl]
theorem Ik{vals vals':List V}{S:List Ob}{o:Oper}(h:zo vals vals' o):fA P vals S o=fA P vals' S o:=by
 unfold zo at h;unfold fA;cases hop:o.op<;>rw[hop]at h<;>simp only[Op.operands]at h<;>simp only
 case build t parts=>
  have:parts.toList.map (λ p=>partOf P (match P.underlying t with|some (.struct fs)=>fs|_=>#[]) vals p)=parts.toList.map (λ p=>partOf P (match P.underlying t with|some (.struct fs)=>fs|_=>#[]) vals' p):=
   List.map_congr_left λ p hp=>by
    unfold partOf;split
    ·rw[h p.2 (by simpa using List.mem_map_of_mem (f:=λ x:Nat×Operand=>x.2) hp)]
    ·rfl
  split
  ·rename_i fs z hu _;simp only[hu]at this;simp only[this]
  ·rfl
 case buildSlice t n parts=>
  have:(parts.toList.map λ p=>(p.1,ev vals p.2))=parts.toList.map λ p=>(p.1,ev vals' p.2):=
   List.map_congr_left λ p hp=>by rw[h p.2 (by simpa using List.mem_map_of_mem (f:=λ x:Nat×Operand=>x.2) hp)]
  simp only[this]
 case slice t x lo hi mx=>
  have hx:=h x (by simp);have hl:Dr vals lo=Dr vals' lo:=zU λ y e=>h y (by subst e;simp);have hh:Dr vals hi=Dr vals' hi:=zU λ y e=>h y (by subst e;simp);simp only[hx,hl,hh]
 case call c=>
  have ha:∀x∈c.args.toList,ev vals x=ev vals' x:=λ x hx=>h x (by simp[Call.operands];right;simpa using hx);split
  ·split
   ·rename_i h0 h1;rw[ha _ (abQ (by simpa using h1))]
   ·rfl
  ·rw[mapM_congr ha]
  ·rw[mapM_congr ha]
  ·rfl
 all_goals (first|rfl|(simp at h;simp only[h];done)|(simp at h;obtain⟨h1,h2⟩:=h;simp only[h1,h2];done)|(simp at h;obtain⟨h1,h2,h3⟩:=h;simp only[h1,h2,h3];done)|skip)
theorem D1{vals vals':List V}{k r i:Nat}{ops:List Oper}{fl:Fl}{S:List Ob}{o:Oper}(h:zo vals vals' o)
  (hq:∀c x q,o.op = .call c->c.callee = .builtin .append->aK.app k r i=3->c.args.toList.head?=some x->lB ops x=some q->vals.getD q .u=vals'.getD q .u):gU P aK k r i ops vals fl S o=gU P aK k r i ops vals' fl S o:=by
 unfold zo at h;unfold gU;cases hop:o.op<;>rw[hop]at h<;>simp only[Op.operands]at h<;>try simp only
 case buildSlice t n parts=>
  have:(parts.toList.map λ p=>(p.1,ev vals p.2))=parts.toList.map λ p=>(p.1,ev vals' p.2):=
   List.map_congr_left λ p hp=>by rw[h p.2 (by simpa using List.mem_map_of_mem (f:=λ x:Nat×Operand=>x.2) hp)]
  simp only[this]
 case call c=>
  have ha:∀x∈c.args.toList,ev vals x=ev vals' x:=λ x hx=>h x (by simp[Call.operands];right;simpa using hx);split
  ·rename_i hcal;split
   ·rename_i x y t hargs ht;have hx:=ha x (by rw[hargs];simp);have hy:=ha y (by rw[hargs];simp);simp only[hx,hy];congr 1;funext e;congr 1;funext sz;congr 1;funext bx;congr 1;funext vy;congr 1;split<;>try rfl
    rename_i happ
    cases hb:lB ops x with
    |none=>rfl
    |some q=>
     simp only[ob];rw[hq c x q hop hcal happ (by rw[hargs];rfl) hb]
   ·rfl
  ·rename_i f hcal;rw[mapM_congr ha,h f (by simp[Call.operands,hcal])]
  ·rfl
 all_goals (first|rfl|(simp at h;simp only[h];done)|(simp at h;obtain⟨h1,h2⟩:=h;simp only[h1,h2];done)|(simp at h;obtain⟨h1,h2,h3⟩:=h;simp only[h1,h2,h3];done)|skip)
theorem FB{vals:List V}{S S':List Ob}{o:Oper}(h:reads P o=false):fA P vals S o=fA P vals S' o:=by
 unfold fA;cases hop:o.op<;>simp only[reads,hop]at h<;>try rfl
 case load=>simp at h
 case convert s d x=>
  simp only;split
  ·rename_i s' d' hs hd;rw[hs,hd]at h;split
   ·simp at h
   ·rfl
  ·rfl
def qK(S:List Ob)(id off n:Nat):Option (List V):=
 match bV S id with
 |some (.cells cs _)=>if off+n<=cs.length then some ((cs.drop off).take n)else none
 |_=>none
theorem M3{S S':List Ob}{ag:Bool}{n id off:Nat}(h:qK S id off n=qK S' id off n)(hn:ag=true\/n=1):gQ ag n S (.p id off)=gQ ag n S' (.p id off):=by
 have key:∀T:List Ob,gQ ag n T (.p id off)=(match qK T id off n with|some l=>(if ag then(y5 l).map (λ ds => .d (.g ds))else l[0]?)|none=>none):=by
  intro T;unfold qK;simp only[gQ];split
  ·rename_i cs fl ho;simp only[ho]
   cases ag with
   |true=>
    simp only[if_true];by_cases hle:off+n<=cs.length
    ·simp[hle]
    ·simp[hle]
   |false=>
    have hn1:n=1:=by simpa using hn
    subst hn1;simp only[Bool.false_eq_true,if_false];by_cases hle:off+1<=cs.length
    ·simp only[hle,if_true];rw[abP (by omega),List.getElem?_drop,Nat.add_zero]
    ·simp only[hle,if_false];exact abN (by omega)
  ·rename_i hno;split
   ·rename_i l hl;split at hl
    ·rename_i cs fl ho;exact absurd ho (hno cs fl)
    ·simp at hl
   ·rfl
 rw[key S,key S',h]
theorem uJ{S:List Ob}{x:Ob}{id off n:Nat}(h:id<S.length):qK (x::S) id off n=qK S id off n:=by unfold qK;rw[dG h]
theorem vN{f:Task->Option Out}{k r i:Nat}{ops:List Oper}{vals:List V}{fl:Fl}{S S':List Ob}{o:Oper}{v:V}{id off n:Nat}(h:aD f (gU P aK k r i ops vals fl S o)=some (v,S'))(hs:gf P vals id off n o=true)(hid:id<S.length):
  qK S' id off n=qK S id off n:=by
 unfold gU at h;split at h
 ·-- box
  simp only[bE,abd,aD,Option.some.injEq]at h;obtain⟨sz,hsz,vx,hvx,r',hr',e⟩:=h;subst e;have hn:∀{t cs fl},kI S t fl cs=some (v,S')->qK S' id off n=qK S id off n:=by
   intro t cs fl h;unfold kI at h;split at h
   ·simp at h;rw[<-h.2];exact uJ hid
   ·simp at h
  unfold oL at hr';split at hr'
  ·split at hr'
   ·exact hn hr'
   ·simp at hr'
  ·split at hr'
   ·exact hn hr'
   ·simp at hr'
 ·-- store
  rename_i t ad x hop;simp only[bE,abd,aD,Option.some.injEq,Prod.mk.injEq]at h;obtain⟨g,hg,sz,hsz,va,hva,vx,hvx,S1,hS1,rfl,rfl⟩:=h;unfold gf at hs;simp only[hop,hva,hsz]at hs;unfold kr at hS1;split at hS1;rotate_left
  ·simp at hS1
  rename_i id' off';simp only[Bool.or_eq_true,bne_iff_ne,decide_eq_true_eq]at hs;split at hS1;rotate_left
  ·simp at hS1
  rename_i cs fl0 hob;have hset:∀(cs':List V) (fl':Fl),cs'.length=cs.length->(id=id'->(cs'.drop off).take n=(cs.drop off).take n)->qK (oset S id' (.cells cs' fl')) id off n=qK S id off n:=by
   intro cs' fl' hl he;unfold qK;by_cases e:id=id'
   ·subst e;rw[dE hid,hob];simp only[hl,he rfl]
   ·rw[cJ e]
  split at hS1
  ·split at hS1;rotate_left
   ·simp at hS1
   rename_i ds;split at hS1;rotate_left
   ·simp at hS1
   rename_i hc;obtain⟨h1,h2,_,_⟩:=hc;injection hS1 with hS1;subst hS1
   refine hset _ _ (by simp[zF];omega) λ e=>?_;apply List.ext_getElem?;intro j;rcases abn j n with hj|hj
   ·rw[abP hj,abP hj,List.getElem?_drop,List.getElem?_drop];have hne:¬(off'<=off+j/\off+j<off'+sz):=by
     rcases hs with(hs|hs)|hs
     ·exact absurd e hs
     ·omega
     ·omega
    unfold zF;rcases abn (off+j) off' with h3|h3
    ·rw[abg,List.getElem?_append_left (by simp;omega),abP h3]
    ·rw[List.getElem?_append_right (by simp;omega),List.getElem?_drop]
     congr 1;simp;omega
   ·rw[abN (by simp;omega),abN (by simp;omega)]
  ·split at hS1;rotate_left
   ·simp at hS1
   rename_i hc;obtain⟨_,rfl,h2,_⟩:=hc;injection hS1 with hS1;subst hS1
   refine hset _ _ (by simp) λ e=>?_;apply List.ext_getElem?;intro j;rcases abn j n with hj|hj
   ·rw[abP hj,abP hj,List.getElem?_drop,List.getElem?_drop];rw[List.getElem?_set_ne];rcases hs with(hs|hs)|hs
    ·exact absurd e hs
    ·omega
    ·omega
   ·rw[abN (by simp;omega),abN (by simp;omega)]
 ·-- a make
  simp only[bE,abd,bS]at h;obtain⟨e,he,z,hz,h⟩:=h;split at h;rotate_left
  ·simp at h
  split at h
  ·simp only[bE,abd,aD,Option.some.injEq,Prod.mk.injEq]at h;obtain⟨vn,hvn,vc,hvc,v',hv',rfl,rfl⟩:=h;rfl
  ·simp only[bE,abd,aD,Option.some.injEq]at h;obtain⟨vn,hvn,vc,hvc,r',hr',e'⟩:=h;subst e';unfold ou at hr';split at hr'
   ·split at hr'
    ·simp at hr';rw[<-hr'.2];exact uJ hid
    ·simp at hr'
   ·simp at hr'
  ·simp[aD]at h
 ·-- a row of parts
  simp only[bE,abd,bS]at h;obtain⟨e,he,h⟩:=h;split at h;rotate_left
  ·simp at h
  split at h
  ·simp only[bE,abd,bS]at h;obtain⟨xs,hxs,h⟩:=h;split at h;rotate_left
   ·simp at h
   simp only[aD,Option.some.injEq]at h;obtain⟨rfl,rfl⟩:=Prod.mk.inj h;exact uJ hid
  ·simp[aD]at h
 ·-- a call
  rename_i c hop;split at h
  ·rename_i hcal;split at h;rotate_left
   ·simp[aD]at h
   simp only[bE,abd,bS]at h;obtain⟨e,he,sz,hsz,bx,hbx,vy,hvy,h⟩:=h;split at h;rotate_left
   ·simp at h
   split at h
   ·simp only[bS]at h;split at h;rotate_left
    ·simp at h
    simp only[bE,abd,aD,Option.some.injEq,Prod.mk.injEq]at h;obtain⟨v',hv',rfl,rfl⟩:=h;rfl
   ·simp only[bS,bE]at h;split at h;rotate_left
    ·simp at h
    simp only[abd,aD,Option.some.injEq]at h;obtain⟨r',hr',e'⟩:=h;subst e';unfold Yz at hr';split at hr'
    ·split at hr'
     ·split at hr'
      ·simp at hr';rw[<-hr'.2];exact uJ hid
      ·simp at hr'
     ·simp at hr'
    ·simp at hr'
   ·simp only[bS,bE,abd,aD]at h;obtain⟨q,hq,h⟩:=h;split at h;rotate_left
    ·simp at h
    simp only[abd,Option.some.injEq,Prod.mk.injEq]at h;obtain⟨v',hv',rfl,rfl⟩:=h;rfl
   ·simp only[bS,bE,abd,aD]at h;obtain⟨q,hq,⟨z,S1⟩,hun,h⟩:=h;split at h;rotate_left
    ·simp at h
    simp only[abd,Option.some.injEq,Prod.mk.injEq]at h;obtain⟨v',hv',rfl,rfl⟩:=h;unfold re at hun;split at hun;rotate_left
    ·simp at hun
    split at hun;rotate_left
    ·simp at hun
    rename_i id' off' _ _ cs fl1 hob;split at hun;rotate_left
    ·simp at hun
    injection hun with hun;injection hun with _ hun;subst hun
    unfold qK;by_cases e:id=id'
    ·subst e;rw[dE hid,hob]
    ·rw[cJ e]
   ·simp[aD]at h
  ·rename_i fv hcal;simp only[bE,abd]at h;obtain⟨args,hargs,vf,hvf,h⟩:=h;split at h;rotate_left
   ·simp[aD]at h
   rename_i g;simp only[bS]at h;split at h;rotate_left
   ·simp at h
   rename_i hrb;simp only[decide_eq_true_eq]at hrb;rw[fP]at h;obtain⟨out,hout,h⟩:=abd.1 h;simp only[bE,abd,aD,Option.some.injEq]at h;obtain⟨r2,hj,e⟩:=h;subst e;obtain⟨sh1,_⟩:=pG hj;unfold gf at hs;simp only[hop,hcal,hargs,hvf]at hs;have h1:mG args<=id:=(iH _ _).1 hs;have hg:bV S' id=bV S id:=by
    rcases sh1 with⟨h3,h4⟩|⟨cs,fl',S1,h3,h4,_,h5⟩
    ·simp only at h4;rw[h4];exact tN hrb h3 h1
    ·simp only at h5;rw[h5,dG (by simp[ft hrb,h4];omega)];exact tN hrb h4 h1
   unfold qK;rw[hg]
  ·simp[aD]at h
 ·simp[aD]at h
end
section
variable {P : Program} {aK : Pol}
inductive OpStep (P:Program) (aK:Pol) (f:Task->Option Out) (k r i:Nat) (ops:List Oper) (o:Oper) (id:Nat) (vals:List V) (fl:Fl) (S:List Ob):V->List Ob->Prop where
 |alloc (h:cy o=true):OpStep P aK f k r i ops o id vals fl S (ua o id) S
 |pure {v:V} (h:cy o=false) (hg:mm o=true) (he:gM o=false) (hp:Bm P ops vals S o=some v):OpStep P aK f k r i ops o id vals fl S v S
 |eff {v:V} {S':List Ob} (h:cy o=false) (hg:mm o=true) (he:gM o=true) (hp:aD f (pg P aK k r i ops vals fl S o)=some (v,S')):OpStep P aK f k r i ops o id vals fl S v S'
structure Trace (P:Program) (aK:Pol) (f:Task->Option Out) (k r:Nat) (ops rest:List Oper) (i:Nat) (vs:Nat->List V) (fls:Nat->Fl) (Ss:Nat->List Ob) (ids:Nat->Nat) (rv:Nat->V):Prop where
 step:∀j o,rest[j]?=some o->OpStep P aK f k r (i+j) ops o (ids j) (vs j) (fls j) (Ss j) (rv j) (Ss (j+1))
 vs:∀j o,rest[j]?=some o->vs (j+1)=rU o.dst (rv j) (vs j)
 fls:∀j o,rest[j]?=some o->fls (j+1)=cv P aK k r (i+j) ops (fls j) o
 ids:∀j o,rest[j]?=some o->ids (j+1)=if cy o=true then ids j+1 else ids j
def shift{α:Type}(a:α)(g:Nat->α):Nat->α
 |0=>a
 |n+1=>g n
theorem Gp{f:Task->Option Out}{k r:Nat}{ops:List Oper}{K:List V->Fl->List Ob->Tr}{res:Out}:∀(rest:List Oper) (i id:Nat) (vals:List V) (fl:Fl) (S:List Ob),aD f (km P aK k r ops rest i id vals fl S K)=some res->
  ∃vs fls Ss ids rv,vs 0=vals/\fls 0=fl/\Ss 0=S/\ids 0=id/\Trace P aK f k r ops rest i vs fls Ss ids rv/\aD f (K (vs rest.length) (fls rest.length) (Ss rest.length))=some res
 | [],i,id,vals,fl,S,h=>⟨λ _=>vals,λ _=>fl,λ _=>S,λ _=>id,λ _ => .u,rfl,rfl,rfl,rfl,⟨by simp,by simp,by simp,by simp⟩,h⟩
 |o::os,i,id,vals,fl,S,h=>by
  have key:∀(v:V) (S':List Ob),OpStep P aK f k r i ops o id vals fl S v S'->aD f (km P aK k r ops os (i+1) (if cy o=true then id+1 else id) (rU o.dst v vals) (cv P aK k r i ops fl o) S' K)=some res->
    ∃vs fls Ss ids rv,vs 0=vals/\fls 0=fl/\Ss 0=S/\ids 0=id/\Trace P aK f k r ops (o::os) i vs fls Ss ids rv/\aD f (K (vs (o::os).length) (fls (o::os).length) (Ss (o::os).length))=some res:=by
   intro v S' hs hr;obtain⟨vs,fls,Ss,ids,rv,h1,h2,h3,h4,h5,h6⟩:=Gp os _ _ _ _ _ hr;refine⟨shift vals vs,shift fl fls,shift S Ss,shift id ids,shift v rv,rfl,rfl,rfl,rfl,⟨?_,?_,?_,?_⟩,h6⟩
   ·intro j o' hj
    cases j with
    |zero=>simp at hj;subst hj;simp only[shift,Nat.add_zero,h3];exact hs
    |succ j=>have:=h5.step j o' (by simpa using hj);rw[aby,Nat.add_comm 1 j]at this;exact this
   ·intro j o' hj
    cases j with
    |zero=>simp at hj;subst hj;simp only[shift,h1]
    |succ j=>exact h5.vs j o' (by simpa using hj)
   ·intro j o' hj
    cases j with
    |zero=>simp at hj;subst hj;simp only[shift,Nat.add_zero,h2]
    |succ j=>have:=h5.fls j o' (by simpa using hj);rw[aby,Nat.add_comm 1 j]at this;exact this
   ·intro j o' hj
    cases j with
    |zero=>simp at hj;subst hj;simp only[shift,h4]
    |succ j=>exact h5.ids j o' (by simpa using hj)
  simp only[km]at h;split at h
  ·rename_i ha;exact key _ _ (.alloc ha) (by rw[aaR ha];exact h)
  ·rename_i ha;split at h
   ·simp[aD]at h
   ·rename_i hg;split at h
    ·rename_i he;rw[bE]at h;obtain⟨v,hv,h⟩:=abd.1 h;exact key v S (.pure ha hg he hv) (by rw[aaN (by simp[ha])];exact h)
    ·rename_i he;rw[pE]at h;obtain⟨⟨v,S'⟩,hv,h⟩:=abd.1 h;exact key v S' (.eff ha hg he hv) (by rw[aaN (by simp[ha])];exact h)
def z7(ops:List Oper)(j:Nat):Nat:=((ops.take j).filter cy).length
theorem wV(ops:List Oper):z7 ops 0=0:=by simp[z7]
theorem ss{ops:List Oper}{j:Nat}{o:Oper}(h:ops[j]?=some o):z7 ops (j+1)=if cy o=true then z7 ops j+1 else z7 ops j:=by unfold z7;rw[List.take_add_one,h];simp[List.filter_append];cases ha:cy o<;>simp[List.filter,ha]
theorem wU{ops:List Oper}{i j:Nat}(h:i<=j):z7 ops i<=z7 ops j:=by
 unfold z7;have:ops.take i=(ops.take j).take i:=by rw[List.take_take,Nat.min_eq_left h]
 rw[this];exact(List.Sublist.filter _ (List.take_sublist _ _)).length_le
inductive NewAt (P:Program) (all:List Oper) (vals:List V) (o:Oper):Ob->Prop where
 |var {t:TypeId} {z:List V} {fl:Fl} (hop:o.op = .alloc t) (hz:ie P t=some z) (h1:z.all V.one=true) (hf:oH (some t) z fl=true):NewAt P all vals o (.cells z fl)
 |box {t:TypeId} {q sz:Nat} {cs:List V} {fl:Fl} (hop:o.op = .box t (.tmp q)) (hgu:o.guard=none) (hq:∀e∈all,e.dst≠some q) (hb:mX sz (vals.getD q .u)=some cs) (h1:cs.all V.one=true) (hf:oH (some t) cs fl=true):NewAt P all vals o (.cells cs fl)
theorem ll{w:World}{G:Sg}{k r:Nat}{all:List Oper}{vals:List V}:∀(ops:List Oper) (i:Nat) (S S1:List Ob),mC P aK k r all vals ops i S=some S1->Inv w G S->
  Inv w G S1/\Ext w G S w G S1/\S1.length=S.length+z7 ops ops.length/\(∀id,id<S.length->bV S1 id=bV S id)/\
   ∀j o,ops[j]?=some o->cy o=true->∃x,NewAt P all vals o x/\bV S1 (S.length+z7 ops j)=some x
 | [],i,S,S1,h,hI=>by
  simp[mC]at h;subst h;exact⟨hI,Ext.refl _ _ _,by simp[z7],λ _ _=>rfl,by simp⟩
 |o::os,i,S,S1,h,hI=>by
  have hc0:∀j,z7 (o::os) (j+1)=(if cy o=true then 1 else 0)+z7 os j:=by intro j;unfold z7;rw[List.take_succ_cons];cases ha:cy o<;>simp[List.filter,ha];omega
  have hskip:cy o=false->mC P aK k r all vals os (i+1) S=some S1->Inv w G S1/\Ext w G S w G S1/\S1.length=S.length+z7 (o::os) (o::os).length/\(∀id,id<S.length->bV S1 id=bV S id)/\
   ∀j o',(o::os)[j]?=some o'->cy o'=true->∃x,NewAt P all vals o' x/\bV S1 (S.length+z7 (o::os) j)=some x:=by
   intro ha hr;obtain⟨h1,h2,h3,h4,h5⟩:=ll os (i+1) S S1 hr hI;refine⟨h1,h2,by rw[aaT,hc0,h3,ha];simp,h4,λ j o' hj ho'=>?_⟩
   cases j with
   |zero=>simp at hj;subst hj;rw[ha]at ho';cases ho'
   |succ j=>
    obtain⟨x,p1,p5⟩:=h5 j o' (by simpa using hj) ho';exact⟨x,p1,by rw[hc0,ha];simpa using p5⟩
  simp only[mC]at h;split at h
  ·rename_i t hop hgu;have ha:cy o=true:=by simp[cy,hop,hgu]
   split at h;rotate_left
   ·simp at h
   rename_i z hz;split at h;rotate_left
   ·simp at h
   rename_i w1 hw1;unfold kI at hw1;split at hw1;rotate_left
   ·simp at hw1
   rename_i hcond;obtain⟨c1,c2,c3⟩:=hcond;injection hw1 with hw1;subst hw1
   obtain⟨h1,h2,h3,h4,h5⟩:=ll os (i+1) _ S1 h (hI.phantom _ (by intro cs fl e;injection e with e _;subst e;exact dH (by omega) _ c3));simp only[aaT]at h3 h4 h5;refine⟨h1,(Ext.phantom _).trans h2,by rw[aaT,hc0,h3,ha];simp;omega,λ id hid=>by rw[h4 id (by omega),dG hid],λ j o' hj ho'=>?_⟩
   cases j with
   |zero=>
    simp at hj;subst hj;refine⟨_,.var hop hz c2 c1,?_⟩;rw[wV,Nat.add_zero,h4 _ (by omega)];simp[bV]
   |succ j=>
    obtain⟨x,p1,p5⟩:=h5 j o' (by simpa using hj) ho';refine⟨x,p1,?_⟩;rw[hc0,ha,aaR rfl,<-aby];exact p5
  ·rename_i t q hop hgu;split at h
   ·rename_i hae;have ha:cy o=true:=by simp[cy,hop,hgu,hae]
    split at h;rotate_left
    ·simp at h
    rename_i hall;split at h;rotate_left
    ·simp at h
    rename_i sz hsz;split at h;rotate_left
    ·simp at h
    rename_i w1 hw1;rw[Qw]at hw1;obtain⟨z,hz,hw1⟩:=abd.1 hw1;unfold kI at hw1;split at hw1;rotate_left
    ·simp at hw1
    rename_i hcond;obtain⟨c1,c2,c3⟩:=hcond;injection hw1 with hw1;subst hw1
    obtain⟨h1,h2,h3,h4,h5⟩:=ll os (i+1) _ S1 h (hI.phantom _ (by intro cs fl e;injection e with e _;subst e;exact dH (by omega) _ c3));simp only[aaT]at h3 h4 h5;refine⟨h1,(Ext.phantom _).trans h2,by rw[aaT,hc0,h3,ha];simp;omega,λ id hid=>by rw[h4 id (by omega),dG hid],λ j o' hj ho'=>?_⟩
    cases j with
    |zero=>
     simp at hj;subst hj;refine⟨_,.box hop hgu (λ e he hd=>?_) hz c2 c1,?_⟩
     ·have:=abu.1 hall e he;rw[hd]at this;simp at this
     rw[wV,Nat.add_zero,h4 _ (by omega)];simp[bV]
    |succ j=>
     obtain⟨x,p1,p5⟩:=h5 j o' (by simpa using hj) ho';refine⟨x,p1,?_⟩;rw[hc0,ha,aaR rfl,<-aby];exact p5
   ·rename_i hae;exact hskip (by simp[cy,hop,hgu,hae]) h
  ·rename_i hno hno3;refine hskip ?_ h;unfold cy;split
   ·rename_i t h1 h2;exact absurd h2 (hno t h1)
   ·rename_i t q h1 h2;exact absurd h2 (hno3 t q h1)
   ·rfl
theorem Qk{acc:List Nat}{o:Oper}{i:Nat}(h:(mask acc o).testBit i=true):∃e∈o.after.toList,Region.binds .any e=true/\(e.on=i\/(acc.getD e.on 0).testBit i=true):=by
 unfold mask at h;have key:∀(l:List Edge) (s:Nat),(l.foldl (λ s e=>if Region.binds .any e then s ||| 2^e.on ||| acc.getD e.on 0 else s) s).testBit i=true->s.testBit i=true\/∃e∈l,Region.binds .any e=true/\(e.on=i\/(acc.getD e.on 0).testBit i=true):=by
  intro l
  induction l with
  |nil=>intro s h;exact .inl h
  |cons e l ih=>
   intro s h;rw[List.foldl_cons]at h;rcases ih _ h with h|⟨e',h1,h2⟩
   ·split at h
    ·rename_i hb;rw[Nat.testBit_or,Nat.testBit_or,Nat.testBit_two_pow]at h;simp only[Bool.or_eq_true,decide_eq_true_eq]at h;rcases h with(h|h)|h
     ·exact .inl h
     ·exact .inr ⟨e,by simp,hb,.inl h⟩
     ·exact .inr ⟨e,by simp,hb,.inr h⟩
    ·exact .inl h
   ·exact .inr ⟨e',by simp[h1],h2⟩
 rcases key _ _ h with h|h
 ·simp at h
 ·exact h
theorem mf:∀(os:List Oper) (acc:List Nat),(gZ os acc).length=acc.length+os.length
 | [],acc=>by simp[gZ]
 |o::os,acc=>by simp only[gZ,mf os,aaS,aaT,abp];omega
theorem ub:∀(os:List Oper) (acc:List Nat) (j:Nat),j<acc.length->(gZ os acc).getD j 0=acc.getD j 0
 | [],acc,j,_=>rfl
 |o::os,acc,j,h=>by
  simp only[gZ];rw[ub os _ j (by simp;omega)];simp[List.getElem?_append_left h]
theorem Dz:∀(os:List Oper) (acc:List Nat) (j:Nat) (o:Oper),os[j]?=some o->(gZ os acc).getD (acc.length+j) 0=mask ((gZ os acc).take (acc.length+j)) o
 | [],acc,j,o,h=>by simp at h
 |o'::os,acc,0,o,h=>by
  simp at h;subst h;simp only[gZ,Nat.add_zero];rw[ub os _ _ (by simp)];have:(gZ os (acc++[mask acc o'])).take acc.length=acc:=by
   apply List.ext_getElem?;intro j;rcases abn j acc.length with hj|hj
   ·rw[abP hj];have h1:=ub os (acc++[mask acc o']) j (by simp;omega);have h2:j<(gZ os (acc++[mask acc o'])).length:=by rw[mf];simp;omega
    rw[abl h2,abl hj];simp only[abG,abl h2,Option.getD_some,List.getElem?_append_left hj,abl hj]at h1;rw[h1]
   ·rw[abN (by simp;omega),abN hj]
  rw[this];simp
 |o'::os,acc,j+1,o,h=>by
  have:=Dz os (acc++[mask acc o']) j o (by simpa using h);simp only[aaS,aaT,abp]at this;simp only[gZ];rw[show acc.length+(j+1)=acc.length+(0+1)+j by omega];exact this
def nH(ops:List Oper)(L:Nat->Prop):Prop:=∀j o,ops[j]?=some o->L j->∀e∈o.after.toList,Region.binds .any e=true->L e.on
theorem j6{ops:List Oper}{L:Nat->Prop}(hc:nH ops L):∀(j:Nat) (o:Oper),ops[j]?=some o->(∀e∈o.after.toList,Region.binds .any e=true->L e.on)->∀i,((gZ ops []).getD j 0).testBit i=true->L i:=by
 intro j
 induction j using Nat.strongRecOn with
 |_ j ih=>
  intro o ho hd i hi;have hg:=Dz ops [] j o ho;simp only[abp,abv]at hg;rw[hg]at hi;obtain⟨e,he,hb,h⟩:=Qk hi;have hL:=hd e he hb;rcases h with h|h
  ·exact h▸hL
  ·rcases abn e.on j with hlt|hge
   ·have h1:((gZ ops []).take j).getD e.on 0=(gZ ops []).getD e.on 0:=by simp[abP hlt]
    rw[h1]at h
    cases ho':ops[e.on]? with
    |none=>
     have:(gZ ops []).getD e.on 0=0:=by
      rw[abG,abN]
      ·rfl
      ·rw[mf];simp;exact List.getElem?_eq_none_iff.1 ho'
     rw[this]at h;simp at h
    |some o'=>exact ih e.on hlt o' ho' (hc e.on o' ho' hL) i h
   ·have:((gZ ops []).take j).getD e.on 0=0:=by
     rw[abG,abN]
     ·rfl
     ·simp;omega
    rw[this]at h;simp at h
end
end Go.Dn
