/- Worlds that are written: steps, and what they leave alone. -/
import Derived.Test.YtbjllhjbhdjfjaaGreatDoorP1
import Derived.Laws.IdiomStrings
import Derived.Laws.MakeOwn
set_option linter.unusedVariables false
set_option linter.unusedSimpArgs false
set_option linter.unusedSectionVars false
namespace Go.Dn
def putRow(w:World)(b:Nat)(arr:Array Value)(el:TypeId)(fz:Nat×Nat):World:={ w with heap:=w.heap.setIfInBounds b (.cells arr el fz) }
theorem hZ{w:World}{b:Nat}{arr:Array Value}{el:TypeId}{fz:Nat×Nat}(h:b<w.heap.size):(putRow w b arr el fz).heap[b]?=some (.cells arr el fz):=by simp only[putRow,Array.getElem?_setIfInBounds,if_pos h,if_true]
theorem cB{w:World}{b c:Nat}{arr:Array Value}{el:TypeId}{fz:Nat×Nat}(h:c≠b):(putRow w b arr el fz).heap[c]?=w.heap[c]?:=by simp only[putRow,Array.getElem?_setIfInBounds,if_neg (Ne.symm h)]
theorem putRow_putRow{w:World}{b:Nat}{arr arr':Array Value}{el:TypeId}{fz:Nat×Nat}:putRow (putRow w b arr el fz) b arr' el fz=putRow w b arr' el fz:=by simp[putRow,Array.setIfInBounds_setIfInBounds]
theorem nN{w:World}{b:Nat}{o:Obj}(h:w.heap[b]?=some o):b<w.heap.size:=(Array.getElem?_eq_some_iff.1 h).1
theorem pE{w:World}{b o:Nat}{v:Value}{arr:Array Value}{el:TypeId}{fz:Nat×Nat}(h:w.heap[b]?=some (.cells arr el fz)):
  w.setCell ⟨b,o,none⟩ v=putRow w b (arr.setIfInBounds o v) el fz:=by
 unfold World.setCell putRow;congr 1;apply Array.ext_getElem?;intro i;rw[Array.getElem?_modify,Array.getElem?_setIfInBounds];by_cases e:b=i
 ·subst e;rw[h];simp[nN h]
 ·simp[e]
theorem gz{P:Program}{b el:Nat}{fz:Nat×Nat}:∀(vs:List Value) (o i:Nat) (w:World) (arr:Array Value),w.heap[b]?=some (.cells arr el fz)->o+i+vs.length<=arr.size->
  (∀j,j<vs.length->¬(fz.1<=o+i+j/\o+i+j<fz.2))->(∀v∈vs,v.oneCell'=true)->
  ∃arr':Array Value,(storeCells ⟨b,o,none⟩ vs i).run P w = .ok () (putRow w b arr' el fz)/\arr'.toList=lE arr.toList (o+i) vs/\arr'.size=arr.size
 | [],o,i,w,arr,h,_,_,_=>by
  refine⟨arr,?_,by simp[lE],rfl⟩;have:putRow w b arr el fz=w:=by
   unfold putRow;congr 1;apply Array.ext_getElem?;intro j;rw[Array.getElem?_setIfInBounds];split
   ·rename_i e;subst e;rw[h,if_pos (nN h)]
   ·rfl
  rw[this];rfl
 |v::vs,o,i,w,arr,h,hle,hf,h1=>by
  simp only[List.length_cons]at hle;have hc:w.cell? ⟨b,o+i,none⟩=some arr[o+i]:=by simp[World.cell?,h,Array.getElem?_eq_getElem (show o+i<arr.size by omega)]
  have hfr:w.frozen? ⟨b,o+i,none⟩=false:=by have:=hf 0 (by simp);simp only[World.frozen?,h];simpa using this
  have hb:=nN h
  obtain⟨arr',e1,e2,e3⟩:=gz (P:=P) vs o (i+1) (putRow w b (arr.setIfInBounds (o+i) v) el fz) (arr.setIfInBounds (o+i) v) (hZ hb) (by simp;omega)
   (λ j hj=>by have:=hf (j+1) (by simp;omega);rwa[show o+(i+1)+j=o+i+(j+1) by omega]) (λ x hx=>h1 x (by simp[hx]))
  refine⟨arr',?_,?_,by simpa using e3⟩
  ·simp only[storeCells,Sem.run_bind,Addr.add_plain,run_store P w _ v .plain (h1 v (by simp)),hc]
   rw[if_neg (by simp[hfr])];simp only[Result.andThen_ok,pE h,e1,putRow_putRow]
  ·rw[e2,<-Nat.add_assoc,Kd _ _ _ _ (by omega)]
theorem RD.one'{F:Fz}{x:D}{v:Value}(h:RD F x v)(h1:(V.d x).one=true):v.oneCell'=true:=by
 cases x with
 |g cs=>simp[V.one]at h1
 |np=>simp only[RD]at h;subst h;rfl
 |b y=>simp only[RD]at h;subst h;rfl
 |i k y=>simp only[RD]at h;subst h;rfl
 |s y=>simp only[RD]at h;subst h;rfl
 |l fl y=>simp only[RD]at h;obtain⟨_,_,_,_,rfl,_⟩:=h;rfl
theorem RV.one'{G:Sg}{c:V}{v:Value}(h:RV G c v)(h1:c.one=true):v.oneCell'=true:=by
 cases c with
 |d x=>simp only[RV]at h;exact h.one' h1
 |m id off len=>simp only[RV]at h;obtain⟨_,_,rfl,_⟩:=h;rfl
 |p id off=>simp only[RV]at h;obtain⟨_,_,rfl⟩:=h;rfl
 |np=>simp only[RV]at h;subst h;rfl
 |e xs i off=>simp only[RV]at h;obtain⟨_,_,_,rfl,_⟩:=h;rfl
 |mp id=>simp only[RV]at h;obtain⟨_,_,rfl⟩:=h;rfl
 |nmp=>simp only[RV]at h;subst h;rfl
 |f k caps=>simp only[RV]at h;obtain⟨_,rfl,_⟩:=h;rfl
 |nf=>simp only[RV]at h;subst h;rfl
 |t vs=>simp[V.one]at h1
 |ifc ty x=>simp only[RV]at h;obtain⟨_,rfl,_⟩:=h;rfl
 |nifc=>simp only[RV]at h;subst h;rfl
 |it id=>simp only[RV]at h;obtain⟨_,_,rfl⟩:=h;rfl
 |u=>simp[V.one]at h1
theorem RV.cells_one{G:Sg}{c:V}{v:Value}(h:RV G c v)(h1:c.one=true):v.cells=#[v]:=by have:=RV.one' h h1;cases v<;>first|rfl|simp[Value.oneCell']at this
structure Ext (w:World) (G:Sg) (S:List Ob) (w':World) (G':Sg) (S':List Ob):Prop where
 os:w'.os=w.os
 tape:w'.tape=w.tape
 output:w'.output=w.output
 size:w.heap.size<=w'.heap.size
 F:Qd G.F G'.F
 obj:∀b id,G.own b=some (.obj id)->G'.own b=some (.obj id)
 keep:∀b,b<w.heap.size->(G.own b=none\/G.own b=some .ext)->G'.own b=G.own b/\w'.heap[b]?=w.heap[b]?/\∀o,G'.F b o=G.F b o
 newo:∀b id,G'.own b=some (.obj id)->id<S.length->G.own b=some (.obj id)
 ph:∀id,id<S.length->(∀b,G.own b≠some (.obj id))->bT S' id=bT S id
 len:S.length<=S'.length
theorem Ext.le{w:World}{G:Sg}{S:List Ob}{w':World}{G':Sg}{S':List Ob}(h:Ext w G S w' G' S'):Le G G':=⟨h.F,h.obj⟩
theorem Ext.refl(w:World)(G:Sg)(S:List Ob):Ext w G S w G S:=
 ⟨rfl,rfl,rfl,Nat.le_refl _,λ _ _ _ h=>h,λ _ _ h=>h,λ _ _ _=>⟨rfl,rfl,λ _=>rfl⟩,λ _ _ h _=>h,λ _ _ _=>rfl,Nat.le_refl _⟩
theorem Ext.trans{w:World}{G:Sg}{S:List Ob}{w1:World}{G1:Sg}{S1:List Ob}{w2:World}{G2:Sg}{S2:List Ob}(h:Ext w G S w1 G1 S1)(k:Ext w1 G1 S1 w2 G2 S2):Ext w G S w2 G2 S2:={
 os:=k.os.trans h.os
 tape:=k.tape.trans h.tape
 output:=k.output.trans h.output
 size:=Nat.le_trans h.size k.size
 F b o v x:=k.F b o v (h.F b o v x)
 obj b id x:=k.obj b id (h.obj b id x)
 keep b hb ho:=by obtain⟨h1,h2,h3⟩:=h.keep b hb ho;obtain⟨k1,k2,k3⟩:=k.keep b (Nat.lt_of_lt_of_le hb h.size) (by rw[h1];exact ho);exact⟨k1.trans h1,k2.trans h2,λ o=>(k3 o).trans (h3 o)⟩
 newo b id x hid:=h.newo b id (k.newo b id x (Nat.lt_of_lt_of_le hid h.len)) hid
 ph id hid hn:=(k.ph id (Nat.lt_of_lt_of_le hid h.len) λ b x=>hn b (h.newo b id x hid)).trans (h.ph id hid hn)
 len:=Nat.le_trans h.len k.len }
theorem Ext.of_grow{w:World}{G:Sg}{S:List Ob}{w':World}{G':Sg}(h:Grow w G w' G'):Ext w G S w' G' S:={
 os:=h.os
 tape:=h.tape
 output:=h.output
 size:=h.size
 F:=h.F
 obj b id x:=by rw[h.own];exact x
 keep b hb _:=⟨by rw[h.own],h.heap b hb,λ o=>h.old b o hb⟩
 newo b id x _:=by rw[<-h.own];exact x
 ph _ _ _:=rfl
 len:=Nat.le_refl _ }
theorem dw:∀(S:List Ob) (id:Nat) (x:Ob),(oset S id x).length=S.length
 | [],_,_=>rfl
 |o::S,id,x=>by simp only[oset];split<;>simp[dw S id x]
theorem cz:∀{S:List Ob} {id:Nat} {x:Ob},id<S.length->bT (oset S id x) id=some x
 | [],_,_,h=>by simp at h
 |o::S,id,x,h=>by
  simp only[oset];split
  ·rename_i e;simp[bT,e]
  ·rename_i e;simp only[bT,dw];rw[if_neg e];exact cz (by simp at h;omega)
theorem bV:∀{S:List Ob} {id j:Nat} {x:Ob},j≠id->bT (oset S id x) j=bT S j
 | [],_,_,_,_=>rfl
 |o::S,id,j,x,h=>by
  simp only[oset];split
  ·rename_i e;simp only[bT];rw[if_neg (by omega),if_neg (by omega)]
  ·simp only[bT,dw];split
   ·rfl
   ·exact bV h
theorem de{S:List Ob}{o:Ob}{id:Nat}(h:id<S.length):bT (o::S) id=bT S id:=by simp only[bT];rw[if_neg (by omega)]
theorem ov:∀{S:List Ob} {id:Nat},id<S.length->∃o,bT S id=some o
 | [],_,h=>by simp at h
 |o::S,id,h=>by
  simp only[bT];split
  ·exact⟨o,rfl⟩
  ·exact ov (by simp at h;omega)
section
variable {P : Program} {w : World} {G : Sg} {S : List Ob}
theorem Inv.phantom(hI:Inv w G S)(o:Ob)(hr:∀cs fl,o = .cells cs fl->bG (S.length+1) cs=true):Inv w G (o::S):={
 fz:=hI.fz
 ob b id ho:=by obtain⟨h1,o',go,h2,h3,h4⟩:=hI.ob b id ho;exact⟨h1,o',go,by rw[de (du h2)];exact h2,h3,h4⟩
 inj:=hI.inj
 tk:=hI.tk
 cl b id o ho:=by have:=hI.cl b id o ho;simp;omega
 rf id cs fl h:=by
  simp only[bT]at h;split at h
  ·rename_i e;simp at h;rw[e];exact hr cs fl h
  ·exact hI.rf id cs fl h
 tb:=hI.tb }
theorem Ext.phantom(o:Ob):Ext w G S w G (o::S):=
 ⟨rfl,rfl,rfl,Nat.le_refl _,λ _ _ _ h=>h,λ _ _ h=>h,λ _ _ _=>⟨rfl,rfl,λ _=>rfl⟩,λ _ _ h _=>h,λ id hid _=>de hid,by simp⟩
def eh(w:World)(go:Obj):World:={ w with heap:=w.heap.push go }
def cY(w:World)(G:Sg)(ℓ:Loc):Sg:={ G with own:=λ b=>if b=w.heap.size then some ℓ else G.own b }
theorem dQ{go:Obj}{b:Nat}(h:b<w.heap.size):(eh w go).heap[b]?=w.heap[b]?:=by simp only[eh];rw[Array.getElem?_push,if_neg (by omega)]
theorem Bp{go:Obj}:(eh w go).heap[w.heap.size]?=some go:=by simp only[eh,Array.getElem?_push_size]
theorem mN(hI:Inv w G S)(ℓ:Loc):Le G (cY w G ℓ):=⟨λ _ _ _ h=>h,λ b id h=>by
 simp only[cY];rw[if_neg]
 ·exact h
 ·have:=hI.tk _ _ h;omega⟩
theorem qE{b:Nat}{ℓ ℓ':Loc}(hI:Inv w G S)(h:G.own b=some ℓ'):(cY w G ℓ).own b=some ℓ':=by
 simp only[cY];rw[if_neg]
 ·exact h
 ·have:=hI.tk _ _ h;omega
theorem fI.push(hI:Inv w G S){go:Obj}{ℓ ℓ':Loc}{sz:Nat}{v:Value}(h:fI w G ℓ' sz v):fI (eh w go) (cY w G ℓ) ℓ' sz v:=
 h.same λ blk ho=>⟨qE hI ho,dQ (hI.tk _ _ ho),λ _=>rfl⟩
theorem Inv.push_obj(hI:Inv w G S){go:Obj}{id:Nat}{o:Ob}(hn:∀b,G.own b≠some (.obj id))(ho:bT S id=some o)(hor:gI (eh w go) (cY w G (.obj id)) id o go):
  Inv (eh w go) (cY w G (.obj id)) S:={
 fz b o v h:=by rw[cell?_of_heap (dQ (hI.F_lt h))];exact hI.fz b o v h
 ob b id' h:=by
  by_cases e:b=w.heap.size
  ·subst e;have:id'=id:=by simp only[cY,if_true]at h;injection h with h;injection h with h;exact h.symm
   subst this;refine⟨λ x=>?_,o,go,ho,Bp,hor⟩
   cases hx:G.F w.heap.size x with
   |none=>exact hx
   |some y=>have:=hI.F_lt hx;omega
  ·simp only[cY,if_neg e]at h;obtain⟨h1,o',go',h2,h3,h4⟩:=hI.ob b id' h;exact⟨h1,o',go',h2,by rw[dQ (hI.tk _ _ h)];exact h3,h4.same (mN hI _) λ off blk hk=>⟨qE hI hk,dQ (hI.tk _ _ hk),λ _=>rfl⟩⟩
 inj b b' id' h h':=by
  by_cases e:b=w.heap.size
  ·by_cases e':b'=w.heap.size
   ·rw[e,e']
   ·simp only[cY,if_neg e']at h';simp only[cY,if_pos e]at h;injection h with h;injection h with h;subst h
    exact absurd h' (hn b')
  ·simp only[cY,if_neg e]at h;by_cases e':b'=w.heap.size
   ·simp only[cY,if_pos e']at h';injection h' with h';injection h' with h';subst h'
    exact absurd h (hn b)
   ·simp only[cY,if_neg e']at h';exact hI.inj b b' id' h h'
 tb:=hI.tb_of λ b hb ho=>⟨dQ hb,by simp only[cY];rw[if_neg (by omega)];exact ho⟩
 tk b ℓ h:=by
  have:(eh w go).heap.size=w.heap.size+1:=by simp[eh]
  by_cases e:b=w.heap.size
  ·omega
  ·simp only[cY,if_neg e]at h;have:=hI.tk b ℓ h;omega
 cl b id' o' h:=by
  by_cases e:b=w.heap.size
  ·simp only[cY,if_pos e]at h;injection h with h;cases h
  ·simp only[cY,if_neg e]at h;exact hI.cl b id' o' h
 rf:=hI.rf }
theorem Ext.push_obj(hI:Inv w G S){go:Obj}{id n0:Nat}(hid:n0<=id)(S0:List Ob)(hS:S0.length=n0)(hsame:∀id,id<n0->bT S id=bT S0 id)(hlen:n0<=S.length):Ext w G S0 (eh w go) (cY w G (.obj id)) S:={
 os:=rfl
 tape:=rfl
 output:=rfl
 size:=by simp[eh]
 F _ _ _ h:=h
 obj:=(mN hI _).obj
 keep b hb _:=⟨by simp only[cY];rw[if_neg (by omega)],dQ hb,λ _=>rfl⟩
 newo b id' h hlt:=by
  by_cases e:b=w.heap.size
  ·simp only[cY,if_pos e]at h;injection h with h;injection h with h;omega
  ·simp only[cY,if_neg e]at h;exact h
 ph id' h _:=hsame id' (by omega)
 len:=by omega }
theorem JI(hI:Inv w G S){go:Obj}{o:Ob}(hr:∀cs fl,o = .cells cs fl->bG (S.length+1) cs=true)(hor:gI (eh w go) (cY w G (.obj S.length)) S.length o go):
  Inv (eh w go) (cY w G (.obj S.length)) (o::S)/\Ext w G S (eh w go) (cY w G (.obj S.length)) (o::S):=by
 have hn:∀b,G.own b≠some (.obj S.length):=λ b h=>by
  obtain⟨_,o',_,h2,_⟩:=hI.ob b _ h;have:=du h2;omega
 refine⟨(hI.phantom o hr).push_obj hn (by simp[bT]) hor,?_⟩;refine Ext.push_obj (S:=o::S) (hI.phantom o hr) (Nat.le_refl _) S rfl (λ id h=>de h) (by simp)
theorem Inv.write(hI:Inv w G S){b id:Nat}{el:TypeId}{arr arr':Array Value}{fz:Nat×Nat}{cs cs':List V}{fl fl':List (Nat×Nat)}{own':Nat->Option Loc}(ho:G.own b=some (.obj id))(hob:bT S id=some (.cells cs fl))
  (hgo:w.heap[b]?=some (.cells arr el fz)) (hown:∀b ℓ,G.own b=some ℓ->(∀q,ℓ ≠ .slot q)->(∀q,ℓ ≠ .cell id q)->own' b=some ℓ) (hown':∀b ℓ,own' b=some ℓ->(∃q,ℓ = .slot q/\∃ℓ',G.own b=some ℓ')\/(∃q,ℓ = .cell id q/\∃ℓ',G.own b=some ℓ')\/G.own b=some ℓ)
  (hrf:bG (id+1) cs'=true) (hor:gI (putRow w b arr' el fz) ⟨G.F,own'⟩ id (.cells cs' fl') (.cells arr' el fz)):
  Inv (putRow w b arr' el fz) ⟨G.F,own'⟩ (oset S id (.cells cs' fl')):=by
 have hle:Le G ⟨G.F,own'⟩:=⟨λ _ _ _ h=>h,λ b id h=>hown b _ h (by simp) (by simp)⟩
 have hFb:∀o,G.F b o=none:=(hI.ob b id ho).1;have hobj:∀b' id',own' b'=some (.obj id')->G.own b'=some (.obj id'):=by
  intro b' id' h;rcases hown' b' _ h with⟨q,e,_⟩|⟨q,e,_⟩|h
  ·cases e
  ·cases e
  ·exact h
 refine⟨λ c o v h=>?_,λ b' id' h=>?_,λ b1 b2 id' h1 h2=>hI.inj b1 b2 id' (hobj _ _ h1) (hobj _ _ h2),λ b' ℓ h=>?_,λ b' id' o h=>?_,λ id' cs1 fl1 h=>?_,hI.tb_of λ c hc h0=>⟨cB λ e=>(by subst e;rw[ho]at h0;cases h0),?_⟩⟩
 ·have hne:c≠b:=by intro e;subst e;rw[hFb]at h;simp at h
  rw[cell?_of_heap (cB hne)];exact hI.fz c o v h
 ·have h:=hobj _ _ h;by_cases e:b'=b
  ·subst e;have:id'=id:=by rw[ho]at h;injection h with h;injection h with h;exact h.symm
   subst this;exact⟨hFb,_,_,cz (du hob),hZ (nN hgo),hor⟩
  ·have hid:id'≠id:=λ e'=>e (hI.inj _ _ _ (e'▸h) ho);obtain⟨h1,o',go,h2,h3,h4⟩:=hI.ob b' id' h;refine⟨h1,o',go,by rw[bV hid];exact h2,by rw[cB e];exact h3,h4.same hle λ off blk hk=>⟨hown _ _ hk (by simp) (by simp;intro e1;exact absurd e1 hid),?_,λ _=>rfl⟩⟩;refine cB λ e1=>?_;subst e1;rw[ho]at hk;injection hk with hk;cases hk
 ·have hsz:(putRow w b arr' el fz).heap.size=w.heap.size:=by simp[putRow]
  rw[hsz];rcases hown' b' _ h with⟨q,e,ℓ',h'⟩|⟨q,e,ℓ',h'⟩|h'<;>exact hI.tk _ _ h'
 ·rw[dw];rcases hown' b' _ h with⟨q,e,_⟩|⟨q,e,ℓ',h'⟩|h'
  ·cases e
  ·injection e with e1 e2;subst e1;exact du hob
  ·exact hI.cl _ _ _ h'
 ·by_cases e:id'=id
  ·subst e;rw[cz (du hob)]at h;simp at h;rw[<-h.1];exact hrf
  ·rw[bV e]at h;exact hI.rf _ _ _ h
 ·show own' c=none
  cases hc':own' c with
  |none=>rfl
  |some ℓ=>rcases hown' c ℓ hc' with⟨_,_,ℓ',h'⟩|⟨_,_,ℓ',h'⟩|h'<;>rw[h0]at h'<;>cases h'
theorem Ext.write(hI:Inv w G S){b id:Nat}{el:TypeId}{arr arr':Array Value}{fz:Nat×Nat}{o':Ob}{own':Nat->Option Loc}(ho:G.own b=some (.obj id))
  (hgo:w.heap[b]?=some (.cells arr el fz)) (hown:∀b ℓ,G.own b=some ℓ->(∀q,ℓ ≠ .slot q)->(∀q,ℓ ≠ .cell id q)->own' b=some ℓ) (hnone:∀b,G.own b=none->own' b=none) (hobj:∀b id,own' b=some (.obj id)->G.own b=some (.obj id)):
  Ext w G S (putRow w b arr' el fz) ⟨G.F,own'⟩ (oset S id o'):={
 os:=rfl
 tape:=rfl
 output:=rfl
 size:=by simp[putRow]
 F _ _ _ h:=h
 obj b id h:=hown b _ h (by simp) (by simp)
 keep c hc h:=by
  have hne:c≠b:=by intro e;subst e;rcases h with h|h<;>rw[ho]at h<;>simp at h
  refine⟨?_,cB hne,λ _=>rfl⟩;rcases h with h|h
  ·rw[h];exact hnone c h
  ·rw[h];exact hown c _ h (by simp) (by simp)
 newo b id h _:=hobj b id h
 ph id' h hn:=by have:id'≠id:=λ e=>hn b (e▸ho);exact bV this
 len:=by rw[dw];exact Nat.le_refl _ }
end
section
variable {P : Program} {w : World} {G : Sg} {S : List Ob}
structure St1 (w:World) (G:Sg) (S:List Ob) (w':World) (G':Sg) (S':List Ob) (q:Option Nat) (SP:Nat->Nat->Prop):Prop where
 inv:Inv w' G' S'
 ext:Ext w G S w' G' S'
 tok:∀q' sz v,some q'≠q->fI w G (.slot q') sz v->fI w' G' (.slot q') sz v
 sp:∀id off,SP id off->∀b,G.own b=some (.obj id)->w'.cell? ⟨b,off,none⟩=w.cell? ⟨b,off,none⟩
theorem da{b:Nat}:∀{cs:List V},bG b cs=true↔∀c∈cs,bP b c=true
 | []=>by simp[bG]
 |c::cs=>by simp[bG,da (cs:=cs)]
mutual
theorem lU{a b:Nat}(h:a<=b):∀v:V,bP a v=true->bP b v=true
 | .d _,_=>by simp[bP]
 | .m id _ _,e=>by simp[bP]at e⊢;omega
 | .p id _,e=>by simp[bP]at e⊢;omega
 | .np,_=>by simp[bP]
 | .e _ _ _,_=>by simp[bP]
 | .mp id,e=>by simp[bP]at e⊢;omega
 | .nmp,_=>by simp[bP]
 | .f _ caps,e=>by simp only[bP]at e⊢;exact dh h caps e
 | .nf,_=>by simp[bP]
 | .t vs,e=>by simp only[bP]at e⊢;exact dh h vs e
 | .ifc _ x,e=>by simp only[bP]at e⊢;exact lU h x e
 | .nifc,_=>by simp[bP]
 | .it id,e=>by simp[bP]at e⊢;omega
 | .u,_=>by simp[bP]
theorem dh{a b:Nat}(h:a<=b):∀vs:List V,bG a vs=true->bG b vs=true
 | [],_=>by simp[bG]
 |v::vs,e=>by
  simp only[bG,Bool.and_eq_true]at e⊢;exact⟨lU h v e.1,dh h vs e.2⟩
end
theorem jA(b:Nat)(ds:List D):bG b (ds.map .d)=true:=by rw[da];intro c hc;obtain⟨d,_,rfl⟩:=List.mem_map.1 hc;rfl
theorem tL{G:Sg}{w:World}{id el:Nat}{cs:List V}{fl:Fl}{arr:Array Value}{n:Nat}(hr:dJ G cs (arr.toList.take cs.length))(hone:cs.all V.one=true)(hle:cs.length<=arr.size){t:Option Nat}(hfl:lO t cs fl=true)(hel:∀x,t=some x->el=x)(hn:cs.length<=n):
  gI w G id (.cells cs fl) (.cells arr el (n,n+1))/\gI w G id (.cells cs fl) (.cells arr el (0,0)):=by
 have key:∀(o:Nat) c,cs[o]?=some c->∃v,arr[o]?=some v/\RV G c v/\c.one=true/\o<cs.length:=by intro o c hc;obtain⟨v,hv,hrv⟩:=dJ.get hr hc;have hlt:=(List.getElem?_eq_some_iff.1 hc).1;rw[List.getElem?_take_of_lt hlt]at hv;exact⟨v,by simpa using hv,hrv,List.all_eq_true.1 hone c (List.mem_of_getElem? hc),hlt⟩
 have kfl:∀o sz,(o,sz)∈fl->mr w G id arr el o sz:=by
  intro o sz hm;have h1:=List.all_eq_true.1 hfl _ hm;simp only at h1;unfold mr;split at h1
  ·rename_i e;rw[if_pos e];exact hel _ (by simpa using h1)
  rename_i hne;rw[if_neg hne];split at h1
  ·rename_i xs hc;obtain⟨v,hv,hrv,_,_⟩:=key _ _ hc;simp only[RV,RD]at hrv;obtain⟨a,n,c,sz',rfl,rfl,_,hfull,_⟩:=hrv;refine⟨_,hv,.inl ⟨a,xs.length,by rw[hfull trivial],λ hk=>?_⟩⟩;rw[Bool.or_eq_true,decide_eq_true_eq]at h1;rcases h1 with h1|h1
   ·omega
   ·rw[List.isEmpty_iff]at h1;rw[h1];rfl
  ·simp at h1
 constructor
 ·simp only[gI];exact⟨hle,λ o c hc=>by obtain⟨v,h1,h2,h3,h4⟩:=key o c hc;exact⟨v,h1,h2,by omega,h3⟩,kfl⟩
 ·simp only[gI];exact⟨hle,λ o c hc=>by obtain⟨v,h1,h2,h3,h4⟩:=key o c hc;exact⟨v,h1,h2,by omega,h3⟩,kfl⟩
theorem mH(hI:Inv w G S){el:Nat}{cs:List V}{fl:Fl}{arr:Array Value}{SP:Nat->Nat->Prop}(hr:dJ G cs (arr.toList.take cs.length))(hone:cs.all V.one=true)(hle:cs.length<=arr.size){t:Option Nat}(hfl:lO t cs fl=true)(hel:∀x,t=some x->el=x)(hrf:bG (S.length+1) cs=true)(fz:Nat×Nat)(hfz:fz=(0,0)\/fz=(arr.size,arr.size+1)):
  St1 w G S (eh w (.cells arr el fz)) (cY w G (.obj S.length)) (.cells cs fl::S) none SP/\(cY w G (.obj S.length)).own w.heap.size=some (.obj S.length):=by
 have hle':=mN hI (.obj S.length);have hor:=tL (w:=eh w (.cells arr el fz)) (G:=cY w G (.obj S.length)) (id:=S.length) (el:=el) (dJ.mono hle' _ _ hr) hone hle hfl hel hle;obtain⟨h1,h2⟩:=JI hI (go := .cells arr el fz) (o := .cells cs fl) (λ cs' fl' e=>by injection e with e1 e2;subst e1;exact hrf) (by rcases hfz with rfl|rfl;exact hor.2;exact hor.1);refine⟨⟨h1,h2,λ q' sz v _ h=>h.push hI,λ id off _ b hb=>cell?_of_heap (dQ (hI.tk _ _ hb)) off⟩,by simp[cY]⟩
theorem S3(hI:Inv w G S){t:TypeId}{fl:Fl}{sz:Nat}{v:V}{va:Value}{r:Out}{SP:Nat->Nat->Prop}(hv:RV G v va)(h:ou S t fl sz v=some r):
  ∃x w' G',(Instr.box t va).run P w = .ok x w'/\RV G' r.1 x/\St1 w G S w' G' r.2 none SP:=by
 have key:∀cs:List V,kl S t fl cs=some r->dJ G cs va.cells.toList->∃x w' G',(Instr.box t va).run P w = .ok x w'/\RV G' r.1 x/\St1 w G S w' G' r.2 none SP:=by
  intro cs h hr;unfold kl at h;split at h
  ·rename_i hc;simp at h;subst h;have hl:=dJ.length hr;obtain⟨h1,h2⟩:=mH hI (el:=t) (cs:=cs) (fl:=fl) (arr:=va.cells) (SP:=SP) (by rw[List.take_of_length_le (by omega)];exact hr) hc.2.1 (by rw[<-Array.length_toList];omega) hc.1 (λ x e=>Option.some.inj e) (dh (by omega) _ hc.2.2) (0,0) (.inl rfl);exact⟨_,_,_,rfl,by simp only[RV];exact⟨_,h2,rfl⟩,h1⟩
  ·simp at h
 unfold ou at h;split at h
 ·rename_i ds;split at h
  ·refine key _ h ?_;rw[rX];simp only[RV,RD]at hv;obtain⟨vs,rfl,hr⟩:=hv;exact hr
  ·simp at h
 ·split at h
  ·rename_i hne hsz;have h0:=h;unfold kl at h0;split at h0
   ·rename_i hc;have hone:v.one=true:=by simpa using hc.2.1
    refine key _ h ?_;rw[RV.cells_one hv hone,wT];exact⟨hv,by simp only[dJ]⟩
   ·simp at h0
  ·simp at h
theorem M3(hI:Inv w G S){t:TypeId}{z:List V}{fl:Fl}{id n0:Nat}{SP:Nat->Nat->Prop}(hz:fS P t=some z)(hone:z.all V.one=true)(hfl:lO (some t) z fl=true)(hn:∀b,G.own b≠some (.obj id))(ho:bT S id=some (.cells z fl)):
  ∃x w',(Instr.alloc t true (.tuple #[])).run P w = .ok x w'/\RV (cY w G (.obj id)) (.p id 0) x/\Inv w' (cY w G (.obj id)) S/\(∃go,w'=eh w go):=by
 obtain⟨v,hv,hr,_⟩:=yS (P:=P) (w:=w) (G:=G) hz;have hl:=dJ.length hr;have hle':=mN hI (.obj id);have hor:=(tL (w:=eh w (.cells v.cells t (0,0))) (G:=cY w G (.obj id)) (id:=id) (el:=t) (cs:=z) (fl:=fl) (arr:=v.cells) (n:=z.length) (dJ.mono hle' _ _ (by rw[List.take_of_length_le (by omega)];exact hr)) hone (by rw[<-Array.length_toList];omega) hfl (λ x e=>Option.some.inj e) (Nat.le_refl _)).2;refine⟨.pointer (some ⟨w.heap.size,0,none⟩),eh w (.cells v.cells t (0,0)),?_,?_,hI.push_obj hn ho hor,⟨_,rfl⟩⟩
 ·simp only[Instr.alloc,Sem.run_bind,hv,Result.andThen_ok];rfl
 ·simp only[RV];exact⟨_,by simp[cY],rfl⟩
def mw(sz:Nat):V->Option (List V)
 | .d (.g ds)=>if ds.length=sz then some (ds.map .d)else none
 |v=>if sz=1 then some [v]else none
theorem OH{t:Nat}{fl:Fl}{sz:Nat}{v:V}:ou S t fl sz v=(mw sz v).bind (kl S t fl):=by
 unfold ou;split
 ·rename_i ds;show _=(if ds.length=sz then some (ds.map V.d)else none).bind (kl S t fl);split<;>rfl
 ·rename_i h;have:mw sz v=if sz=1 then some [v]else none:=by
   unfold mw;split
   ·rename_i ds;exact absurd rfl (h ds)
   ·rfl
  rw[this];split<;>rfl
theorem Qw(hI:Inv w G S){t:TypeId}{sz:Nat}{v:V}{va:Value}{cs:List V}{fl:Fl}{id:Nat}(hv:RV G v va)(hb:mw sz v=some cs)(hone:cs.all V.one=true)(hfl:lO (some t) cs fl=true)(hn:∀b,G.own b≠some (.obj id))(ho:bT S id=some (.cells cs fl)):
  ∃x w',(Instr.box t va).run P w = .ok x w'/\RV (cY w G (.obj id)) (.p id 0) x/\Inv w' (cY w G (.obj id)) S/\(∃go,w'=eh w go):=by
 have hr:dJ G cs va.cells.toList:=by
  unfold mw at hb;split at hb
  ·split at hb
   ·injection hb with hb;subst hb
    rw[rX];simp only[RV,RD]at hv;obtain⟨vs,rfl,hr⟩:=hv;exact hr
   ·cases hb
  ·split at hb
   ·injection hb with hb;subst hb
    rw[RV.cells_one hv (by simpa using hone),wT];exact⟨hv,by simp only[dJ]⟩
   ·cases hb
 have hl:=dJ.length hr;have hle':=mN hI (.obj id);have hor:=(tL (w:=eh w (.cells va.cells t (0,0))) (G:=cY w G (.obj id)) (id:=id) (el:=t) (cs:=cs) (fl:=fl) (arr:=va.cells) (n:=cs.length) (dJ.mono hle' _ _ (by rw[List.take_of_length_le (by omega)];exact hr)) hone (by rw[<-Array.length_toList];omega) hfl (λ x e=>Option.some.inj e) (Nat.le_refl _)).2;refine⟨.pointer (some ⟨w.heap.size,0,none⟩),eh w (.cells va.cells t (0,0)),?_,?_,hI.push_obj hn ho hor,⟨_,rfl⟩⟩
 ·rfl
 ·simp only[RV];exact⟨_,by simp[cY],rfl⟩
theorem EW{cs xs:List V}{off:Nat}(h:off+xs.length<=cs.length){o:Nat}{c:V}(hc:(zH cs off xs)[o]?=some c):
  (off<=o/\o<off+xs.length/\xs[o-off]?=some c)\/(¬(off<=o/\o<off+xs.length)/\cs[o]?=some c):=by
 unfold zH at hc;have hl:(cs.take off).length=off:=by simp;omega
 rcases Nat.lt_or_ge o off with h1|h1
 ·right;rw[List.append_assoc,List.getElem?_append_left (by omega),List.getElem?_take_of_lt h1]at hc;exact⟨by omega,hc⟩
 ·rcases Nat.lt_or_ge o (off+xs.length)with h2|h2
  ·left;rw[List.getElem?_append_left (by simp;omega),List.getElem?_append_right (by omega),hl]at hc;exact⟨h1,h2,hc⟩
  ·right;rw[List.getElem?_append_right (by simp;omega),List.getElem?_drop]at hc;refine⟨by omega,?_⟩;rw[<-hc];congr 1;simp;omega
theorem td{vs l:List Value}{off:Nat}(h:off+l.length<=vs.length)(o:Nat):
  (lE vs off l)[o]?=if off<=o/\o<off+l.length then l[o-off]? else vs[o]?:=by
 unfold lE;have hl:(vs.take off).length=off:=by simp;omega
 rcases Nat.lt_or_ge o off with h1|h1
 ·rw[if_neg (by omega),List.append_assoc,List.getElem?_append_left (by omega),List.getElem?_take_of_lt h1]
 ·rcases Nat.lt_or_ge o (off+l.length)with h2|h2
  ·rw[if_pos ⟨h1,h2⟩,List.getElem?_append_left (by simp;omega),List.getElem?_append_right (by omega),hl]
  ·rw[if_neg (by omega),List.getElem?_append_right (by simp;omega),List.getElem?_drop]
   congr 1;simp;omega
end
section
variable {P : Program} {w : World} {G : Sg} {S : List Ob}
theorem fj{fl:Fl}{t o z:Nat}:(o,z)∈et fl t↔(o,z)∈fl/\o≠t:=by simp[et]
def lf(own:Nat->Option Loc)(a c:Loc):Nat->Option Loc:=λ b=>if own b=some a then some c else own b
def qD(tk q:Option Nat)(own:Nat->Option Loc)(ℓ:Loc):Nat->Option Loc:=
 match tk,q with
 |some _,some y=>lf own (.slot y) ℓ
 |_,_=>own
theorem fL{own:Nat->Option Loc}{a c ℓ:Loc}{b:Nat}(h:own b=some ℓ)(hne:ℓ≠a):lf own a c b=some ℓ:=by
 simp only[lf];rw[if_neg]
 ·exact h
 ·rw[h];intro e;injection e with e;exact hne e
theorem jd{own:Nat->Option Loc}{a c ℓ:Loc}{b:Nat}(h:lf own a c b=some ℓ):(ℓ=c/\own b=some a)\/own b=some ℓ:=by
 simp only[lf]at h;split at h
 ·rename_i e;injection h with h;exact .inl ⟨h.symm,e⟩
 ·exact .inr h
theorem nW{own:Nat->Option Loc}{a c:Loc}{b:Nat}(h:own b=none):lf own a c b=none:=by simp[lf,h]
theorem rJ{own:Nat->Option Loc}{a c:Loc}{b:Nat}(h:own b=some a):lf own a c b=some c:=by simp[lf,h]
theorem HY{tk q:Option Nat}{own:Nat->Option Loc}{ℓ ℓ0:Loc}{c:Nat}(h:own c=some ℓ0)(hne:∀y,ℓ0 ≠ .slot y):qD tk q own ℓ c=some ℓ0:=by
 unfold qD;split
 ·exact fL h (hne _)
 ·exact h
theorem Be{tk q:Option Nat}{own:Nat->Option Loc}{ℓ ℓ0:Loc}{c:Nat}(h:qD tk q own ℓ c=some ℓ0):(ℓ0=ℓ/\∃ℓ',own c=some ℓ')\/own c=some ℓ0:=by
 unfold qD at h;split at h
 ·rcases jd h with⟨e,h⟩|h
  ·exact .inl ⟨e,_,h⟩
  ·exact .inr h
 ·exact .inr h
theorem H2{tk q:Option Nat}{own:Nat->Option Loc}{ℓ:Loc}{c y:Nat}(hq:some y≠q)(h:own c=some (.slot y)):qD tk q own ℓ c=some (.slot y):=by
 unfold qD;split
 ·exact fL h (by intro e;injection e with e;subst e;exact hq rfl)
 ·exact h
theorem H0{tk q:Option Nat}{own:Nat->Option Loc}{ℓ:Loc}{c:Nat}(h:own c=none):qD tk q own ℓ c=none:=by
 unfold qD;split
 ·exact nW h
 ·exact h
theorem HZ{tk q:Option Nat}{own:Nat->Option Loc}{ℓ:Loc}{c y z:Nat}(htk:tk=some z)(hq:q=some y)(h:own c=some (.slot y)):qD tk q own ℓ c=some ℓ:=by subst htk;subst hq;exact rJ h
theorem E3{x y:Nat×Nat}:∀{fl:Fl},y∈N4 x fl->y=x\/y∈fl
 | [],h=>by simp only[N4,List.mem_singleton]at h;exact .inl h
 |z::r,h=>by
  simp only[N4]at h;split at h
  ·exact List.mem_cons.1 h
  ·rcases List.mem_cons.1 h with h|h
   ·exact .inr (by simp[h])
   ·rcases E3 h with h|h
    ·exact .inl h
    ·exact .inr (by simp[h])
theorem Ga(hI:Inv w G S){t n:Nat}{agg:Bool}{fl:Fl}{tk:Option Nat}{a v:V}{va vx:Value}{S':List Ob}{q:Option Nat}(hsz:bZ P t=some n)(ha:RV G a va)(hv:RV G v vx)
  (htk:∀z,tk=some z->∃y,q=some y/\fI w G (.slot y) z vx) (h:j7 S agg n fl tk a v=some S'):
  ∃w' G',(Instr.storeAt t va vx).run P w = .ok () w'/\St1 w G S w' G' S' q (λ id off=>∀id' off',a = .p id' off'->id≠id'\/off<off'\/off'+n<=off):=by
 unfold j7 at h;split at h;rotate_left
 ·simp at h
 rename_i id off;split at h;rotate_left
 ·simp at h
 rename_i cs fl0 hob;simp only[RV]at ha;obtain⟨b,ho,rfl⟩:=ha;obtain⟨hFb,o',go,hs',hgo,hor⟩:=hI.ob _ _ ho;rw[hob]at hs';simp at hs';subst hs'
 cases go with
 |cells arr el fz=>
  have hor':=hor;simp only[gI]at hor';obtain⟨hlen,hcells,hflags⟩:=hor';have hbsz:=nN hgo;have hrf:=hI.rf _ _ _ hob;have tokne:∀blk ℓ,G.own blk=some ℓ->(∀i,ℓ ≠ .obj i)->blk≠b:=by intro blk ℓ h1 h2 e;subst e;rw[ho]at h1;injection h1 with h1;exact h2 _ h1.symm
  split at h
  ·-- a struct
   rename_i hagg;split at h;rotate_left
   ·simp at h
   rename_i ds;split at h;rotate_left
   ·simp at h
   rename_i hc;obtain⟨h1,h2,h3,h4⟩:=hc;injection h with h;subst h
   simp only[RV,RD]at hv;obtain⟨vs,rfl,hr⟩:=hv;have hvl:vs.toList.length=n:=by rw[dI.length hr,h1]
   have hnf:∀j,j<vs.toList.length->¬(fz.1<=off+0+j/\off+0+j<fz.2):=by intro j hj;obtain⟨_,_,_,hf,_⟩:=hcells (off+j) _ (List.getElem?_eq_getElem (show off+j<cs.length by omega));simpa using hf
   have hone:∀x∈vs.toList,x.oneCell'=true:=by intro x hx;obtain⟨j,hj⟩:=List.mem_iff_getElem?.1 hx;have hjl:=(List.getElem?_eq_some_iff.1 hj).1;obtain⟨y,hy,hry⟩:=dI.get hr (List.getElem?_eq_getElem (show j<ds.length by omega));rw[hj]at hy;simp at hy;subst hy;exact hry.one' (List.all_eq_true.1 h4 _ (List.mem_map.2 ⟨_,List.getElem_mem _,rfl⟩))
   obtain⟨arr',e1,e2,e3⟩:=gz (P:=P) (el:=el) vs.toList off 0 w arr hgo (by omega) hnf hone;simp only[Nat.add_zero]at e2;have hget:∀o:Nat,arr'[o]?=if off<=o/\o<off+n then vs.toList[o-off]? else arr[o]?:=by intro o;have:=td (vs:=arr.toList) (l:=vs.toList) (off:=off) (by rw[hvl,Array.length_toList];omega) o;rw[<-e2,hvl]at this;simpa using this
   have hrf':bG (id+1) (zH cs off (ds.map .d))=true:=by
    rw[da]at hrf⊢;intro c hc;obtain⟨j,hj⟩:=List.mem_iff_getElem?.1 hc;rcases EW (by simp;omega) hj with⟨_,_,h⟩|⟨_,h⟩
    ·simp at h;obtain⟨d,_,rfl⟩:=h;rfl
    ·exact hrf c (List.mem_of_getElem? h)
   have hkeep:∀blk ℓ,G.own blk=some ℓ->(∀i,ℓ ≠ .obj i)->(putRow w b arr' el fz).heap[blk]?=w.heap[blk]?:=λ blk ℓ h1 h2=>cB (tokne _ _ h1 h2);have hor2:gI (putRow w b arr' el fz) ⟨G.F,G.own⟩ id (.cells (zH cs off (ds.map .d)) (fl0.filter (λ x=>!(off<=x.1&&x.1<off+n))++fl.map (λ x=>(off+x.1,x.2)))) (.cells arr' el fz):=by
    simp only[gI];have hll:(zH cs off (ds.map V.d)).length=cs.length:=by simp[zH];omega
    refine⟨by omega,λ o c hc=>?_,λ o z hm=>?_⟩
    ·rcases EW (by simp;omega) hc with⟨p1,p2,h⟩|⟨p,h⟩
     ·have p2':o<off+n:=by simpa[h1]using p2
      simp at h;obtain⟨d,hd,rfl⟩:=h;obtain⟨y,hy,hry⟩:=dI.get hr hd;obtain⟨_,_,_,hf,_⟩:=hcells o _ (List.getElem?_eq_getElem (show o<cs.length by omega));exact⟨y,by rw[hget,if_pos ⟨p1,p2'⟩];exact hy,by simpa only[RV]using hry,hf,List.all_eq_true.1 h4 _ (List.mem_map.2 ⟨d,List.mem_of_getElem? hd,rfl⟩)⟩
     ·obtain⟨y,hy,hry,hf,ho1⟩:=hcells o c h;exact⟨y,by rw[hget,if_neg (by simpa[h1]using p)];exact hy,hry,hf,ho1⟩
    ·rcases List.mem_append.1 hm with hm|hm
     ·simp at hm;obtain⟨hm,hno⟩:=hm;refine(hflags o z hm).map λ y hy ht=>?_;refine⟨y,by rw[hget,if_neg (by omega)];exact hy,ht.same λ blk hb=>⟨hb,hkeep _ _ hb (by simp),λ _=>rfl⟩⟩
     ·simp at hm;obtain⟨o1,hm2,rfl⟩:=hm;have:=List.all_eq_true.1 h3 _ hm2;simp only at this;split at this
      ·simp at this
      rename_i hne;unfold mr;rw[if_neg hne];split at this
      ·rename_i xs hc;rw[List.getElem?_map]at hc;obtain⟨d,hd,hde⟩:=Option.map_eq_some_iff.1 hc;injection hde with hde
       subst hde;obtain⟨y,hy,hry⟩:=dI.get hr hd;have hlt:=(List.getElem?_eq_some_iff.1 hd).1;simp only[RD]at hry;obtain⟨A,m,c,sz',rfl,rfl,_,hfull,_⟩:=hry;exact⟨_,by rw[hget,if_pos ⟨by omega,by omega⟩,show off+o1-off=o1 by omega];exact hy,.inl ⟨A,xs.length,by rw[hfull trivial],λ hk=>by
        rw[Bool.or_eq_true,decide_eq_true_eq]at this;rcases this with h1|h1
        ·omega
        ·rw[List.isEmpty_iff]at h1;rw[h1];rfl⟩⟩
      ·simp at this
   refine⟨putRow w b arr' el fz,⟨G.F,G.own⟩,?_,?_⟩
   ·have hcz:¬(Value.agg vs).cells.size≠n:=by simp only[Value.cells];rw[<-Array.length_toList];omega
    simp only[Instr.storeAt,Instr.sureAddr,Sem.run_bind,Sem.run_pure,Result.andThen_ok,storeVar,cJ hsz,if_neg hcz];exact e1
   ·exact⟨hI.write ho hob hgo (λ _ _ h _ _=>h) (λ _ _ h => .inr (.inr h)) hrf' hor2,Ext.write hI ho hgo (λ _ _ h _ _=>h) (λ _ h=>h) (λ _ _ h=>h),λ q' z v' _ ht=>ht.same λ blk hb=>⟨hb,hkeep _ _ hb (by simp),λ _=>rfl⟩,λ id1 off1 hsp b1 hb1=>by
     by_cases e:b1=b
     ·subst e;have hid:id1=id:=by rw[ho]at hb1;injection hb1 with hb1;injection hb1 with hb1;exact hb1.symm
      subst hid;rcases hsp id1 off rfl with h|h|h
      ·exact absurd rfl h
      ·simp[World.cell?,hZ hbsz,hgo,hget,if_neg (show ¬(off<=off1/\off1<off+n) by omega)]
      ·simp[World.cell?,hZ hbsz,hgo,hget,if_neg (show ¬(off<=off1/\off1<off+n) by omega)]
     ·exact cell?_of_heap (cB e) _⟩
  ·-- one cell
   split at h;rotate_left
   ·simp at h
   rename_i hc;obtain⟨hone,rfl,hoff,href⟩:=hc;injection h with h;subst h
   have h1c:=RV.one' hv hone;obtain⟨_,_,_,hfoff,_⟩:=hcells off _ (List.getElem?_eq_getElem hoff);obtain⟨arr',e1,e2,e3⟩:=gz (P:=P) (el:=el) [vx] off 0 w arr hgo (by simp;omega) (by intro j hj;simp at hj;subst hj;simpa using hfoff) (by simpa using h1c);simp only[Nat.add_zero]at e2;have hget:∀o:Nat,arr'[o]?=if o=off then some vx else arr[o]?:=by
    intro o;have:=td (vs:=arr.toList) (l:=[vx]) (off:=off) (by simp;omega) o;rw[<-e2]at this;by_cases e:o=off
    ·subst e;simpa using this
    ·rw[if_neg (by simp;omega)]at this;simpa[e]using this
   have hrf':bG (id+1) (cs.set off v)=true:=by
    rw[da]at hrf⊢;intro c hc;rcases List.mem_or_eq_of_mem_set hc with h|h
    ·exact hrf c h
    ·subst h;exact href
   let own':Nat->Option Loc:=qD tk q G.own (.cell id off)
   have hown:∀c ℓ,G.own c=some ℓ->(∀y,ℓ ≠ .slot y)->own' c=some ℓ:=λ c ℓ h1 h2=>HY h1 h2;have hle:Le G ⟨G.F,own'⟩:=⟨λ _ _ _ h=>h,λ c i h=>hown c _ h (by simp)⟩
   have hkeep:∀blk ℓ,G.own blk=some ℓ->(∀i,ℓ ≠ .obj i)->(putRow w b arr' el fz).heap[blk]?=w.heap[blk]?:=λ blk ℓ h1 h2=>cB (tokne _ _ h1 h2);have hor2:gI (putRow w b arr' el fz) ⟨G.F,own'⟩ id (.cells (cs.set off v) (B5 tk off (et fl0 off))) (.cells arr' el fz):=by
    simp only[gI];have hold:∀o z,(o,z)∈et fl0 off->mr (putRow w b arr' el fz) ⟨G.F,own'⟩ id arr' el o z:=by intro o z hm;obtain⟨hm,hne⟩:=fj.1 hm;refine(hflags o z hm).map λ y hy ht=>?_;exact⟨y,by rw[hget,if_neg hne];exact hy,ht.same λ blk hb=>⟨hown _ _ hb (by simp),hkeep _ _ hb (by simp),λ _=>rfl⟩⟩
    refine⟨by simp;omega,λ o c hc=>?_,λ o z hm=>?_⟩
    ·by_cases e:o=off
     ·subst e;rw[List.getElem?_set_self hoff]at hc;simp at hc;subst hc;exact⟨vx,by rw[hget,if_pos rfl],RV.mono hle _ _ hv,hfoff,hone⟩
     ·rw[List.getElem?_set_ne (Ne.symm e)]at hc;obtain⟨y,hy,hry,hf,ho1⟩:=hcells o c hc;exact⟨y,by rw[hget,if_neg e];exact hy,RV.mono hle _ _ hry,hf,ho1⟩
    ·cases htk':tk with
     |none=>rw[htk']at hm;exact hold o z hm
     |some z0=>
      rw[htk']at hm;simp only[B5]at hm;split at hm
      ·exact hold o z hm
      rename_i hz0;rcases E3 hm with hm|hm
      ·injection hm with m1 m2;subst m1;subst m2
       unfold mr;rw[if_neg hz0];obtain⟨y,hq,ht⟩:=htk _ htk';refine⟨vx,by rw[hget,if_pos rfl],?_⟩;rcases ht with ht|⟨blk,hb,ht⟩
       ·exact .inl ht
       ·refine .inr ⟨blk,?_,(ht.same (hkeep _ _ hb (by simp)) λ _=>rfl).weak⟩
        exact HZ htk' hq hb
      ·exact hold o z hm
   refine⟨putRow w b arr' el fz,⟨G.F,own'⟩,?_,?_⟩
   ·have hcz:¬vx.cells.size≠1:=by rw[RV.cells_one hv hone];simp
    simp only[Instr.storeAt,Instr.sureAddr,Sem.run_bind,Sem.run_pure,Result.andThen_ok,storeVar,cJ hsz,if_neg hcz,RV.cells_one hv hone];exact e1
   ·refine⟨hI.write ho hob hgo (λ c ℓ h h1 _=>hown c ℓ h h1) (λ c ℓ h=>?_) hrf' hor2,Ext.write hI ho hgo (λ c ℓ h h1 _=>hown c ℓ h h1) (λ c h=>H0 h) (λ c i h=>?_),λ y z v' hne ht=>ht.same λ blk hb=>⟨H2 hne hb,hkeep _ _ hb (by simp),λ _=>rfl⟩,λ id1 off1 hsp b1 hb1=>?_⟩
    ·rcases Be h with⟨e,h⟩|h
     ·exact .inr (.inl ⟨off,e,h⟩)
     ·exact .inr (.inr h)
    ·rcases Be h with⟨e,_⟩|h
     ·cases e
     ·exact h
    ·by_cases e:b1=b
     ·subst e;have hid:id1=id:=by rw[ho]at hb1;injection hb1 with hb1;injection hb1 with hb1;exact hb1.symm
      subst hid;have hne:off1≠off:=by rcases hsp id1 off rfl with h|h|h<;>first|exact absurd rfl h|omega
      simp[World.cell?,hZ hbsz,hgo,hget,hne]
     ·exact cell?_of_heap (cB e) _
 |_=>simp only[gI]at hor
end
section
variable {P : Program} {w : World} {G : Sg} {S : List Ob} {SP : Nat → Nat → Prop}
theorem St1.of_push{go:Obj}{o:Ob}(hI:Inv w G S)(hr:∀cs fl,o = .cells cs fl->bG (S.length+1) cs=true)(hor:gI (eh w go) (cY w G (.obj S.length)) S.length o go):
  St1 w G S (eh w go) (cY w G (.obj S.length)) (o::S) none SP/\(cY w G (.obj S.length)).own w.heap.size=some (.obj S.length):=by
 obtain⟨h1,h2⟩:=JI hI hr hor;exact⟨⟨h1,h2,λ q' sz v _ h=>h.push hI,λ id off _ b hb=>cell?_of_heap (dQ (hI.tk _ _ hb)) off⟩,by simp[cY]⟩
theorem HN(hI:Inv w G S){t:TypeId}:∃x w' G',(Instr.makeMap t none).run P w = .ok x w'/\RV G' (.mp S.length) x/\St1 w G S w' G' (.map []::S) none SP:=by obtain⟨h1,h2⟩:=St1.of_push (SP:=SP) hI (go := .map #[] 0) (o := .map []) (by intro _ _ e;cases e) (by simp[gI]);exact⟨_,_,_,rfl,by simp only[RV];exact⟨_,h2,rfl⟩,h1⟩
theorem LI(hI:Inv w G S){t:TypeId}{id:Nat}(hn:∀b,G.own b≠some (.obj id))(ho:bT S id=some (.map [])):
  ∃x w',(Instr.makeMap t none).run P w = .ok x w'/\RV (cY w G (.obj id)) (.mp id) x/\Inv w' (cY w G (.obj id)) S/\(∃go,w'=eh w go):=by
 refine⟨_,eh w (.map #[] 0),rfl,?_,hI.push_obj hn ho (by simp[gI]),⟨_,rfl⟩⟩;simp only[RV];exact⟨_,by simp[cY],rfl⟩
theorem OY(hI:Inv w G S){t:TypeId}{s:List UInt8}(hu:P.underlying t=some .string):∃x w' G',(Instr.range t (.string ⟨s.toArray⟩)).run P w = .ok x w'/\RV G' (.it S.length) x/\St1 w G S w' G' (.iter s 0::S) none SP:=by obtain⟨h1,h2⟩:=St1.of_push (SP:=SP) hI (go := .stringIter ⟨s.toArray⟩ 0) (o := .iter s 0) (by intro _ _ e;cases e) (by simp[gI]);refine⟨_,_,_,?_,by simp only[RV];exact⟨_,h2,rfl⟩,h1⟩;simp only[Instr.range,Sem.run_bind,run_underlying hu,Result.andThen_ok,Sem.run_pure];rfl
def gu(w:World)(b:Nat)(go:Obj):World:={ w with heap:=w.heap.setIfInBounds b go }
theorem vJ{b:Nat}{go:Obj}(h:b<w.heap.size):(gu w b go).heap[b]?=some go:=by simp only[gu,Array.getElem?_setIfInBounds,if_pos h,if_true]
theorem iu{b c:Nat}{go:Obj}(h:c≠b):(gu w b go).heap[c]?=w.heap[c]?:=by simp only[gu,Array.getElem?_setIfInBounds,if_neg (Ne.symm h)]
theorem St1.of_put(hI:Inv w G S){b id:Nat}{o o':Ob}{go go':Obj}{q:Option Nat}(ho:G.own b=some (.obj id))(hob:bT S id=some o)(hgo:w.heap[b]?=some go)(hcs:∀cs fl,o' ≠ .cells cs fl)(hor:gI (gu w b go') G id o' go')
  (hgc:∀c e f,go ≠ .cells c e f) (hgc':∀c e f,go' ≠ .cells c e f):
  St1 w G S (gu w b go') G (oset S id o') q SP:=by
 have hb:=nN hgo;have tokne:∀blk ℓ,G.own blk=some ℓ->(∀i,ℓ ≠ .obj i)->blk≠b:=by intro blk ℓ h1 h2 e;subst e;rw[ho]at h1;injection h1 with h1;exact h2 _ h1.symm
 have hcell:∀b1 off1,(gu w b go').cell? ⟨b1,off1,none⟩=w.cell? ⟨b1,off1,none⟩:=by
  intro b1 off1;by_cases e:b1=b
  ·subst e;have e1:(gu w b1 go').cell? ⟨b1,off1,none⟩=none:=by unfold World.cell?;rw[show (gu w b1 go').heap[(⟨b1,off1,none⟩:Addr).block]?=some go' from vJ hb];cases go'<;>first|rfl|exact absurd rfl (hgc' _ _ _)
   have e2:w.cell? ⟨b1,off1,none⟩=none:=by unfold World.cell?;rw[show w.heap[(⟨b1,off1,none⟩:Addr).block]?=some go from hgo];cases go<;>first|rfl|exact absurd rfl (hgc _ _ _)
   rw[e1,e2]
  ·exact cell?_of_heap (iu e) off1
 refine⟨⟨λ c x v h=>?_,λ b' id' h=>?_,hI.inj,λ b' ℓ h=>?_,λ b' id' x h=>?_,λ id' cs fl h=>?_,hI.tb_of λ c hc h0=>⟨iu λ e=>(by subst e;rw[ho]at h0;cases h0),h0⟩⟩,⟨rfl,rfl,rfl,by simp[gu],λ _ _ _ h=>h,λ _ _ h=>h,λ c hc h=>⟨rfl,?_,λ _=>rfl⟩,λ _ _ h _=>h,λ id' hid hn=>?_,by rw[dw];exact Nat.le_refl _⟩,λ q' sz v _ ht=>ht.same λ blk hk=>⟨hk,iu (tokne _ _ hk (by simp)),λ _=>rfl⟩,λ _ _ _ _ _=>hcell _ _⟩
 ·rw[hcell];exact hI.fz c x v h
 ·by_cases e:b'=b
  ·subst e;have:id'=id:=by rw[ho]at h;injection h with h;injection h with h;exact h.symm
   subst this;exact⟨(hI.ob _ _ ho).1,_,_,cz (du hob),vJ hb,hor⟩
  ·have hid:id'≠id:=λ e'=>e (hI.inj _ _ _ (e'▸h) ho);obtain⟨h1,o1,go1,h2,h3,h4⟩:=hI.ob b' id' h;exact⟨h1,o1,go1,by rw[bV hid];exact h2,by rw[iu e];exact h3,h4.same (Le.refl G) λ off blk hk=>⟨hk,iu (tokne _ _ hk (by simp)),λ _=>rfl⟩⟩
 ·have:(gu w b go').heap.size=w.heap.size:=by simp[gu]
  rw[this];exact hI.tk _ _ h
 ·rw[dw];exact hI.cl _ _ _ h
 ·by_cases e:id'=id
  ·subst e;rw[cz (du hob)]at h;injection h with h;exact absurd h (hcs _ _)
  ·rw[bV e]at h;exact hI.rf _ _ _ h
 ·exact iu (λ e=>by subst e;rcases h with h|h<;>rw[ho]at h<;>simp at h)
 ·exact bV (λ e=>hn b (e▸ho))
theorem Rb(hI:Inv w G S){a:V}{va:Value}{ty:TypeId}{r:Out}{q:Option Nat}(ha:RV G a va)(h:rG S a=some r):∃x w' G',(Instr.next va true ty).run P w = .ok x w'/\RV G' r.1 x/\St1 w G S w' G' r.2 q SP:=by
 unfold rG at h;split at h
 ·rename_i id;split at h
  ·rename_i s pos hob;simp only[RV]at ha;obtain⟨b,ho,rfl⟩:=ha;obtain⟨_,o',go,hs',hgo,hor⟩:=hI.ob _ _ ho;rw[hob]at hs';injection hs' with hs';subst hs'
   obtain⟨t0,p0,rfl⟩:∃t0 p0,go = .stringIter t0 p0:=by cases go<;>simp only[gI]at hor;exact⟨_,_,rfl⟩
   simp only[gI]at hor;rw[hor.1,hor.2]at hgo;have hsz:(⟨s.toArray⟩:ByteArray).size=s.length:=rfl;have hget:(getObj b).run P w = .ok (.stringIter ⟨s.toArray⟩ pos) w:=by simp[getObj,Sem.run,hgo]
   split at h
   ·rename_i hlt;simp at h;subst h;refine⟨.tuple #[.bool true,.int .i64 pos,.int .i32 (Utf8.decode ⟨s.toArray⟩ pos).1],gu w b (.stringIter ⟨s.toArray⟩ (pos+(Utf8.decode ⟨s.toArray⟩ pos).2)),G,?_,?_,St1.of_put hI ho hob hgo (by simp) (by simp[gI]) (by simp) (by simp)⟩;rotate_left
    ·simp only[RV,dJ,RD];exact⟨_,rfl,_,_,rfl,rfl,_,_,rfl,rfl,_,_,rfl,rfl,rfl⟩
    ·have hset:∀go',(setObj b go').run P w = .ok () (gu w b go'):=by intro go';simp[setObj,Sem.run,hgo,gu]
     simp only[Instr.next,Sem.run_bind,hget,Result.andThen_ok,hsz];rw[if_pos hlt];simp only[Sem.run_bind,hset,Result.andThen_ok,Sem.run_pure,goInt]
   ·rename_i hlt;simp at h;subst h;refine⟨.tuple #[.bool false],w,G,?_,by simp only[RV,dJ,RD];exact⟨_,rfl,_,_,rfl,rfl,rfl⟩,⟨hI,Ext.refl _ _ _,λ _ _ _ _ h=>h,λ _ _ _ _ _=>rfl⟩⟩;simp only[Instr.next,Sem.run_bind,hget,Result.andThen_ok,hsz];rw[if_neg hlt];rfl
  ·simp at h
 ·simp at h
theorem A5{k x:D}:∀{es:List (D×D)} {r:Option D},oo k es=some r->
  (r=none->E8 k x es=es++[(k,x)])/\(∀y,r=some y->∃i q,es[i]?=some (q,y)/\qx k q=some true/\E8 k x es=es.set i (k,x)/\∀j,j<i->∃e:D×D,es[j]?=some e/\qx k e.1=some false)
 | [],r,h=>by
  simp[oo]at h;subst h;exact⟨λ _=>rfl,by simp⟩
 |(q,y)::es,r,h=>by
  simp only[oo]at h;split at h
  ·rename_i e;simp at h;subst h;refine⟨by simp,λ y' hy=>?_⟩;injection hy with hy;subst hy
   exact⟨0,q,rfl,e,by simp[E8,e],by simp⟩
  ·rename_i e;obtain⟨h1,h2⟩:=A5 (x:=x) h;refine⟨λ hr=>by simp[E8,e,h1 hr],λ y' hy=>?_⟩;obtain⟨i,q',p1,p2,p3,p4⟩:=h2 y' hy;refine⟨i+1,q',by simpa using p1,p2,by simp[E8,e,p3],λ j hj=>?_⟩
   cases j with
   |zero=>exact⟨_,rfl,e⟩
   |succ j=>simpa using p4 j (by omega)
  ·simp at h
theorem xL{F:Fz}{kt:TypeId}{d:TypeDesc}(hu:P.underlying kt=some d){k:D}{vk:Value}(hk:RD F k vk)(hfit:gN P kt k=true):∀{es:List (D×D)} {ents:List MapEntry} {i n:Nat} {q y:D},
  (∀(j:Nat) q x,es[j]?=some (q,x)->∃e:MapEntry,ents[j]?=some e/\RD F q e.key/\RD F x e.val)->es[n]?=some (q,y)->qx k q=some true->(∀j,j<n->∃e:D×D,es[j]?=some e/\qx k e.1=some false)->
  ∃v,Instr.findNow d vk ents i=some (some (i+n,v))
 | [],ents,i,n,q,y,_,h,_,_=>by simp at h
 |(q0,x0)::es,ents,i,n,q,y,hr,hn,hq,hlt=>by
  obtain⟨e,he,hqe,_⟩:=hr 0 q0 x0 rfl
  cases ents with
  |nil=>simp at he
  |cons e0 ents=>
   simp at he;subst he;have hsame:=yG hu hk hqe hfit;simp only[Instr.findNow,hsame]
   cases n with
   |zero=>simp at hn;obtain⟨rfl,rfl⟩:=hn;simp[hq]
   |succ n=>
    obtain⟨e1,h1,h2⟩:=hlt 0 (by omega);simp at h1;subst h1;simp only[h2];obtain⟨v,hv⟩:=xL hu hk hfit (i:=i+1) (n:=n) (es:=es) (ents:=ents) (λ j q x hj=>by simpa using hr (j+1) q x (by simpa using hj)) (by simpa using hn) hq (λ j hj=>by simpa using hlt (j+1) (by omega));exact⟨v,by rw[hv];congr 3;omega⟩
theorem xu{F:Fz}{k q:D}{vk vq:Value}(hk:RD F k vk)(hq:RD F q vq)(h:qx k q=some true):Instr.sameBits 10000 vq vk=true:=by
 obtain⟨n,hn⟩:∃n,10000=n+1:=⟨9999,rfl⟩
 rw[hn];unfold qx at h;split at h
 ·split at h
  ·rename_i e;subst e;simp at h;subst h;simp only[RD]at hk hq;subst hk;subst hq;simp[Instr.sameBits]
  ·simp at h
 ·simp at h;subst h;simp only[RD]at hk hq;subst hk;subst hq;simp[Instr.sameBits,beq_toListBytes]
 ·simp at h
theorem CF(hI:Inv w G S){t kt e:TypeId}{m x:V}{k:D}{vm vk vx:Value}{S':List Ob}{q:Option Nat}(hu:P.underlying t=some (.map kt e))(hm:RV G m vm)(hk:RD G.F k vk)(hx:RV G x vx)(hfit:gN P kt k=true)(h:hO S m (.d k) x=some S'):
  ∃w' G',(Instr.mapUpdate t vm vk vx).run P w = .ok () w'/\St1 w G S w' G' S' q SP:=by
 unfold hO at h;split at h;rotate_left
 ·simp at h
 rename_i id k' xd e2;injection e2 with e2;subst e2
 split at h;rotate_left
 ·simp at h
 rename_i es hob;split at h;rotate_left
 ·simp at h
 rename_i hfs;injection h with h;subst h
 simp only[RV]at hm hx;obtain⟨b,ho,rfl⟩:=hm;obtain⟨_,o',go,hs',hgo,hor⟩:=hI.ob _ _ ho;rw[hob]at hs';injection hs' with hs';subst hs'
 obtain⟨ents,clock,rfl⟩:∃ents clock,go = .map ents clock:=by cases go<;>simp only[gI]at hor;exact⟨_,_,rfl⟩
 simp only[gI]at hor;obtain⟨hlen,hrel⟩:=hor;obtain⟨d,hd⟩:=lz hfit;have hck:=me (P:=P) (w:=w) (em:=false) hk hfit;have hget:(getObj b).run P w = .ok (.map ents clock) w:=by simp[getObj,Sem.run,hgo]
 have hset:∀go',(setObj b go').run P w = .ok () (gu w b go'):=by intro go';simp[setObj,Sem.run,hgo,gu]
 have hrel':∀(j:Nat) q x,es[j]?=some (q,x)->∃e:MapEntry,ents.toList[j]?=some e/\RD G.F q e.key/\RD G.F x e.val:=λ j q x hj=>by simpa using hrel j q x hj
 obtain⟨r,hr⟩:=Option.isSome_iff_exists.1 hfs;obtain⟨hp1,hp2⟩:=A5 (x:=xd) hr
 cases r with
 |none=>
  have hfn:=ri hd hk hfit (i:=0) (ents:=ents.toList) (by simpa using hlen) hrel' hr;simp only at hfn;rw[hp1 rfl];refine⟨gu w b (.map (ents.push { key:=vk,val:=vx,born:=clock }) (clock+1)),G,?_,St1.of_put hI ho hob hgo (by simp) ?_ (by simp) (by simp)⟩
  ·simp only[Instr.mapUpdate,Sem.run_bind,run_underlying hu,Result.andThen_ok,hget,hck,Instr.findKey,run_underlying hd,hfn,Sem.run_pure,hset]
  ·simp only[gI];refine⟨by simp[hlen],λ i q y hi=>?_⟩;rcases Nat.lt_or_ge i es.length with h' | h'
   ·rw[List.getElem?_append_left h']at hi;obtain⟨e,he,h1,h2⟩:=hrel i q y hi;exact⟨e,by rw[Array.getElem?_push,if_neg (by omega)];exact he,h1,h2⟩
   ·rw[List.getElem?_append_right h']at hi;have:i=es.length:=by have:=(List.getElem?_eq_some_iff.1 hi).1;simp at this;omega
    subst this;simp at hi;obtain⟨rfl,rfl⟩:=hi;exact⟨_,by rw[Array.getElem?_push,if_pos hlen],hk,hx⟩
 |some y=>
  obtain⟨i,q0,h1,h2,h3,h4⟩:=hp2 y rfl;obtain⟨v0,hfn⟩:=xL hd hk hfit (i:=0) hrel' h1 h2 h4;rw[Nat.zero_add]at hfn;obtain⟨e0,he0,hq0,_⟩:=hrel i q0 y h1;have hsb:=xu hk hq0 h2;have hkts:(Instr.keyThatStays e0.key vk).run P w = .ok vk w:=by simp only[Instr.keyThatStays];rw[if_pos hsb];rfl
  rw[h3];refine⟨gu w b (.map (ents.modify i λ e=>{ e with key:=vk,val:=vx }) clock),G,?_,St1.of_put hI ho hob hgo (by simp) ?_ (by simp) (by simp)⟩
  ·simp only[Instr.mapUpdate,Sem.run_bind,run_underlying hu,Result.andThen_ok,hget,hck,Instr.findKey,run_underlying hd,hfn,Sem.run_pure,he0,Option.map_some,Option.getD_some,hkts,hset]
  ·simp only[gI];refine⟨by simp[hlen],λ j q z hj=>?_⟩;by_cases e:i=j
   ·subst e;rw[List.getElem?_set_self (List.getElem?_eq_some_iff.1 h1).1]at hj;simp at hj;obtain⟨rfl,rfl⟩:=hj;exact⟨{ e0 with key:=vk,val:=vx },by rw[Array.getElem?_modify,if_pos rfl,he0];rfl,hk,hx⟩
   ·rw[List.getElem?_set_ne e]at hj;obtain⟨e1,he1,p1,p2⟩:=hrel j q z hj;exact⟨e1,by rw[Array.getElem?_modify,if_neg e];exact he1,p1,p2⟩
end
section
variable {P : Program} {w : World} {G : Sg} {S : List Ob} {SP : Nat → Nat → Prop}
theorem r9{e:TypeId}(h:((P.info? e).map (·.bytes)).getD 5000<=1024):∃i,P.info? e=some i/\i.bytes<=1024:=by
 cases hi:P.info? e with
 |none=>simp[hi]at h
 |some i=>simp[hi]at h;exact⟨i,rfl,h⟩
theorem gl{e:TypeId}{z:List V}(h:fS P e=some z):∃i v,P.info? e=some i/\i.zero=some v/\dJ G z v.cells.toList:=by
 unfold fS at h;split at h
 ·rename_i v hv
  cases hi:P.info? e with
  |none=>simp[hi]at hv
  |some i=>simp[hi]at hv;exact⟨i,v,rfl,hv,uy h⟩
 ·simp at h
theorem Inv.drew(hI:Inv w G S):Inv w.drew G S:=⟨hI.fz,hI.ob,hI.inj,hI.tk,hI.cl,hI.rf,hI.tb⟩
theorem St1.drew(hI:Inv w G S):St1 w G S w.drew G S none SP:=
 ⟨hI.drew,⟨rfl,rfl,rfl,Nat.le_refl _,λ _ _ _ h=>h,λ _ _ h=>h,λ _ _ _=>⟨rfl,rfl,λ _=>rfl⟩,λ _ _ h _=>h,λ _ _ _=>rfl,Nat.le_refl _⟩,λ _ _ _ _ h=>h,λ _ _ _ _ _=>rfl⟩
theorem St1.trans{w1 w2:World}{G1 G2:Sg}{S1 S2:List Ob}{q q2:Option Nat}(h:St1 w G S w1 G1 S1 q SP)(k:St1 w1 G1 S1 w2 G2 S2 q2 SP)(hq:q=none\/q=q2):St1 w G S w2 G2 S2 q2 SP:={
 inv:=k.inv
 ext:=h.ext.trans k.ext
 tok q' sz v hne ht:=k.tok q' sz v hne (h.tok q' sz v (by rcases hq with e|e<;>subst e;simp;exact hne) ht)
 sp id off hs b hb:=(k.sp id off hs b (h.ext.obj _ _ hb)).trans (h.sp id off hs b hb) }
def fX(w:World)(G:Sg)(arr:Array Value)(n:Nat)(ℓ:Option Loc):Sg:=
 ⟨λ b o=>if b=w.heap.size then(if o<n then arr[o]? else none)else G.F b o,λ b=>if b=w.heap.size then ℓ else G.own b⟩
theorem xR(hI:Inv w G S)(arr:Array Value)(el:TypeId)(fz:Nat×Nat)(n:Nat)(ℓ:Option Loc)(hℓ:∀x,ℓ=some x->∃d,x = .slot d):
  St1 w G S (eh w (.cells arr el fz)) (fX w G arr n ℓ) S none SP:=by
 have hold:∀b,b<w.heap.size->(fX w G arr n ℓ).own b=G.own b:=λ b hb=>by simp only[fX];rw[if_neg (by omega)]
 have holdF:∀b o,b<w.heap.size->(fX w G arr n ℓ).F b o=G.F b o:=λ b o hb=>by simp only[fX];rw[if_neg (by omega)]
 have hsz:(eh w (.cells arr el fz)).heap.size=w.heap.size+1:=by simp[eh]
 have hF:Qd G.F (fX w G arr n ℓ).F:=λ b o v h=>by rw[holdF b o (hI.F_lt h)];exact h
 have hle:Le G (fX w G arr n ℓ):=⟨hF,λ b id h=>by rw[hold b (hI.tk _ _ h)];exact h⟩
 have hobj:∀b id,(fX w G arr n ℓ).own b=some (.obj id)->G.own b=some (.obj id):=by
  intro b id h;simp only[fX]at h;split at h
  ·obtain⟨d,e⟩:=hℓ _ h;cases e
  ·exact h
 have htok:∀ℓ' sz v,fI w G ℓ' sz v->fI (eh w (.cells arr el fz)) (fX w G arr n ℓ) ℓ' sz v:=λ ℓ' sz v h=>
  h.same λ blk hb=>⟨by rw[hold _ (hI.tk _ _ hb)];exact hb,dQ (hI.tk _ _ hb),λ o=>holdF _ _ (hI.tk _ _ hb)⟩
 refine⟨⟨λ b o v h=>?_,λ b id h=>?_,λ b b' id h h'=>hI.inj _ _ _ (hobj _ _ h) (hobj _ _ h'),λ b ℓ' h=>?_,λ b id o h=>?_,hI.rf,hI.tb_of λ b hb h0=>⟨dQ hb,(hold b hb).trans h0⟩⟩,⟨rfl,rfl,rfl,by omega,hF,hle.obj,λ b hb _=>⟨hold b hb,dQ hb,λ o=>holdF b o hb⟩,λ b id h _=>hobj _ _ h,λ _ _ _=>rfl,Nat.le_refl _⟩,λ q' sz v _ h=>htok _ _ _ h,λ id off _ b hb=>cell?_of_heap (dQ (hI.tk _ _ hb)) off⟩
 ·by_cases e:b=w.heap.size
  ·subst e;simp only[fX,if_true]at h;split at h
   ·unfold World.cell?;simp only[eh,Array.getElem?_push_size];exact h
   ·simp at h
  ·simp only[fX,if_neg e]at h;rw[cell?_of_heap (dQ (hI.F_lt h))];exact hI.fz b o v h
 ·have h0:=hobj _ _ h;have hb:=hI.tk _ _ h0;obtain⟨h1,o,go,h2,h3,h4⟩:=hI.ob b id h0;refine⟨λ o=>by rw[holdF b o hb];exact h1 o,o,go,h2,by rw[dQ hb];exact h3,h4.same hle λ off blk hk=>?_⟩;have hb':=hI.tk _ _ hk;exact⟨by rw[hold _ hb'];exact hk,dQ hb',λ o=>holdF _ _ hb'⟩
 ·rw[hsz];by_cases e:b=w.heap.size
  ·omega
  ·simp only[fX,if_neg e]at h;have:=hI.tk _ _ h;omega
 ·simp only[fX]at h;split at h
  ·obtain⟨d,e⟩:=hℓ _ h;cases e
  ·exact hI.cl _ _ _ h
theorem xQ(hI:Inv w G S){arr:Array Value}{xs:List D}{l:List Value}{n c sz:Nat}{ℓ:Option Loc}{full:Bool}(hs:sized xs sz)(hr:dI G.F (xs.flatMap D.cells) l)(hl:∀(i:Nat) v,l[i]?=some v->arr[i]?=some v)(hn:xs.length*sz<=n)(hc:xs.length<=c)(hf:full=true->c=xs.length):
  RD (fX w G arr n ℓ).F (.l full xs) (.slice (some ⟨w.heap.size,0,none⟩) xs.length c):=by
 simp only[RD];refine⟨_,_,_,sz,rfl,rfl,hc,hf,hs,λ _=>⟨_,_,rfl,?_⟩⟩;rw[ka];refine cR.of_get λ i d hi=>?_;obtain⟨v,hv,hrv⟩:=dI.get hr hi;have hlt:=(List.getElem?_eq_some_iff.1 hi).1;rw[gW hs]at hlt;refine⟨v,?_,RD.mono (λ b o v h=>?_) d v hrv⟩
 ·simp only[fX,if_true,Nat.zero_add];rw[if_pos (by omega)];exact hl _ _ hv
 ·simp only[fX];rw[if_neg]
  ·exact h
  ·have:=hI.F_lt h;omega
theorem AN{arr:Array Value}{el:TypeId}{n c sz d zc:Nat}{fz:Nat×Nat}(hzc:zc%1000000=sz)(hty:∀t,wc zc=some t->el=t)(hn:n<=c)(hc:c*sz<=arr.size)(hfz:fz=(0,0)):
  fI (eh w (.cells arr el fz)) (fX w G arr (n*sz) (some (.slot d))) (.slot d) zc (.slice (some ⟨w.heap.size,0,none⟩) n c):=by
 subst hzc;refine .inr ⟨w.heap.size,by simp[fX],0,n,c,arr,el,fz,rfl,Bp,hn,by omega,by subst hfz;exact Nat.le_refl _,⟨hty,λ _=>⟨rfl,by subst hfz;rfl⟩⟩,λ o ho=>⟨?_,by subst hfz;simp⟩⟩;simp only[fX,if_true];rw[if_neg (by omega)]
theorem z8{y:Nat}{c:Int}(h:y<=1024)(h0:0<=c)(hc:c<=4294967296):(y:Int)*c<=281474976710656:=by have:(y:Int)*c<=1024*4294967296:=Int.mul_le_mul (by omega) hc (by omega) (by omega);omega
theorem qz{z:Array Value}(hz:z.size=1){n o:Nat}(h:o<n):(madeCells z n)[o]?=some z[0]!:=by simp[madeCells,hz,Nat.mod_one,h]
theorem Oh(hI:Inv w G S){t e:TypeId}{zd:D}{n c v:V}{vn vc:Value}{d:Nat}(hu:P.underlying t=some (.slice e))(hz:fS P e=some [.d zd])(hb:((P.info? e).map (·.bytes)).getD 5000<=1024)(hsz:bZ P e=some 1)(hn:RV G n vn)(hc:RV G c vc)(h:sM zd n c=some v):
  ∃x w' G',(Instr.makeSlice t vn vc).run P w = .ok x w'/\RV G' v x/\St1 w G S w' G' S none SP/\fI w' G' (.slot d) 1 x:=by
 unfold sM at h;split at h;rotate_left
 ·simp at h
 rename_i k n j c;split at h;rotate_left
 ·simp at h
 rename_i hcnd;obtain⟨h0,hnc,hc32,hw⟩:=hcnd;injection h with h;subst h
 simp only[RV,RD]at hn hc;subst hn;subst hc;obtain⟨i,hi,hbi⟩:=r9 hb;obtain⟨i',z,hi',hiz,hzr⟩:=gl (G:=G) hz;rw[hi]at hi';injection hi' with hi';subst hi'
 have his:i.size=1:=by simp[bZ,hi]at hsz;exact hsz
 have hzl:=dJ.length hzr;have hzs:z.cells.size=1:=by simpa using hzl
 have hz0:RD G.F zd z.cells[0]!:=by
  obtain⟨u,hu0,hru⟩:=dJ.get hzr (i:=0) rfl;simp only[RV]at hru;have:z.cells[0]! = u:=by rw[getElem!_pos z.cells 0 (by omega)];simpa[Array.getElem?_eq_getElem (show 0<z.cells.size by omega)]using hu0
  rw[this];exact hru
 have hr:=run_make (P:=P) w t e i z hu hi hiz k j n c h0 hnc (z8 hbi (by omega) hc32) (by omega);rw[his,Nat.mul_one]at hr;have hsz':sized (List.replicate n.toNat zd) 1:=λ x hx=>by rw[(List.mem_replicate.1 hx).2,<-D.cells_length];cases zd<;>first|rfl|simp[V.one]at hw
 have hcells:zd.cells=[zd]:=by cases zd<;>first|rfl|simp[V.one]at hw
 have hn0:(List.replicate n.toNat zd).length=n.toNat:=List.length_replicate ..;have hRD:=xQ (w:=w) (arr:=madeCells z.cells c.toNat) (n:=n.toNat*1) (c:=c.toNat) (ℓ:=some (.slot d)) (full:=false) hI hsz' (l:=List.replicate n.toNat z.cells[0]!) (by
   refine dI.of_get (by rw[gW hsz'];simp) λ i x hx=>?_;have he:(List.replicate n.toNat zd).flatMap D.cells=List.replicate n.toNat zd:=by
    generalize n.toNat=m
    induction m with
    |zero=>rfl
    |succ m ih=>rw[List.replicate_succ,List.flatMap_cons,ih,hcells];rfl
   rw[he]at hx;obtain⟨h1,h2⟩:=List.getElem?_eq_some_iff.1 hx;simp at h1 h2;subst h2
   exact⟨_,by rw[List.getElem?_replicate,if_pos (by omega)],hz0⟩) (λ i v hi=>by
   obtain⟨h1,h2⟩:=List.getElem?_eq_some_iff.1 hi;simp at h1 h2
   rw[qz hzs (by omega),h2]) (by omega) (by omega) (by simp)
 rw[hn0]at hRD;refine⟨_,_,_,hr,by simp only[RV];exact hRD,xR hI _ _ _ _ _ (λ x hx=>by injection hx with hx;exact⟨d,hx.symm⟩),AN (by decide) (by intro t h;simp[wc]at h) (by omega) (by simp[madeCells]) rfl⟩
theorem Oi(hI:Inv w G S){t e:TypeId}{zd n c:V}{vn vc:Value}{r:Out}(hu:P.underlying t=some (.slice e))(hz:fS P e=some [zd])(hb:((P.info? e).map (·.bytes)).getD 5000<=1024)(hsz:bZ P e=some 1)(hn:RV G n vn)(hc:RV G c vc)(h:nT S zd n c=some r):
  ∃x w' G',(Instr.makeSlice t vn vc).run P w = .ok x w'/\RV G' r.1 x/\St1 w G S w' G' r.2 none SP:=by
 unfold nT at h;split at h;rotate_left
 ·simp at h
 rename_i k n j c;split at h;rotate_left
 ·simp at h
 rename_i hcnd;obtain⟨h0,hnc,hc32,hone,href⟩:=hcnd;subst hnc;injection h with h;subst h
 simp only[RV,RD]at hn hc;subst hn;subst hc;obtain⟨i,hi,hbi⟩:=r9 hb;obtain⟨i',z,hi',hiz,hzr⟩:=gl (G:=G) hz;rw[hi]at hi';injection hi' with hi';subst hi'
 have his:i.size=1:=by simp[bZ,hi]at hsz;exact hsz
 have hzl:=dJ.length hzr;have hzs:z.cells.size=1:=by simpa using hzl
 have hz0:RV G zd z.cells[0]!:=by
  obtain⟨u,hu0,hru⟩:=dJ.get hzr (i:=0) rfl;have:z.cells[0]! = u:=by rw[getElem!_pos z.cells 0 (by omega)];simpa[Array.getElem?_eq_getElem (show 0<z.cells.size by omega)]using hu0
  rw[this];exact hru
 have hr:=run_make (P:=P) w t e i z hu hi hiz k j n n h0 (Int.le_refl _) (z8 hbi (by omega) hc32) (by omega);rw[his,Nat.mul_one]at hr;have hsm:(madeCells z.cells n.toNat).size=n.toNat:=by simp[madeCells]
 obtain⟨h1,h2⟩:=mH hI (el:=e) (cs:=List.replicate n.toNat zd) (fl:=[]) (arr:=madeCells z.cells n.toNat) (SP:=SP) (by
   refine dJ.of_get (by simp[hsm]) λ i x hx=>?_;obtain⟨h1,h2⟩:=List.getElem?_eq_some_iff.1 hx;simp at h1 h2;subst h2;refine⟨_,?_,hz0⟩
   rw[List.getElem?_take_of_lt (by simpa using h1),Array.getElem?_toList,qz hzs (by omega)]) (by simp[hone]) (by simp[hsm]) (t:=none) (by simp[lO]) (λ _ e=>by cases e) (by rw[da];intro x hx;rw[(List.mem_replicate.1 hx).2];exact lU (by omega) _ href) (0,0) (.inl rfl)
 refine⟨_,_,_,hr,?_,h1⟩;simp only[RV];exact⟨_,_,rfl,Nat.le_refl _,λ _=>⟨_,h2,rfl⟩⟩
theorem po{F:Fz}(b:List UInt8):dI F (ofBytes b) (b.map λ c=>Value.int .u8 c.toNat):=by refine dI.of_get (by simp[ofBytes]) λ i x hx=>?_;simp[ofBytes]at hx;obtain⟨c,hc,rfl⟩:=hx;exact⟨_,by rw[List.getElem?_map,hc];rfl,by simp only[RD]⟩
theorem qB(b:List UInt8):sized (ofBytes b) 1:=by intro x hx;simp[ofBytes]at hx;obtain⟨c,_,rfl⟩:=hx;rfl
theorem sO(b:List UInt8):(ofBytes b).flatMap D.cells=ofBytes b:=by
 induction b with
 |nil=>rfl
 |cons c b ih=>simp only[ofBytes,List.map_cons,List.flatMap_cons]at ih⊢;rw[ih];rfl
theorem r8(b:List UInt8)(cap:Nat)(i:Nat)(v:Value)(h:(b.map λ c=>Value.int .u8 c.toNat)[i]?=some v):(bytesRow ⟨b.toArray⟩ cap)[i]?=some v:=by have hlt:=(List.getElem?_eq_some_iff.1 h).1;simp at hlt;unfold bytesRow;rw[Array.getElem?_append_left (by simpa using hlt)];simpa using h
theorem KT(hI:Inv w G S){s d e:TypeId}{b:List UInt8}(hs:P.underlying s=some .string)(hd:P.underlying d=some (.slice e))(he:P.underlying e=some (.int .u8)):
  ∃x w' G',(convert s d (.string ⟨b.toArray⟩)).run P w = .ok x w'/\RV G' (.d (.l false (ofBytes b))) x/\St1 w G S w' G' S none SP:=by
 refine⟨_,_,_,run_bytes_of_string w s d e _ hs hd he,?_,(St1.drew hI).trans (xR hI.drew _ _ _ b.length none (by simp)) (.inl rfl)⟩;have hlen:(ofBytes b).length=b.length:=by simp[ofBytes]
 have:=xQ (w:=w.drew) (arr:=bytesRow ⟨b.toArray⟩ (grownCap w (ByteArray.size ⟨b.toArray⟩) 0 e)) (n:=b.length) (c:=grownCap w (ByteArray.size ⟨b.toArray⟩) 0 e) (ℓ:=none) (full:=false) hI.drew (qB b) (by rw[sO];exact po b) (r8 b _) (by omega) (by rw[hlen];exact grownCap_ge w _ 0 e) (by simp);simp only[RV];rw[hlen]at this;exact this
theorem KU(hI:Inv w G S){s d e:TypeId}{b:List UInt8}(hs:P.underlying s=some .string)(hd:P.underlying d=some (.slice e))(he:P.underlying e=some (.int .u8)):
  ∃x w' G',(convert s d (.string ⟨b.toArray⟩)).run P w = .ok x w'/\RV G' (.m S.length 0 b.length) x/\St1 w G S w' G' (.cells ((ofBytes b).map .d) []::S) none SP:=by
 have hlen:(ofBytes b).length=b.length:=by simp[ofBytes]
 have hcap:b.length<=grownCap w (ByteArray.size ⟨b.toArray⟩) 0 e:=grownCap_ge w _ 0 e;have hsz:(bytesRow ⟨b.toArray⟩ (grownCap w (ByteArray.size ⟨b.toArray⟩) 0 e)).size=grownCap w (ByteArray.size ⟨b.toArray⟩) 0 e:=by have:(ByteArray.size ⟨b.toArray⟩)=b.length:=rfl;simp[bytesRow,this]at hcap⊢;omega
 obtain⟨h1,h2⟩:=mH hI.drew (el:=e) (cs:=(ofBytes b).map .d) (fl:=[]) (arr:=bytesRow ⟨b.toArray⟩ (grownCap w (ByteArray.size ⟨b.toArray⟩) 0 e)) (SP:=SP) (by
   rw[rX];refine dI.of_get (by simp[hsz,hlen,hcap]) λ i x hx=>?_;obtain⟨v,hv,hr⟩:=dI.get (F:=G.F) (po b) hx;have hlt:=(List.getElem?_eq_some_iff.1 hx).1
   exact⟨v,by rw[List.getElem?_take_of_lt (by simpa using hlt),Array.getElem?_toList];exact r8 b _ _ _ hv,hr⟩) (by simp[ofBytes,V.one]) (by simp[hsz,hlen,hcap]) (t:=none) (by simp[lO]) (λ _ e=>by cases e) (jA _ _) _ (.inr rfl)
 refine⟨_,_,_,run_bytes_of_string w s d e _ hs hd he,?_,(St1.drew hI).trans h1 (.inl rfl)⟩;simp only[RV];exact⟨_,_,rfl,hcap,λ _=>⟨_,h2,rfl⟩⟩
end
section
variable {P : Program} {w : World} {G : Sg} {S : List Ob} {SP : Nat → Nat → Prop}
theorem gI.same'{w':World}{G':Sg}{id:Nat}{o:Ob}{go:Obj}(h:gI w G id o go)(hle:Le G G')(hk:∀cs fl,o = .cells cs fl->∀off z,(off,z)∈fl->∀blk,G.own blk=some (.cell id off)->G'.own blk=some (.cell id off)/\w'.heap[blk]?=w.heap[blk]?/\∀o,G'.F blk o=G.F blk o):gI w' G' id o go:=by
 cases o with
 |cells cs fl=>
  cases go<;>simp only[gI]at h⊢;obtain⟨h1,h2,h3⟩:=h;refine⟨h1,λ o c hc=>?_,λ o sz hm=>?_⟩
  ·obtain⟨v,hv,hr,hf,ho⟩:=h2 o c hc;exact⟨v,hv,RV.mono hle c v hr,hf,ho⟩
  ·exact(h3 o sz hm).map λ v hv ht=>⟨v,hv,ht.same (hk _ _ rfl o sz hm)⟩
 |map es=>
  cases go<;>simp only[gI]at h⊢;refine⟨h.1,λ i k x hi=>?_⟩;obtain⟨e,he,hk,hx⟩:=h.2 i k x hi;exact⟨e,he,RD.mono hle.F _ _ hk,RD.mono hle.F _ _ hx⟩
 |iter s pos=>cases go<;>simp only[gI]at h⊢;exact h
 |dead=>cases go<;>simp only[gI]at h
def Src(S:List Ob)(ℓ:Loc):Prop:=(∃q,ℓ = .slot q)\/∃id off,ℓ = .cell id off/\∀cs fl z,bT S id=some (.cells cs fl)->(off,z)∉fl
def jC:Option Loc->Option Nat
 |some (.slot q)=>some q
 |_=>none
theorem Src.not_obj{ℓ:Loc}(h:Src S ℓ):∀i,ℓ ≠ .obj i:=by rintro i rfl;rcases h with⟨q,e⟩|⟨_,_,e,_⟩<;>cases e
theorem Src.not_ext{ℓ:Loc}(h:Src S ℓ):ℓ ≠ .ext:=by rintro rfl;rcases h with⟨q,e⟩|⟨_,_,e,_⟩<;>cases e
theorem HB(hI:Inv w G S){ℓ:Loc}{blk off n m c sz d zc:Nat}{cs:Array Value}{el:TypeId}{fz:Nat×Nat}{xs zs:List D}{l:List Value}(hsrc:Src S ℓ)(ho:G.own blk=some ℓ)(hgo:w.heap[blk]?=some (.cells cs el fz))(hnc:n+m<=c)(hcs:off+c*sz<=cs.size)(hzc:zc%1000000=sz)(hf2:fz.1<=fz.2)(hty:(∀t,wc zc=some t->el=t)/\(zR (.slot d) zc=true->off=0/\fz.1=fz.2))
  (hfr:∀o,off+n*sz<=o->G.F blk o=none/\¬(fz.1<=o/\o<fz.2)) (hn:xs.length=n) (hm:zs.length=m) (hxs:sized xs sz) (hzs:sized zs sz) (hxr:bL G.F blk off xs) (hl:dI G.F (zs.flatMap D.cells) l) (hone:∀v∈l,v.oneCell'=true):
  ∃w' G',(storeCells ((⟨blk,off,none⟩:Addr).add (n*sz)) l).run P w = .ok () w'/\St1 w G S w' G' S (jC (some ℓ)) SP/\RD G'.F (.l false (xs++zs)) (.slice (some ⟨blk,off,none⟩) (n+m) c)/\fI w' G' (.slot d) zc (.slice (some ⟨blk,off,none⟩) (n+m) c):=by
 have hll:l.length=m*sz:=by rw[dI.length hl,gW hzs,hm]
 have hmul:(n+m)*sz<=c*sz:=Nat.mul_le_mul_right _ hnc;rw[Nat.add_mul]at hmul;have hbsz:=nN hgo;obtain⟨arr',e1,e2,e3⟩:=gz (P:=P) l (off+n*sz) 0 w cs hgo (by omega) (λ j hj=>by simpa using(hfr (off+n*sz+j) (by omega)).2) hone;simp only[Nat.add_zero]at e2;have hget:∀o:Nat,arr'[o]?=if off+n*sz<=o/\o<off+n*sz+m*sz then l[o-(off+n*sz)]? else cs[o]?:=by intro o;have:=td (vs:=cs.toList) (l:=l) (off:=off+n*sz) (by rw[hll,Array.length_toList];omega) o;rw[<-e2,hll]at this;simpa using this
 let F':Fz:=λ b o=>if b=blk/\off+n*sz<=o/\o<off+n*sz+m*sz then arr'[o]? else G.F b o
 let own':=lf G.own ℓ (.slot d)
 have hF:Qd G.F F':=by
  intro b o v h;simp only[F'];rw[if_neg]
  ·exact h
  ·rintro⟨rfl,h1,_⟩;rw[(hfr o h1).1]at h;simp at h
 have hFo:∀b o,b≠blk->F' b o=G.F b o:=λ b o h=>by simp only[F'];rw[if_neg (by intro x;exact h x.1)]
 have hobj:∀b id,own' b=some (.obj id)->G.own b=some (.obj id):=by
  intro b id h;rcases jd h with⟨e,_⟩|h
  ·cases e
  ·exact h
 have hne:∀b ℓ',G.own b=some ℓ'->ℓ'≠ℓ->b≠blk:=by intro b ℓ' h1 h2 e;subst e;rw[ho]at h1;injection h1 with h1;exact h2 h1.symm
 have hle:Le G ⟨F',own'⟩:=⟨hF,λ b id h=>fL h (λ e=>hsrc.not_obj _ e.symm)⟩
 have htok:∀ℓ' sz v,ℓ'≠ℓ->fI w G ℓ' sz v->fI (putRow w blk arr' el fz) ⟨F',own'⟩ ℓ' sz v:=λ ℓ' sz v hn h=>
  h.same λ b hb=>⟨fL hb hn,cB (hne _ _ hb hn),λ o=>hFo _ _ (hne _ _ hb hn)⟩
 refine⟨putRow w blk arr' el fz,⟨F',own'⟩,?_,⟨⟨λ b o v h=>?_,λ b id h=>?_,λ b b' id h h'=>hI.inj _ _ _ (hobj _ _ h) (hobj _ _ h'),λ b ℓ' h=>?_,λ b id o h=>?_,hI.rf,hI.tb_of λ c hc h0=>⟨cB λ e=>(by subst e;rw[ho]at h0;cases h0),(by
   show own' c=none
   cases hc':own' c with
   |none=>rfl
   |some y=>rcases jd hc' with⟨_,h'⟩|h'<;>rw[h0]at h'<;>cases h')⟩⟩,⟨rfl,rfl,rfl,by simp[putRow],hF,hle.obj,λ b hb h=>?_,λ b id h _=>hobj _ _ h,λ _ _ _=>rfl,Nat.le_refl _⟩,λ q' sz v hq h=>htok _ _ _ (λ e=>hq (by rw[<-e];rfl)) h,λ id off _ b hb=>cell?_of_heap (cB (hne _ _ hb (λ e=>hsrc.not_obj _ e.symm))) off⟩,?_,?_⟩
 ·rw[Addr.add_plain];exact e1
 ·by_cases e:b=blk
  ·subst e;have hc:(putRow w b arr' el fz).cell? ⟨b,o,none⟩=arr'[o]?:=by simp[World.cell?,hZ hbsz]
   rw[hc];simp only[F']at h;split at h
   ·exact h
   ·rename_i hno;have hlt:o<off+n*sz:=by
     rcases Nat.lt_or_ge o (off+n*sz)with h' | h'
     ·exact h'
     ·rw[(hfr o h').1]at h;simp at h
    rw[hget,if_neg (by omega)];have:=hI.fz b o v h;simpa[World.cell?,hgo]using this
  ·replace h:F' b o=some v:=h;rw[hFo _ _ e]at h;rw[cell?_of_heap (cB e)];exact hI.fz b o v h
 ·have h0:=hobj _ _ h;have hb:b≠blk:=hne _ _ h0 (λ e=>hsrc.not_obj _ e.symm);obtain⟨h1,o,go,h2,h3,h4⟩:=hI.ob b id h0;refine⟨λ o=>(hFo _ _ hb).trans (h1 o),o,go,h2,by rw[cB hb];exact h3,h4.same' hle λ cs1 fl1 hc off1 z hm1 b1 hk=>?_⟩;have hnl:Loc.cell id off1≠ℓ:=by
   rintro rfl;rcases hsrc with⟨q,e⟩|⟨id',off',e,hno⟩
   ·cases e
   ·injection e with e4 e5;subst e4;subst e5
    subst hc;exact hno _ _ _ h2 hm1
  exact⟨fL hk hnl,cB (hne _ _ hk hnl),λ o=>hFo _ _ (hne _ _ hk hnl)⟩
 ·have:(putRow w blk arr' el fz).heap.size=w.heap.size:=by simp[putRow]
  rw[this];rcases jd h with⟨_,h⟩|h<;>exact hI.tk _ _ h
 ·rcases jd h with⟨e,_⟩|h
  ·cases e
  ·exact hI.cl _ _ _ h
 ·have hb':b≠blk:=by
   rintro rfl;rw[ho]at h;rcases h with h|h
   ·cases h
   ·injection h with h;exact hsrc.not_ext h
  refine⟨?_,cB hb',λ o=>hFo _ _ hb'⟩;rcases h with h|h
  ·rw[h];exact nW h
  ·rw[h];exact fL h hsrc.not_ext.symm
 ·simp only[RD];refine⟨_,_,_,sz,rfl,by simp[hn,hm],hnc,by simp,hxs.append hzs,λ _=>⟨_,_,rfl,?_⟩⟩;rw[bL.append hxs];refine⟨bL.mono hF _ _ _ hxr,?_⟩;rw[ka,hn];refine cR.of_get λ i x hi=>?_;obtain⟨v,hv,hr⟩:=dI.get hl hi;have hlt:=(List.getElem?_eq_some_iff.1 hv).1;refine⟨v,?_,RD.mono hF _ _ hr⟩;simp only[F'];rw[if_pos ⟨trivial,by omega,by omega⟩,hget,if_pos ⟨by omega,by omega⟩,show off+n*sz+i-(off+n*sz)=i by omega];exact hv
 ·refine .inr ⟨blk,rJ ho,off,n+m,c,arr',el,fz,rfl,hZ hbsz,hnc,by rw[hzc];omega,hf2,hty,λ o h=>?_⟩
  rw[hzc,Nat.add_mul]at h;obtain⟨f1,f2⟩:=hfr o (by omega);exact⟨by simp only[F'];rw[if_neg (by omega)];exact f1,f2⟩
theorem wO(hI:Inv w G S){sz:Nat}{y:V}{vy:Value}{zs:List D}(hv:RV G y vy)(h:dn S sz y=some zs)(hh:bw sz zs=true):
  ∃l:List Value,(Builtin.lenOf vy).run P w = .ok zs.length w/\(Builtin.firstCells sz zs.length vy).run P w = .ok l.toArray w/\dI G.F (zs.flatMap D.cells) l/\sized zs sz:=by
 unfold dn at h;split at h
 ·rename_i b;injection h with h;subst h
  simp only[RV,RD]at hv;subst hv;have hlen:(ofBytes b).length=b.length:=by simp[ofBytes]
  refine⟨b.map λ c=>Value.int .u8 c.toNat,?_,?_,?_,nM hh (qB b)⟩
  ·simp[Builtin.lenOf,hlen];rfl
  ·simp only[Builtin.firstCells,hlen];have:(ByteArray.extract ⟨b.toArray⟩ 0 b.length).data=b.toArray:=by simp[ByteArray.data_extract]
   simp[this]
  ·rw[sO];exact po b
 ·obtain⟨a,c,rfl,hc,hs,l,h1,h2,h3⟩:=wR (P:=P) hI hv h hh;exact⟨l,by simp[Builtin.lenOf],h2,h3,hs⟩
def wU(P:Program)(ats:Array TypeId):Prop:=∀u,ats[1]?=some u->∃d,P.underlying u=some d/\∀k,d ≠ .int k
theorem mm{ats:Array TypeId}{t ty e:TypeId}{i:TypeInfo}{base:Option Addr}{sLen sCap n:Nat}{x:Value}{news:Array Value}{w':World}(h0:ats[0]?=some t)(hz:wU P ats)(hu:P.underlying t=some (.slice e))(hi:P.info? e=some i)
  (hl:(Builtin.lenOf x).run P w = .ok n w) (hf:(Builtin.firstCells i.size n x).run P w = .ok news w) (hle:sLen+n<=sCap) (hst:∀a,base=some a->(storeCells (a.add (sLen*i.size)) news.toList).run P w = .ok () w') (hst0:base=none->w'=w):
  (Builtin.append_ ats ty #[.slice base sLen sCap,x]).run P w = .ok (.slice base (sLen+n) sCap) w':=by
 cases hu1:ats[1]? with
 |none=>
  cases base with
  |none=>rw[hst0 rfl];simp[Builtin.append_,h0,hu1,run_underlying hu,sizeOf,typeInfo,hi,hl,hf,hle]
  |some a=>simp[Builtin.append_,h0,hu1,run_underlying hu,sizeOf,typeInfo,hi,hl,hf,hle,hst a rfl]
 |some u=>
  obtain⟨d,hd,hn⟩:=hz u hu1;have hm:(match d with | .int k=>true|_=>false)=false:=by cases d<;>first|rfl|exact absurd rfl (hn _)
  cases base with
  |none=>rw[hst0 rfl];simp[Builtin.append_,h0,hu1,run_underlying hu,run_underlying hd,hm,sizeOf,typeInfo,hi,hl,hf,hle]
  |some a=>simp[Builtin.append_,h0,hu1,run_underlying hu,run_underlying hd,hm,sizeOf,typeInfo,hi,hl,hf,hle,hst a rfl]
theorem pA{ats:Array TypeId}{t ty e:TypeId}{i:TypeInfo}{z:Value}{base:Option Addr}{sLen sCap n:Nat}{x:Value}{olds news:Array Value}(h0:ats[0]?=some t)(hz:wU P ats)(hu:P.underlying t=some (.slice e))(hi:P.info? e=some i)(hiz:i.zero=some z)
  (hl:(Builtin.lenOf x).run P w = .ok n w) (hf:(Builtin.firstCells i.size n x).run P w.drew = .ok news w.drew) (hfo:(Builtin.firstCells i.size sLen (.slice base sLen sCap)).run P w.drew = .ok olds w.drew) (hgt:¬sLen+n<=sCap) (h63:sLen+n<=4294967296) (hb:i.bytes<=1024):
  (Builtin.append_ ats ty #[.slice base sLen sCap,x]).run P w = .ok (.slice (some ⟨w.heap.size,0,none⟩) (sLen+n) (grownCap w (sLen+n) sCap e)) (eh w.drew (.cells (olds++news++Builtin.zeroCells z.cells (grownCap w (sLen+n) sCap e-(sLen+n))) e (0,0))):=by
 have hfit:Builtin.nextslicecap (sLen+n) sCap*i.bytes<=281474976710656:=growslice_fits (by omega) (by
  have:(sLen+n)*i.bytes<=4294967296*1024:=Nat.mul_le_mul h63 hb
  omega)
 have h48':¬(281474976710656<Builtin.nextslicecap (sLen+n) sCap*i.bytes):=by omega
 have h63':¬(9223372036854775807<((sLen:Int)+(n:Int))):=by omega
 cases hu1:ats[1]? with
 |none=>
  simp[Builtin.append_,h0,hu1,run_underlying hu,sizeOf,typeInfo,hi,hl,zeroValue,hiz,hgt,h63',h48',Question.forced,hf,hfo,newRow,grownCap];rfl
 |some u=>
  obtain⟨d,hd,hn⟩:=hz u hu1;have hm:(match d with | .int k=>true|_=>false)=false:=by cases d<;>first|rfl|exact absurd rfl (hn _)
  simp[Builtin.append_,h0,hu1,run_underlying hu,run_underlying hd,hm,sizeOf,typeInfo,hi,hl,zeroValue,hiz,hgt,h63',h48',Question.forced,hf,hfo,newRow,grownCap];rfl
theorem LY{F:Fz}{zs:List D}{l:List Value}(h:dK zs=true)(hl:dI F (zs.flatMap D.cells) l):∀v∈l,v.oneCell'=true:=by
 intro v hv;obtain⟨j,hj⟩:=List.mem_iff_getElem?.1 hv;have hjl:=(List.getElem?_eq_some_iff.1 hj).1;rw[dI.length hl]at hjl;obtain⟨u,hu,hr⟩:=dI.get hl (List.getElem?_eq_getElem hjl);rw[hj]at hu;injection hu with hu;subst hu
 refine hr.one' ?_;have hm:=List.getElem_mem hjl;obtain⟨x,hx,hc⟩:=List.mem_flatMap.1 hm;exact List.all_eq_true.1 (List.all_eq_true.1 h x hx) _ hc
theorem KI(hI:Inv w G S){ats:Array TypeId}{t ty e:TypeId}{sz d zc:Nat}{full:Bool}{xs zs:List D}{y:V}{vb vy:Value}{ℓ:Option Loc}(hsm:sz<1000000)(hzc:zc%1000000=sz)(hte:∀t,wc zc=some t->e=t)(h0:ats[0]?=some t)(htl:wU P ats)(hu:P.underlying t=some (.slice e))(hsz:bZ P e=some sz)(hz:(fS P e).map (·.length)=some sz)(hb:((P.info? e).map (·.bytes)).getD 5000<=1024)
  (hbv:RV G (.d (.l full xs)) vb) (hyv:RV G y vy) (ht:dn S sz y=some zs) (hx:bw sz xs=true) (hh:bw sz zs=true) (hlen:xs.length+zs.length<=4294967296) (hfull:(full=false\/zc≠sz/\xs≠[])->∃ℓ0,ℓ=some ℓ0/\fI w G ℓ0 zc vb) (hth:∀ℓ0,ℓ=some ℓ0->zR (.slot d) zc=true->zR ℓ0 zc=true) (hone:full=false->dK zs=true) (hℓ:∀ℓ0,ℓ=some ℓ0->Src S ℓ0):
  ∃x w' G',(Builtin.append_ ats ty #[vb,vy]).run P w = .ok x w'/\RV G' (.d (.l (full&&zs.isEmpty) (xs++zs))) x/\St1 w G S w' G' S (jC ℓ) SP/\fI w' G' (.slot d) zc x:=by
 obtain⟨i,hi,hbi⟩:=r9 hb;have his:i.size=sz:=by simp[bZ,hi]at hsz;exact hsz
 obtain⟨z,hzz⟩:∃z,fS P e=some z:=by cases h:fS P e with|none=>rw[h]at hz;simp at hz|some z=>exact⟨z,rfl⟩
 have hzl:z.length=sz:=by rw[hzz]at hz;simpa using hz
 obtain⟨i',zv,hi',hiz,hzr⟩:=gl (G:=G) hzz;rw[hi]at hi';injection hi' with hi';subst hi'
 have hzs:zv.cells.size=sz:=by have:=dJ.length hzr;simp at this;omega
 obtain⟨l,hl1,hl2,hl3,hzsz⟩:=wO (P:=P) hI hyv ht hh;have hbv0:=hbv;simp only[RV,RD]at hbv;obtain⟨a,n,c,sz',rfl,hn,hnc,hf,hs,hr⟩:=hbv;have hxsz:=nM hx hs;by_cases hle:n+zs.length<=c
 ·-- there is room
  have hleft:zs=[]->(∃a' n',Value.slice a n c = .slice a' n' n'/\(1000000<=zc->n'=0))->∃x w' G',(Builtin.append_ ats ty #[.slice a n c,vy]).run P w = .ok x w'/\RV G' (.d (.l (full&&zs.isEmpty) (xs++zs))) x/\St1 w G S w' G' S (jC ℓ) SP/\fI w' G' (.slot d) zc x:=by
   intro hzn hful;subst hzn;have hln:l=[]:=by have:=dI.length hl3;simpa using this
   subst hln;refine⟨.slice a n c,w,G,?_,by simpa using hbv0,⟨hI,Ext.refl _ _ _,λ _ _ _ _ h=>h,λ _ _ _ _ _=>rfl⟩,.inl hful⟩;exact mm h0 htl hu hi hl1 (by rw[his];exact hl2) hle (λ a' ha=>by simp[storeCells]) (λ _=>rfl)
  by_cases hfz:full=true/\(zc=sz\/xs=[])
  ·obtain⟨hfu,hzz⟩:=hfz;have:=hf hfu;have hzn:zs=[]:=List.length_eq_zero_iff.1 (by omega);exact hleft hzn ⟨a,n,by rw[this],λ h=>by
    rcases hzz with hzz|hzz
    ·omega
    ·rw[hn,hzz];rfl⟩
  ·have hfu:full=false\/zc≠sz/\xs≠[]:=by
    cases hx:full with
    |false=>exact .inl rfl
    |true=>exact .inr ⟨λ e=>hfz ⟨hx,.inl e⟩,λ e=>hfz ⟨hx,.inr e⟩⟩
   obtain⟨ℓ0,rfl,htok⟩:=hfull hfu;rcases htok with⟨a',n',e,hn0⟩|⟨blk,ho,htl'⟩
   ·injection e with e1 e2 e3
    exact hleft (List.length_eq_zero_iff.1 (by omega)) ⟨a,n,by rw[e3,e2],λ h=>by rw[e2];exact hn0 h⟩
   ·obtain⟨off,n',c',cs,el,fz,e,hgo,g1,g2,g0,g4,g3⟩:=htl';rw[hzc]at g2 g3;injection e with e1 e2 e3;subst e1;subst e2;subst e3
    have hxr:bL G.F blk off xs:=by
     by_cases hxn:xs=[]
     ·subst hxn;simp only[bL]
     ·obtain⟨blk',off',e,hel⟩:=hr hxn;injection e with e;injection e with e1 e2;subst e1;subst e2;exact hel
    obtain⟨w',G',p1,p2,p3,p4⟩:=HB (P:=P) (SP:=SP) (d:=d) hI (hℓ _ rfl) ho hgo hle g2 hzc g0 ⟨g4.1,λ h=>g4.2 (hth _ rfl h)⟩ g3 hn.symm rfl hxsz hzsz hxr hl3 (λ v hv=>by
     cases hx:full with
     |false=>exact LY (hone hx) hl3 v hv
     |true=>
      have:=hf hx;have hzn:zs=[]:=List.length_eq_zero_iff.1 (by omega);subst hzn;have hln:l=[]:=by have:=dI.length hl3;simpa using this
      subst hln;cases hv)
    refine⟨_,w',G',mm h0 htl hu hi hl1 (by rw[his];exact hl2) hle (λ a' ha=>by injection ha with ha;subst ha;rw[his];exact p1) (by simp),?_,p2,p4⟩
    cases hx:full with
    |false=>simp only[Bool.false_and,RV];exact p3
    |true=>
     have:=hf hx;have hzn:zs=[]:=List.length_eq_zero_iff.1 (by omega);subst hzn;have h1:=RV.mono p2.ext.le _ _ hbv0;rw[hx]at h1;simpa using h1
 ·-- a new row
  obtain⟨l',_,hl2',hl3',_⟩:=wO (P:=P) hI.drew hyv ht hh;have hbv1:RV G (.d (.l full xs)) (.slice a n c):=hbv0;obtain⟨a2,c2,e2,_,_,lo,ho1,ho2,ho3⟩:=wR (P:=P) (S:=S) (sz:=sz) (xs:=xs) hI.drew hbv1 rfl hx;injection e2 with e2a e2b e2c;subst e2a;subst e2c
  have hgl:grownCap w (n+zs.length) c e ≥ n+zs.length:=grownCap_ge w _ _ e;have hrun:=pA (w:=w) h0 htl hu hi hiz hl1 (by rw[his];exact hl2') (olds:=lo.toArray) (by rw[his];rw[<-hn]at ho2;exact ho2) hle (by omega) hbi (ty:=ty);have hlo:lo.length=n*sz:=by rw[ho1,hn]
  have hll:l'.length=zs.length*sz:=by rw[dI.length hl3',gW hzsz]
  generalize hcap:grownCap w (n+zs.length) c e=cap at hrun hgl;have hasz:(lo.toArray++l'.toArray++Builtin.zeroCells zv.cells (cap-(n+zs.length))).size=cap*sz:=by simp only[Array.size_append,List.size_toArray,size_zeroCells,hlo,hll,hzs];rw[<-Nat.add_mul,<-Nat.add_mul];congr 1;omega
  have hlx:(xs++zs).length=n+zs.length:=by simp[hn]
  have hst:=(St1.drew (SP:=SP) hI).trans (xR hI.drew (lo.toArray++l'.toArray++Builtin.zeroCells zv.cells (cap-(n+zs.length))) e (0,0) ((n+zs.length)*sz) (some (.slot d)) (λ x hx=>by injection hx with hx;exact⟨d,hx.symm⟩)) (.inl rfl);have hRD:=xQ (w:=w.drew) (arr:=lo.toArray++l'.toArray++Builtin.zeroCells zv.cells (cap-(n+zs.length))) (n:=(n+zs.length)*sz) (c:=cap) (ℓ:=some (.slot d)) (full:=full&&zs.isEmpty) hI.drew (hxsz.append hzsz) (l:=lo++l')
   (by rw[List.flatMap_append];exact dI.append ho3 hl3') (λ j v hj=>by
    rw[Array.getElem?_append_left (by have:=(List.getElem?_eq_some_iff.1 hj).1;simpa using this)]
    simpa using hj) (by rw[hlx];exact Nat.le_refl _) (by rw[hlx];exact hgl) (by
    intro hff;simp at hff;have:=hf hff.1;have hz0:=hff.2;subst hz0
    simp at hle;omega)
  rw[hlx]at hRD;refine⟨_,_,_,hrun,by simp only[RV];exact hRD,⟨hst.inv,hst.ext,λ q' sz v _ h=>hst.tok q' sz v (by simp) h,hst.sp⟩,?_⟩;exact AN (w:=w.drew) hzc hte hgl (by rw[hasz];exact Nat.le_refl _) rfl
end
section
variable {P : Program} {w : World} {G : Sg} {S : List Ob} {SP : Nat → Nat → Prop}
theorem GO(hI:Inv w G S){ats:Array TypeId}{t ty e:TypeId}{base y:V}{vb vy:Value}{r:Out}(h0:ats[0]?=some t)(htl:wU P ats)(hu:P.underlying t=some (.slice e))(hsz:bZ P e=some 1)(hz:(fS P e).map (·.length)=some 1)
  (hbv:RV G base vb) (hyv:RV G y vy) (h:jW S (((P.info? e).map (·.bytes)).getD 5000) base y=some r):
  ∃x w' G',(Builtin.append_ ats ty #[vb,vy]).run P w = .ok x w'/\RV G' r.1 x/\St1 w G S w' G' r.2 none SP:=by
 unfold jW at h;split at h;rotate_left
 ·simp at h
 split at h;rotate_left
 ·simp at h
 rename_i zs ht;split at h;rotate_left
 ·simp at h
 rename_i hc;obtain⟨hh,hone,hb,hlen⟩:=hc;injection h with h;subst h
 obtain⟨i,hi,hbi⟩:=r9 hb;have his:i.size=1:=by simp[bZ,hi]at hsz;exact hsz
 obtain⟨z,hzz⟩:∃z,fS P e=some z:=by cases h:fS P e with|none=>rw[h]at hz;simp at hz|some z=>exact⟨z,rfl⟩
 obtain⟨i',zv,hi',hiz,hzr⟩:=gl (G:=G) hzz;rw[hi]at hi';injection hi' with hi';subst hi'
 obtain⟨l,hl1,hl2,hl3,hzsz⟩:=wO (P:=P) hI hyv ht hh;simp only[RV,RD]at hbv;obtain⟨a,n,c,sz',rfl,hn,hnc,hf,hs,hr⟩:=hbv;have hn0:n=0:=by simpa using hn
 have hc0:c=0:=by have:=hf trivial;omega
 subst hn0;subst hc0;by_cases hm:zs=[]
 ·subst hm;have hln:l=[]:=by have:=dI.length hl3;simpa using this
  subst hln;refine⟨.slice a 0 0,w,G,mm h0 htl hu hi hl1 (by rw[his];exact hl2) (by simp) (λ a' ha=>by simp[storeCells]) (λ _=>rfl),?_,⟨hI.phantom _ (by intro cs fl e;injection e with e _;subst e;rfl),Ext.phantom _,λ _ _ _ _ h=>h,λ _ _ _ _ _=>rfl⟩⟩;simp only[RV];exact⟨a,0,rfl,by simp,by simp⟩
 ·have hml:0<zs.length:=List.length_pos_iff.2 hm;obtain⟨l',_,hl2',hl3',_⟩:=wO (P:=P) hI.drew hyv ht hh;have hfo:(Builtin.firstCells i.size 0 (.slice a 0 0)).run P w.drew = .ok #[] w.drew:=by cases a<;>simp[Builtin.firstCells,loadCells,loadCellsFrom]
  have hrun:=pA (w:=w) (ty:=ty) h0 htl hu hi hiz hl1 (by rw[his];exact hl2') hfo (by omega) (by omega) hbi;have hgl:grownCap w (0+zs.length) 0 e ≥ 0+zs.length:=grownCap_ge w _ _ e;generalize hcap:grownCap w (0+zs.length) 0 e=cap at hrun hgl;have hfl:zs.flatMap D.cells=zs:=by
   have:∀ys:List D,(ys.map V.d).all V.one=true->ys.flatMap D.cells=ys:=by
    intro ys hy
    induction ys with
    |nil=>rfl
    |cons y ys ih=>
     simp at hy;rw[List.flatMap_cons,ih (by simpa using hy.2)];cases y<;>first|rfl|simp[V.one]at hy
   exact this zs hone
  rw[hfl]at hl3';have hll:=dI.length hl3';obtain⟨h1,h2⟩:=mH hI.drew (el:=e) (cs:=zs.map .d) (fl:=[]) (arr:=#[]++l'.toArray++Builtin.zeroCells zv.cells (cap-(0+zs.length))) (SP:=SP) (by
   rw[rX];simp[hll,List.take_append_of_le_length]
   exact hl3') hone (by simp[hll]) (t:=none) (by simp[lO]) (λ _ e=>by cases e) (jA _ _) (0,0) (.inl rfl)
  rw[Nat.zero_add]at hrun hgl;refine⟨_,_,_,hrun,?_,(St1.drew hI).trans (by simpa using h1) (.inl rfl)⟩;simp only[RV];exact⟨_,_,rfl,hgl,λ _=>⟨_,h2,rfl⟩⟩
theorem KN(hI:Inv w G S){t e:TypeId}{len:Nat}{parts:Array (Nat×Operand)}{vals:List V}{a:Act}{xs:List D}(hf:Fr G vals a)(hu:P.underlying t=some (.slice e))(hsz:bZ P e=some 1)
  (hz:(fS P e).isSome=true) (hlen:parts.size=len) (hle:len*1<=16777216) (h:jv 1 0 (parts.toList.map λ p=>(p.1,ev vals p.2))=some xs) (hone:(xs.map V.d).all V.one=true):
  ∃x w' G',(Instr.buildSlice t len (parts.map λ (i,x)=>(i,a.eval x))).run P w = .ok x w'/\RV G' (.m S.length 0 xs.length) x/\St1 w G S w' G' (.cells (xs.map .d) []::S) none SP:=by
 obtain⟨B,h1,h5,h6,h7,h3⟩:=oM (w:=w) hf hu hsz hz hlen hle h;have hfl:xs.flatMap D.cells=xs:=by
  have:∀ys:List D,(ys.map V.d).all V.one=true->ys.flatMap D.cells=ys:=by
   intro ys hy
   induction ys with
   |nil=>rfl
   |cons y ys ih=>
    simp at hy;rw[List.flatMap_cons,ih (by simpa using hy.2)];cases y<;>first|rfl|simp[V.one]at hy
  exact this xs hone
 rw[hfl]at h5;have hl:=dI.length h5;obtain⟨g1,g2⟩:=mH hI (el:=e) (cs:=xs.map .d) (fl:=[]) (arr:=B) (SP:=SP) (by
  rw[rX,List.take_of_length_le (by simp;simp at hl;omega)]
  exact h5) hone (by simp;simp at hl;omega) (t:=none) (by simp[lO]) (λ _ e=>by cases e) (jA _ _) (0,0) (.inl rfl)
 refine⟨_,_,_,h1,?_,g1⟩;simp only[RV];exact⟨_,_,by rw[h7],by omega,λ _=>⟨_,g2,rfl⟩⟩
theorem qe{fl:Fl}{t z:Nat}(h:tok fl t=some z):(t,z)∈fl:=by
 unfold tok at h;obtain⟨x,hx,rfl⟩:=Option.map_eq_some_iff.1 h;have h1:=List.find?_some hx;have h2:=List.mem_of_find?_eq_some hx;have:x.1=t:=by simpa using h1
 subst this;exact h2
theorem PV(hI:Inv w G S){id off z:Nat}{S':List Ob}(h:qJ S (.p id off)=some (z,S')){b:Nat}(ho:G.own b=some (.obj id)){v:Value}(hv:w.cell? ⟨b,off,none⟩=some v):
  Inv w G S'/\Ext w G S w G S'/\(z≠2000000->fI w G (.cell id off) z v)/\Src S' (.cell id off):=by
 unfold qJ at h;simp only at h;split at h;rotate_left
 ·simp at h
 rename_i cs fl hob;split at h;rotate_left
 ·simp at h
 rename_i sz htok;injection h with h;injection h with h1 h2;subst h1;subst h2
 obtain⟨hFb,o',go,hs',hgo,hor⟩:=hI.ob _ _ ho;rw[hob]at hs';injection hs' with hs';subst hs'
 cases go<;>simp only[gI]at hor;rename_i arr el fz;obtain⟨hlen,hcells,hflags⟩:=hor;have hlt:=du hob;refine⟨⟨hI.fz,λ b' id' h'=>?_,hI.inj,hI.tk,λ b' id' o' h'=>by rw[dw];exact hI.cl _ _ _ h',λ id' cs' fl' h'=>?_,hI.tb⟩,⟨rfl,rfl,rfl,Nat.le_refl _,λ _ _ _ h=>h,λ _ _ h=>h,λ _ _ _=>⟨rfl,rfl,λ _=>rfl⟩,λ _ _ h _=>h,λ id' _ hn=>bV (λ e=>hn b (e▸ho)),by rw[dw];exact Nat.le_refl _⟩,?_,?_⟩
 ·obtain⟨h1,o1,go1,h2,h3,h4⟩:=hI.ob _ _ h';by_cases e:id'=id
  ·subst e;have:=hI.inj _ _ _ h' ho;subst this;rw[hgo]at h3;injection h3 with h3;subst h3
   rw[hob]at h2;injection h2 with h2;subst h2
   refine⟨h1,_,_,cz hlt,hgo,?_⟩;simp only[gI];exact⟨hlen,hcells,λ o1 z1 hm=>hflags o1 z1 (fj.1 hm).1⟩
  ·exact⟨h1,o1,go1,by rw[bV e];exact h2,h3,h4⟩
 ·by_cases e:id'=id
  ·subst e;rw[cz hlt]at h';injection h' with h';injection h' with h1 h2;subst h1;exact hI.rf _ _ _ hob
  ·rw[bV e]at h';exact hI.rf _ _ _ h'
 ·intro hz;have hF:=hflags _ _ (qe htok);unfold mr at hF;rw[if_neg hz]at hF;obtain⟨u,hu,ht⟩:=hF;have:w.cell? ⟨b,off,none⟩=arr[off]?:=by simp[World.cell?,hgo]
  rw[hv,hu]at this;injection this with this;subst this
  exact ht
 ·refine .inr ⟨id,off,rfl,λ cs' fl' z' h'=>?_⟩;rw[cz hlt]at h';injection h' with h';injection h' with h1 h2;subst h2
  intro hm;exact(fj.1 hm).2 rfl
theorem Md(hI:Inv w G S)(t d:Nat):St1 w G S w ⟨G.F,lf G.own (.slot t) (.slot d)⟩ S (some t) SP/\(∀sz v,fI w G (.slot t) sz v->fI w ⟨G.F,lf G.own (.slot t) (.slot d)⟩ (.slot d) sz v):=by
 have hobj:∀b id,lf G.own (.slot t) (.slot d) b=some (.obj id)->G.own b=some (.obj id):=by
  intro b id h;rcases jd h with⟨e,_⟩|h
  ·cases e
  ·exact h
 have hle:Le G ⟨G.F,lf G.own (.slot t) (.slot d)⟩:=⟨λ _ _ _ h=>h,λ b id h=>fL h (by simp)⟩
 refine⟨⟨⟨hI.fz,λ b id h=>?_,λ b b' id h h'=>hI.inj _ _ _ (hobj _ _ h) (hobj _ _ h'),λ b ℓ h=>?_,λ b id o h=>?_,hI.rf,hI.tb_of λ c _ h0=>⟨rfl,nW h0⟩⟩,⟨rfl,rfl,rfl,Nat.le_refl _,λ _ _ _ h=>h,hle.obj,λ b _ h=>⟨?_,rfl,λ _=>rfl⟩,λ b id h _=>hobj _ _ h,λ _ _ _=>rfl,Nat.le_refl _⟩,λ q' sz v hq h=>?_,λ _ _ _ _ _=>rfl⟩,λ sz v h=>?_⟩
 ·obtain⟨h1,o,go,h2,h3,h4⟩:=hI.ob _ _ (hobj _ _ h);exact⟨h1,o,go,h2,h3,h4.same hle λ off blk hk=>⟨fL hk (by simp),rfl,λ _=>rfl⟩⟩
 ·rcases jd h with⟨_,h⟩|h<;>exact hI.tk _ _ h
 ·rcases jd h with⟨e,_⟩|h
  ·cases e
  ·exact hI.cl _ _ _ h
 ·rcases h with h|h
  ·rw[h];exact nW h
  ·rw[h];exact fL h (by simp)
 ·exact h.same λ blk hb=>⟨fL hb (by intro e;injection e with e;exact hq (by rw[e])),rfl,λ _=>rfl⟩
 ·rcases h with h|⟨blk,ho,ht⟩
  ·exact .inl h
  ·exact .inr ⟨blk,rJ ho,ht⟩
end
def iD(w:World)(G:Sg)(a:Act)(fl:Fl):Prop:=∀q z,(q,z)∈fl->a.tmps.getD q undef=undef\/fI w G (.slot q) z (a.tmps.getD q undef)
theorem yv(a:Act)(d:Nat)(x:Value)(q:Nat):(a.put (some d) x).tmps.getD q undef=if q=d then(if d<a.tmps.size then x else undef)else a.tmps.getD q undef:=by
 simp only[Act.put,Array.getD_eq_getD_getElem?,Array.getElem?_setIfInBounds];by_cases e:d=q
 ·subst e;by_cases h:d<a.tmps.size
  ·simp[h]
  ·simp[h,Array.getElem?_eq_none (Nat.le_of_not_lt h)]
 ·rw[if_neg e,if_neg (Ne.symm e)]
theorem OV(a:Act)(x:Value):a.put none x=a:=rfl
theorem iD.put{w w':World}{G G':Sg}{a:Act}{fl:Fl}{dst:Option Nat}{x:Value}{q:Option Nat}(h:iD w G a fl)(ht:∀q' sz v,some q'≠q->fI w G (.slot q') sz v->fI w' G' (.slot q') sz v)(hq:∀y z,q=some y->(y,z)∉fl):
  iD w' G' (a.put dst x) (match dst with|some d=>et fl d|none=>fl):=by
 intro q' z hm;have hm':(q',z)∈fl/\(a.put dst x).tmps.getD q' undef=a.tmps.getD q' undef:=by
  cases dst with
  |none=>exact⟨hm,rfl⟩
  |some d=>
   obtain⟨h1,h2⟩:=fj.1 hm;exact⟨h1,by rw[yv,if_neg h2]⟩
 rw[hm'.2];rcases h q' z hm'.1 with h|h
 ·exact .inl h
 ·exact .inr (ht _ _ _ (λ e=>hq q' z e.symm hm'.1) h)
theorem iD.add{w:World}{G:Sg}{a:Act}{fl:Fl}{d:Nat}{x:Value}{z:Nat}(h:iD w G (a.put (some d) x) fl)(ht:x=undef\/fI w G (.slot d) z x):iD w G (a.put (some d) x) ((d,z)::fl):=by
 intro q' z' hm;rcases List.mem_cons.1 hm with e|hm
 ·injection e with e1 e2;subst e1;subst e2
  rw[yv,if_pos rfl];split
  ·exact ht
  ·exact .inl rfl
 ·exact h q' z' hm
theorem iD.sub{w:World}{G:Sg}{a:Act}{fl fl':Fl}(h:iD w G a fl)(hs:∀x∈fl',x∈fl):iD w G a fl':=λ q z hm=>h q z (hs _ hm)
theorem jR{fl:Fl}{t:Nat}:∀x∈et fl t,x∈fl:=λ x h=>(fj (o:=x.1) (z:=x.2)).1 h |>.1
theorem qX{fl:Fl}{t z:Nat}:(t,z)∉et fl t:=λ h=>(fj.1 h).2 rfl
theorem qW{fl:Fl}{s t:Nat}:∀x∈et (et fl s) t,x∈et (et fl t) s:=by intro x h;obtain⟨h1,h2⟩:=(fj (o:=x.1) (z:=x.2)).1 h;obtain⟨h3,h4⟩:=fj.1 h1;exact fj.2 ⟨fj.2 ⟨h3,h2⟩,h4⟩
section
variable {P : Program} {aF : Pol} {w : World} {G : Sg} {S : List Ob}
structure Eff (P:Program) (aF:Pol) (w:World) (G:Sg) (S:List Ob) (a:Act) (k r i:Nat) (ops:List Oper) (vals:List V) (fl:Fl) (o:Oper) (v:V) (S':List Ob) (x:Value) (w':World) (G':Sg):Prop where
 run:(execOp a.eval o).run P w = .ok (.value x) w'\/(execOp a.eval o).run P w = .ok .skip w'/\x=undef
 rv:RV G' v x
 inv:Inv w' G' S'
 ext:Ext w G S w' G' S'
 tok:iD w' G' (a.put o.dst x) (cg P aF k r i ops fl o)
 sp:∀id off,dG P vals id off 1 o=true->∀b,G.own b=some (.obj id)->w'.cell? ⟨b,off,none⟩=w.cell? ⟨b,off,none⟩
structure NoTok (o:Oper):Prop where
 h1:∀x,o.op ≠ .assign x
 h2:∀t a x,o.op ≠ .store t a x
 h3:∀t n c,o.op ≠ .makeSlice t n c
 h4:∀c,o.op = .call c->c.callee ≠ .builtin .append
theorem j5{k r i:Nat}{ops:List Oper}{fl:Fl}{o:Oper}(h:NoTok o):cg P aF k r i ops fl o=(match o.dst with|some d=>et fl d|none=>fl):=by
 unfold cg;simp only;split
 ·rfl
 ·split
  ·rename_i e _;exact absurd e (h.h1 _)
  ·rename_i e _;exact absurd e (h.h1 _)
  ·rename_i e;exact absurd e (h.h2 _ _ _)
  ·rename_i e _;exact absurd e (h.h3 _ _ _)
  ·rename_i e _;split
   ·rename_i e2;exact absurd e2 (h.h4 _ e)
   ·rfl
  ·rfl
theorem Eff.mk'{a:Act}{k r i:Nat}{ops:List Oper}{vals:List V}{fl:Fl}{o:Oper}{v:V}{S':List Ob}{x:Value}{w':World}{G':Sg}(htk:iD w G a fl)(h:NoTok o)
  (hrun:(execOp a.eval o).run P w = .ok (.value x) w'\/(execOp a.eval o).run P w = .ok .skip w'/\x=undef) (hrv:RV G' v x) (hst:St1 w G S w' G' S' none λ id off=>dG P vals id off 1 o=true):
  Eff P aF w G S a k r i ops vals fl o v S' x w' G':=
 ⟨hrun,hrv,hst.inv,hst.ext,by rw[j5 h];exact htk.put hst.tok (by simp),hst.sp⟩
def MY(aF:Pol)(w:World)(G:Sg)(a:Act)(vals:List V)(ops:List Oper)(o:Oper)(k r i:Nat):Prop:=
 ∀c x,o.op = .call c->c.callee = .builtin .append->c.args.toList.head?=some x->
  (aF.app k r i=2->∀q,oL ops x=some q->a.eval x=undef\/a.eval x=a.tmps.getD q undef)/\
  (aF.app k r i=3->∀q id off,kR ops x=some q->vals.getD q .u = .p id off->a.eval x=undef\/∃b,G.own b=some (.obj id)/\w.cell? ⟨b,off,none⟩=some (a.eval x))
theorem Gk{c:Call}(h:Kk P c=true):wU P c.argTypes:=by
 intro u hu;unfold Kk at h;rw[hu]at h;simp only at h;split at h
 ·rename_i e he;exact⟨_,he,by simp⟩
 ·rename_i he;exact⟨_,he,by simp⟩
 ·simp at h
theorem pI{t e:TypeId}(h:lp P t=some e):P.underlying t=some (.slice e):=by unfold lp at h;split at h<;>simp_all
theorem qM{G:Sg}{full:Bool}{xs:List D}{v:Value}(h:RV G (.d (.l full xs)) v):v≠undef:=by simp only[RV,RD]at h;obtain⟨_,_,_,_,rfl,_⟩:=h;simp[undef]
theorem CO{G:Sg}{x:V}{v:Value}(h:RV G x v)(h1:x.one=true):v≠undef:=by have:=RV.one' h h1;intro e;subst e;simp[undef,Value.oneCell']at this
theorem IZ{a:V}{z:Nat}{S1:List Ob}(h:qJ S a=some (z,S1))(sz:Nat)(y:V):view S sz y=view S1 sz y:=by
 unfold qJ at h;split at h;rotate_left
 ·simp at h
 split at h;rotate_left
 ·simp at h
 rename_i id off _ cs fl hob;split at h;rotate_left
 ·simp at h
 injection h with h;injection h with _ h;subst h
 rename_i off0 _ _ _ _ _
 cases y with
 |m id' off' len'=>
  simp only[view];by_cases e:id'=id
  ·subst e;rw[cz (du hob),hob]
  ·rw[bV e]
 |d x=>cases x<;>rfl
 |_=>rfl
theorem sN{a:V}{z:Nat}{S1:List Ob}(h:qJ S a=some (z,S1)){sz:Nat}{y:V}:dn S sz y=dn S1 sz y:=by
 unfold dn;split
 ·rfl
 ·exact IZ h sz _
theorem G7{f:Task->Option Out}{k r i:Nat}{ops:List Oper}{vals:List V}{fl:Fl}{a:Act}{o:Oper}{c:Call}{v:V}{S':List Ob}(hI:Inv w G S)(hf:Fr G vals a)(htk:iD w G a fl)(hgd:lP aF k r i o=true)(hsteal:MY aF w G a vals ops o k r i)
    (hop:o.op = .call c) (hcal:c.callee = .builtin .append) (h:aC f (fP P aF k r i ops vals fl S o)=some (v,S')):∃x w' G',Eff P aF w G S a k r i ops vals fl o v S' x w' G':=by
  unfold fP at h;simp only[hop,hcal]at h;split at h;rotate_left
  · simp[aC]at h
  rename_i x y t hargs ht;simp only[aX,Option.bind_eq_some_iff,bI]at h;obtain⟨e,he,sz,hsz,bx,hbx,vy,hvy,h⟩:=h;split at h;rotate_left
  · simp at h
  rename_i hc;simp only[Bool.and_eq_true,decide_eq_true_eq]at hc;obtain⟨⟨⟨htl,hz⟩,hds⟩,hsm⟩:=hc;obtain⟨d,hd⟩:=Option.isSome_iff_exists.1 hds;have hu:=pI he;have hxr:=cT hf hbx;have hyr:=cT hf hvy;have hrun:∀{z:Value} {w':World},(Builtin.append_ c.argTypes o.type #[a.eval x,a.eval y]).run P w = .ok z w'->(execOp a.eval o).run P w = .ok (.value z) w':=by
    intro z w' h;have ha:c.args.map a.eval=#[a.eval x,a.eval y]:=by apply Array.ext';rw[Array.toList_map,hargs];rfl
    simp[execOp,hop,resolve,hcal,invoke,builtin,ha,h]
  have hst:=hsteal c x hop hcal (by rw[hargs];rfl)
  have gen:∀(full0:Bool) (S1:List Ob) (ℓ:Option Loc) (hI1:Inv w G S1) (hE1:Ext w G S w G S1) (fr:Bool) (zc:Nat),zc%1000000=sz->(∀t,wc zc=some t->e=t)->(fr=true->zc=sz\/∃fu,bx = .d (.l fu []))->(∀ℓ0,ℓ=some ℓ0->∀d,zR (.slot d) zc=true->zR ℓ0 zc=true)->hG S1 sz (((P.info? e).map (·.bytes)).getD 5000) fr bx vy=some v->dn S sz vy=dn S1 sz vy->
      (fr=false->∃ℓ0,ℓ=some ℓ0/\fI w G ℓ0 zc (a.eval x))->(∀ℓ0,ℓ=some ℓ0->Src S1 ℓ0)->(∀q,jC ℓ=some q->∃d z,o.dst=some d/\tok fl q=some z/\True)->S'=S1->
      (cg P aF k r i ops fl o=(match o.dst with|some d=>(match jC ℓ with|some q=>(d,zc)::et (et fl d) q|none=>(d,zc)::et fl d)|none=>fl))->∃x w' G',Eff P aF w G S a k r i ops vals fl o v S' x w' G':=by
    intro full0 S1 ℓ hI1 hE1 fr zc hzc hte hz0 hth ha hta htok hsrc hq hS' hfl;unfold hG at ha;split at ha;rotate_left
    · simp at ha
    rename_i full xs;split at ha;rotate_left
    · simp at ha
    rename_i zs hzs;split at ha;rotate_left
    · simp at ha
    rename_i hcond;obtain⟨g1,g2,g3,g4,g5,g6⟩:=hcond;injection ha with ha
    obtain⟨x',w',G',p1,p2,p3,p4⟩:=KI (P:=P) (SP:=λ id off=>dG P vals id off 1 o=true) (ty:=o.type) (d:=o.dst.getD 0) hI1 hsm hzc hte ht (Gk htl) hu hsz hz g5 hxr hyr hzs g2 g3 g6 (ℓ:=ℓ) (λ hff=>by
      cases fr with
      | true => rcases hff with hff | hff
                · rw[g1 rfl]at hff;cases hff
                · rcases hz0 rfl with e | ⟨fu, e⟩
                  · exact absurd e hff.1
                  · injection e with e;injection e with _ e;exact absurd e hff.2
      |false=>exact htok rfl) (λ ℓ0 e=>hth ℓ0 e _) g4 hsrc
    refine⟨x',w',G',.inl (hrun p1),by rw[<-ha];exact p2,by rw[hS'];exact p3.inv,by rw[hS'];exact hE1.trans p3.ext,?_,p3.sp⟩;rw[hfl]
    cases hd:o.dst with
    |none=>
      simp only;have:jC ℓ=none:=by
        cases hsl:jC ℓ with
        |none=>rfl
        |some q=>obtain⟨d,z,h1,_⟩:=hq q hsl;rw[hd]at h1;cases h1
      have:=htk.put (dst:=none) (x:=x') p3.tok (by rw[this];simp);exact this
    |some d=>
      rw[hd]at p4;simp only[Option.getD_some]at p4;simp only
      cases hsl:jC ℓ with
      |none=>
        rw[hsl]at p3;exact(htk.put (dst:=some d) (x:=x') p3.tok (by simp)).add (.inr p4)
      |some q=>
        rw[hsl]at p3;have h1:iD w G a (et fl q):=htk.sub jR;exact((h1.put (dst:=some d) (x:=x') p3.tok (by intro y z e;injection e with e;subst e;exact qX)).sub qW).add (.inr p4)
  have hgn:aF.app k r i≠1->o.guard=none:=by
    intro hne;unfold lP at hgd
    cases hg:o.guard with
    |none=>rfl
    |some g=>
      rw[hg]at hgd;simp only[hop,hcal]at hgd;exact absurd (by simpa using hgd) hne
  have hts:∀{t:Nat},zS (aF.mh k r i)=some t->uO (aF.mh k r i) sz=sz+3000000+4000000*t:=λ h=>by unfold uO;rw[h]
  have hts0:zS (aF.mh k r i)=none->uO (aF.mh k r i) sz=sz:=λ h=>by unfold uO;rw[h]
  have htsz:uO (aF.mh k r i) sz%1000000=sz:=by
    cases ht0:zS (aF.mh k r i) with
    |none=>rw[hts0 ht0];omega
    |some t=>rw[hts ht0];omega
  have htst:(∀t,zS (aF.mh k r i)=some t->e=t)->∀t,wc (uO (aF.mh k r i) sz)=some t->e=t:=by
    intro h1 t h
    cases ht0:zS (aF.mh k r i) with
    |none=>rw[hts0 ht0]at h;simp only[wc]at h;rw[if_neg (by omega)]at h;cases h
    |some t1=>
      rw[hts ht0]at h;simp only[wc]at h;rw[if_pos (by omega)]at h;injection h with h
      have h2:=h1 t1 ht0;clear htsz hts hts0;have h3:t1=t:=by omega
      exact h2.trans h3
  split at h
  · rename_i happ
    simp only[bI]at h;split at h;rotate_left
    · simp at h
    rename_i htb;simp only[aX,Option.bind_eq_some_iff,aC,Option.some.injEq,Prod.mk.injEq]at h;obtain⟨v',hv',rfl,rfl⟩:=h;have htb':(∀t,zS (aF.mh k r i)=some t->e=t)/\(uO (aF.mh k r i) sz=sz\/∃fu,bx = .d (.l fu [])):=by
      unfold Xi at htb;split at htb
      · rename_i t ht0
        rw[Bool.and_eq_true]at htb;refine⟨λ t' e'=>by rw[ht0]at e';injection e' with e';subst e';simpa using htb.1,.inr ?_⟩;split at htb
        · exact⟨_,rfl⟩
        · simp at htb
      · rename_i ht0
        exact⟨λ t' e'=>by(rw[ht0]at e';cases e'),.inl (hts0 ht0)⟩
    refine gen true S none hI (Ext.refl _ _ _) true _ htsz (htst htb'.1) (λ _=>htb'.2) (λ _ e=>by cases e) hv' rfl (by simp) (by simp) (by simp[jC]) rfl ?_;unfold cg;simp only[hgn (by omega),hop,hcal,hargs,ht,Option.bind_some,he,hsz,happ,jC,hd];simp
  · rename_i happ
    simp only[bI,aX]at h;split at h;rotate_left
    · simp at h
    rename_i hs1;simp only[Option.bind_eq_some_iff,aC,Option.some.injEq]at h;obtain⟨r',hr',e'⟩:=h;have hsz1:sz=1:=by simpa using hs1
    subst hsz1;obtain⟨x',w',G',p1,p2,p3⟩:=GO (P:=P) (SP:=λ id off=>dG P vals id off 1 o=true) (ty:=o.type) hI ht (Gk htl) hu hsz hz hxr hyr hr';obtain⟨rfl,rfl⟩:=Prod.mk.inj e';refine⟨x',w',G',.inl (hrun p1),p2,p3.inv,p3.ext,?_,p3.sp⟩;have:cg P aF k r i ops fl o=(match o.dst with|some d=>et fl d|none=>fl):=by unfold cg;cases o.dst<;>simp[hop,hcal,hargs,ht,he,hsz,happ]
    rw[this];exact htk.put p3.tok (by simp)
  · rename_i happ
    simp only[bI,aX,Option.bind_eq_some_iff,aC]at h;obtain⟨q,hq,h⟩:=h;split at h;rotate_left
    · simp at h
    rename_i htq;simp only[Bool.and_eq_true,decide_eq_true_eq]at htq;obtain⟨htq,htt⟩:=htq;have htt':∀t,zS (aF.mh k r i)=some t->e=t:=by intro t ht0;unfold Xj at htt;rw[ht0]at htt;simpa using htt
    simp only[Option.bind_eq_some_iff,Option.some.injEq,Prod.mk.injEq]at h;obtain⟨v',hv',rfl,rfl⟩:=h;have hlist:∃full xs,bx = .d (.l full xs):=by
      unfold hG at hv';split at hv'
      · exact⟨_,_,rfl⟩
      · simp at hv'
    obtain⟨full,xs,rfl⟩:=hlist;have hval:=(hst.1 happ q hq).resolve_left (qM hxr)
    · refine gen true S (some (.slot q)) hI (Ext.refl _ _ _) false _ htsz (htst htt') (λ e => by cases e) (λ ℓ0 e d h => by injection e with e; subst e; exact h) hv' rfl (λ _ => ⟨_, rfl, ?_⟩) (λ ℓ0 e => by injection e with e; subst e; exact .inl ⟨_, rfl⟩) (λ q' hq' => by simp [jC] at hq'; subst hq'; exact ⟨d, _, hd, htq, trivial⟩) rfl ?_
      · rcases htk q _ (qe htq) with h' | h'
        · rw[<-hval]at h';exact absurd h' (qM hxr)
        · rw[hval];exact h'
      · unfold cg
        simp only[hgn (by omega),hop,hcal,hargs,ht,Option.bind_some,he,hsz,happ,jC,hd,hq];simp
  · rename_i happ
    simp only[bI,aX,Option.bind_eq_some_iff,aC]at h;obtain⟨q,hq,⟨z,S1⟩,hun,h⟩:=h;split at h;rotate_left
    · simp at h
    rename_i hzs;simp only[Bool.and_eq_true,decide_eq_true_eq]at hzs;obtain⟨hzs,hst1⟩:=hzs;have hz4:z%4000000<3000000:=by unfold PI at hzs;split at hzs<;>omega
    have hzall:z%1000000=sz/\z≠2000000/\∀t,wc z=some t->e=t:=by
      unfold Xh at hst1;unfold PI at hzs;split at hzs
      · rename_i t0 ht0
        refine⟨by omega,by omega,λ t h=>?_⟩;rw[ht0]at hst1;have:e=t0:=by simpa using hst1
        simp only[wc]at h;rw[if_pos (by omega)]at h;injection h with h
        have h2:t0=t:=by omega
        exact this.trans h2
      · exact⟨by omega,by omega,λ t h=>by simp only[wc]at h;rw[if_neg (by omega)]at h;cases h⟩
    simp only[Option.bind_eq_some_iff,Option.some.injEq,Prod.mk.injEq]at h;obtain⟨v',hv',rfl,rfl⟩:=h;obtain⟨id,off,hva⟩:∃id off,vals.getD q .u = .p id off:=by
      unfold qJ at hun;split at hun
      · rename_i e;exact⟨_,_,e⟩
      · simp at hun
    have hlist:∃full xs,bx = .d (.l full xs):=by
      unfold hG at hv';split at hv'
      · exact⟨_,_,rfl⟩
      · simp at hv'
    obtain⟨full,xs,rfl⟩:=hlist;obtain⟨b,hb,hcell⟩:=(hst.2 happ q id off hq hva).resolve_left (qM hxr);rw[hva]at hun;obtain⟨q1,q2,q3,q4⟩:=PV hI hun hb hcell;refine gen true S1 (some (.cell id off)) q1 q2 false z hzall.1 hzall.2.2 (λ e=>by cases e) (λ ℓ0 e d h=>by simp only[zR,decide_eq_true_eq]at h;omega) (by unfold hG at hv' ⊢;rw[<-sN hun];exact hv') (sN hun) (λ _=>⟨_,rfl,q3 hzall.2.1⟩) (λ ℓ0 e=>by injection e with e;subst e;exact q4) (by simp[jC]) rfl ?_;unfold cg;simp only[hgn (by omega),hop,hcal,hargs,ht,Option.bind_some,he,hsz,happ,jC,hd];simp[hzs]
  · simp[aC]at h
theorem HV{agg:Bool}{n:Nat}{fl:Fl}{tk:Option Nat}{a v:V}{S':List Ob}{x:Value}(h:j7 S agg n fl tk a v=some S')(hv:RV G v x):x≠undef:=by
 unfold j7 at h;split at h;rotate_left
 ·simp at h
 split at h;rotate_left
 ·simp at h
 split at h
 ·split at h;rotate_left
  ·simp at h
  simp only[RV,RD]at hv;obtain⟨vs,rfl,_⟩:=hv;simp[undef]
 ·split at h;rotate_left
  ·simp at h
  rename_i hc;exact CO hv hc.1
theorem tj{vals:List V}{o:Oper}{t:TypeId}{ad x:Operand}{va:V}{sz:Nat}(hop:o.op = .store t ad x)(hva:ev vals ad=some va)(hsz:bZ P t=some sz){id off:Nat}(h:dG P vals id off 1 o=true):
  ∀id' off',va = .p id' off'->id≠id'\/off<off'\/off'+sz<=off:=by
 intro id' off' e;subst e;unfold dG at h;simp only[hop,hva,hsz]at h;simp at h;omega
def TU(o:Oper):Prop:=∀c f,o.op = .call c->c.callee ≠ .value f
theorem Tl{f:Task->Option Out}{k r i:Nat}{ops:List Oper}{vals:List V}{fl:Fl}{a:Act}{o:Oper}{v:V}{S':List Ob}(hI:Inv w G S)(hf:Fr G vals a)(htk:iD w G a fl)(hgd:lP aF k r i o=true)(hsteal:MY aF w G a vals ops o k r i)
  (hnc:TU o) (h:aC f (fP P aF k r i ops vals fl S o)=some (v,S')):∃x w' G',Eff P aF w G S a k r i ops vals fl o v S' x w' G':=by
 have h0:=h;unfold fP at h;split at h
 ·-- box
  rename_i t x hop;simp only[aX,Option.bind_eq_some_iff,aC,Option.some.injEq]at h;obtain⟨sz,hsz,vx,hvx,r',hr',e⟩:=h;obtain⟨rfl,rfl⟩:=Prod.mk.inj e;obtain⟨x',w',G',p1,p2,p3⟩:=S3 (P:=P) (t:=t) hI (cT hf hvx) hr';exact⟨x',w',G',.mk' htk ⟨by simp[hop],by simp[hop],by simp[hop],by simp[hop]⟩ (.inl (by simp[execOp,hop,p1])) p2 p3⟩
 ·-- store
  rename_i t ad x hop;simp only[aX,Option.bind_eq_some_iff,aC,Option.some.injEq,Prod.mk.injEq]at h;obtain⟨g,hg,sz,hsz,va,hva,vx,hvx,S1,hS1,rfl,rfl⟩:=h;have htk':∀y z,x = .tmp y->tok fl y=some z->fI w G (.slot y) z (a.eval x)\/a.eval x=undef:=by
   intro y z e h1;subst e;rcases htk y z (qe h1)with h|h
   ·exact .inr h
   ·exact .inl h
  have hne:=HV hS1 (cT hf hvx);by_cases hyes:∃y,x = .tmp y/\o.guard=none
  ·obtain⟨y,rfl,hgn⟩:=hyes;simp only[hgn]at hS1;obtain⟨w',G',p1,p2⟩:=Ga (P:=P) (w:=w) (G:=G) (q:=some y) hI hsz (cT hf hva) (cT hf hvx) (λ z hz=>⟨y,rfl,(htk' y z rfl hz).resolve_right hne⟩) hS1;refine⟨undef,w',G',.inr ⟨by simp[execOp,hop,p1],rfl⟩,by simp only[RV],p2.inv,p2.ext,?_,λ id off hs=>p2.sp id off (tj hop hva hsz hs)⟩;have h1:iD w G a (et fl y):=htk.sub jR;have h2:=h1.put (dst:=o.dst) (x:=undef) p2.tok (by intro y' z e;injection e with e;subst e;exact qX);unfold cg;simp only[hgn,hop]
   cases hd:o.dst with
   |none=>rw[hd]at h2;simpa using h2
   |some d=>rw[hd]at h2;exact h2.sub qW
  ·have htk0:∀z,(match x,o.guard with | .tmp y,none=>tok fl y|_,_=>none)≠some z:=by
    intro z hz;split at hz
    ·rename_i hgn;exact hyes ⟨_,rfl,hgn⟩
    ·cases hz
   obtain⟨w',G',p1,p2⟩:=Ga (P:=P) (w:=w) (G:=G) (q:=none) hI hsz (cT hf hva) (cT hf hvx) (λ z hz=>absurd hz (htk0 z)) hS1;refine⟨undef,w',G',.inr ⟨by simp[execOp,hop,p1],rfl⟩,by simp only[RV],p2.inv,p2.ext,?_,λ id off hs=>p2.sp id off (tj hop hva hsz hs)⟩;have h2:=htk.put (dst:=o.dst) (x:=undef) p2.tok (by simp);have:cg P aF k r i ops fl o=(match o.dst with|some d=>et fl d|none=>fl):=by
    unfold cg;simp only;split
    ·rfl
    ·rename_i hgs;have hgn:o.guard=none:=by cases hg:o.guard<;>simp[hg]at hgs⊢
     cases x with
     |tmp y=>exact absurd ⟨y,rfl,hgn⟩ hyes
     |_=>cases o.dst<;>simp[hop]
   rw[this];exact h2
 ·-- a map
  rename_i t n hop;split at h
  ·simp only[aC,Option.some.injEq]at h;obtain⟨rfl,rfl⟩:=Prod.mk.inj h;obtain⟨x',w',G',p1,p2,p3⟩:=HN (P:=P) (SP:=λ id off=>dG P vals id off 1 o=true) (t:=t) hI;exact⟨x',w',G',.mk' htk ⟨by simp[hop],by simp[hop],by simp[hop],by simp[hop]⟩ (.inl (by simp[execOp,hop,p1])) p2 p3⟩
  ·simp[aC]at h
 ·-- a make
  rename_i t n c hop;simp only[aX,Option.bind_eq_some_iff,bI]at h;obtain⟨e,he,z,hz,h⟩:=h;have hu:=pI he;split at h;rotate_left
  ·simp at h
  rename_i hc;simp only[Bool.and_eq_true,decide_eq_true_eq]at hc;split at h
  ·rename_i zd happ;simp only[aX,Option.bind_eq_some_iff,aC,Option.some.injEq,Prod.mk.injEq]at h;obtain⟨vn,hvn,vc,hvc,v',hv',rfl,rfl⟩:=h;obtain⟨x',w',G',p1,p2,p3,p4⟩:=Oh (P:=P) (SP:=λ id off=>dG P vals id off 1 o=true) (d:=o.dst.getD 0) hI hu hz hc.1 hc.2 (cT hf hvn) (cT hf hvc) hv';refine⟨x',w',G',.inl (by simp[execOp,hop,p1]),p2,p3.inv,p3.ext,?_,p3.sp⟩;have h2:=htk.put (dst:=o.dst) (x:=x') p3.tok (by simp);unfold cg;simp only;split
   ·exact h2
   ·cases hd:o.dst with
    |none=>rw[hd]at h2;simpa[hop]using h2
    |some d=>
     rw[hd]at h2 p4;simp only[hop,happ,if_true,he,Option.bind_some,hc.2];exact h2.add (.inr p4)
  ·rename_i zd happ;simp only[aX,Option.bind_eq_some_iff,aC,Option.some.injEq]at h;obtain⟨vn,hvn,vc,hvc,r',hr',e'⟩:=h;obtain⟨rfl,rfl⟩:=Prod.mk.inj e';obtain⟨x',w',G',p1,p2,p3⟩:=Oi (P:=P) (SP:=λ id off=>dG P vals id off 1 o=true) hI hu hz hc.1 hc.2 (cT hf hvn) (cT hf hvc) hr';refine⟨x',w',G',.inl (by simp[execOp,hop,p1]),p2,p3.inv,p3.ext,?_,p3.sp⟩;have h2:=htk.put (dst:=o.dst) (x:=x') p3.tok (by simp);have:cg P aF k r i ops fl o=(match o.dst with|some d=>et fl d|none=>fl):=by unfold cg;cases o.dst<;>simp[hop,happ]
   rw[this];exact h2
  ·simp[aC]at h
 ·-- a row of parts
  rename_i t len parts hop;simp only[aX,Option.bind_eq_some_iff,bI]at h;obtain⟨e,he,h⟩:=h;have hu:=pI he;split at h;rotate_left
  ·simp at h
  rename_i hc;simp only[decide_eq_true_eq]at hc;split at h
  ·simp only[aX,Option.bind_eq_some_iff,bI]at h;obtain⟨xs,hxs,h⟩:=h;split at h;rotate_left
   ·simp at h
   rename_i hone;simp only[aC,Option.some.injEq]at h;obtain⟨rfl,rfl⟩:=Prod.mk.inj h;obtain⟨x',w',G',p1,p2,p3⟩:=KN (P:=P) (SP:=λ id off=>dG P vals id off 1 o=true) hI hf hu hc.1 hc.2.2.2 hc.2.1 hc.2.2.1 hxs hone;exact⟨x',w',G',.mk' htk ⟨by simp[hop],by simp[hop],by simp[hop],by simp[hop]⟩ (.inl (by simp[execOp,hop,p1])) p2 p3⟩
  ·simp[aC]at h
 ·-- a text's runes
  rename_i t x hop;split at h
  ·rename_i hu;simp only[aX,Option.bind_eq_some_iff]at h;obtain⟨vx,hvx,h⟩:=h;split at h
   ·rename_i b;simp only[aC,Option.some.injEq]at h;obtain⟨rfl,rfl⟩:=Prod.mk.inj h;have hx:=cT hf hvx;simp only[RV,RD]at hx;obtain⟨x',w',G',p1,p2,p3⟩:=OY (P:=P) (SP:=λ id off=>dG P vals id off 1 o=true) (s:=b) hI hu;exact⟨x',w',G',.mk' htk ⟨by simp[hop],by simp[hop],by simp[hop],by simp[hop]⟩ (.inl (by simp[execOp,hop,hx,p1])) p2 p3⟩
   ·simp[aC]at h
  ·simp[aC]at h
 ·-- the next rune
  rename_i it hop;simp only[aX,Option.bind_eq_some_iff,aC,Option.some.injEq]at h;obtain⟨vx,hvx,r',hr',e'⟩:=h;obtain⟨rfl,rfl⟩:=Prod.mk.inj e';obtain⟨x',w',G',p1,p2,p3⟩:=Rb (P:=P) (SP:=λ id off=>dG P vals id off 1 o=true) (ty:=o.type) (q:=none) hI (cT hf hvx) hr';exact⟨x',w',G',.mk' htk ⟨by simp[hop],by simp[hop],by simp[hop],by simp[hop]⟩ (.inl (by simp[execOp,hop,p1])) p2 p3⟩
 ·-- an entry of a map
  rename_i t m kk x hop;split at h
  ·rename_i kt e hu;simp only[aX,Option.bind_eq_some_iff,bI]at h;obtain⟨vm,hvm,vk,hvk,vx,hvx,kd,hkd,h⟩:=h;split at h;rotate_left
   ·simp at h
   rename_i hfit;simp only[aC,Option.bind_eq_some_iff,Option.some.injEq,Prod.mk.injEq]at h;obtain⟨S1,hS1,rfl,rfl⟩:=h;have hk:=cT hf hvk;rw[Di hkd]at hk hS1;simp only[RV]at hk;obtain⟨w',G',p1,p3⟩:=CF (P:=P) (SP:=λ id off=>dG P vals id off 1 o=true) (q:=none) hI hu (cT hf hvm) hk (cT hf hvx) hfit hS1;exact⟨undef,w',G',.mk' htk ⟨by simp[hop],by simp[hop],by simp[hop],by simp[hop]⟩ (.inr ⟨by simp[execOp,hop,p1],rfl⟩) (by simp only[RV]) p3⟩
  ·simp[aC]at h
 ·-- a text as bytes
  rename_i s d x hop;split at h
  ·rename_i e hs hd;split at h
   ·rename_i he;simp only[aX,Option.bind_eq_some_iff]at h;obtain⟨vx,hvx,h⟩:=h;split at h
    ·rename_i b;have hx:=cT hf hvx;simp only[RV,RD]at hx;simp only[bI]at h;split at h;rotate_left
     ·simp at h
     split at h
     ·simp only[aC,Option.some.injEq]at h;obtain⟨rfl,rfl⟩:=Prod.mk.inj h;obtain⟨x',w',G',p1,p2,p3⟩:=KT (P:=P) (SP:=λ id off=>dG P vals id off 1 o=true) (b:=b) hI hs hd he;exact⟨x',w',G',.mk' htk ⟨by simp[hop],by simp[hop],by simp[hop],by simp[hop]⟩ (.inl (by simp[execOp,hop,hx,p1])) p2 p3⟩
     ·simp only[aC,Option.some.injEq]at h;obtain⟨rfl,rfl⟩:=Prod.mk.inj h;obtain⟨x',w',G',p1,p2,p3⟩:=KU (P:=P) (SP:=λ id off=>dG P vals id off 1 o=true) (b:=b) hI hs hd he;exact⟨x',w',G',.mk' htk ⟨by simp[hop],by simp[hop],by simp[hop],by simp[hop]⟩ (.inl (by simp[execOp,hop,hx,p1])) p2 p3⟩
     ·simp[aC]at h
    ·simp[aC]at h
   ·simp[aC]at h
  ·simp[aC]at h
 ·-- an append
  rename_i c hop;split at h
  ·rename_i hcal;exact G7 hI hf htk hgd hsteal hop hcal h0
  ·rename_i fv hcal;exact absurd hcal (hnc c fv hop)
  ·simp[aC]at h
 ·simp[aC]at h
end
mutual
theorem RV.lift{A B:Sg}{n:Nat}(hF:Qd A.F B.F)(ho:∀b i,i<n->A.own b=some (.obj i)->B.own b=some (.obj i)):∀(x:V) (v:Value),bP n x=true->RV A x v->RV B x v
 | .d x,_,_,hx=>by simp only[RV]at hx⊢;exact RD.mono hF x _ hx
 | .m ..,_,hr,hx=>by
  simp only[RV]at hx⊢;simp[bP]at hr;obtain⟨a,c,e,hl,hb⟩:=hx;exact⟨a,c,e,hl,λ hp=>by obtain⟨blk,h1,ha⟩:=hb hp;exact⟨blk,ho _ _ hr h1,ha⟩⟩
 | .p ..,_,hr,hx=>by simp only[RV]at hx⊢;simp[bP]at hr;obtain⟨blk,h1,e⟩:=hx;exact⟨blk,ho _ _ hr h1,e⟩
 | .np,_,_,hx=>by simpa only[RV]using hx
 | .e xs _ _,_,_,hx=>by
  simp only[RV]at hx⊢;obtain⟨blk,o,sz,e,hs,hr⟩:=hx;exact⟨blk,o,sz,e,hs,bL.mono hF _ _ xs hr⟩
 | .mp _,_,hr,hx=>by simp only[RV]at hx⊢;simp[bP]at hr;obtain⟨blk,h1,e⟩:=hx;exact⟨blk,ho _ _ hr h1,e⟩
 | .nmp,_,_,hx=>by simpa only[RV]using hx
 | .f _ caps,_,hr,hx=>by simp only[RV]at hx⊢;simp only[bP]at hr;obtain⟨vs,e,hv⟩:=hx;exact⟨vs,e,dJ.lift hF ho caps _ hr hv⟩
 | .nf,_,_,hx=>by simpa only[RV]using hx
 | .t xs,_,hr,hx=>by simp only[RV]at hx⊢;simp only[bP]at hr;obtain⟨vs,e,hv⟩:=hx;exact⟨vs,e,dJ.lift hF ho xs _ hr hv⟩
 | .ifc _ x,_,hr,hx=>by simp only[RV]at hx⊢;simp only[bP]at hr;obtain⟨y,e,hv⟩:=hx;exact⟨y,e,RV.lift hF ho x y hr hv⟩
 | .nifc,_,_,hx=>by simpa only[RV]using hx
 | .it _,_,hr,hx=>by simp only[RV]at hx⊢;simp[bP]at hr;obtain⟨blk,h1,e⟩:=hx;exact⟨blk,ho _ _ hr h1,e⟩
 | .u,_,_,_=>by simp only[RV]
theorem dJ.lift{A B:Sg}{n:Nat}(hF:Qd A.F B.F)(ho:∀b i,i<n->A.own b=some (.obj i)->B.own b=some (.obj i)):∀(xs:List V) (vs:List Value),bG n xs=true->dJ A xs vs->dJ B xs vs
 | [],_,_,hx=>by simpa only[dJ]using hx
 |c::cs,_,hr,hx=>by
  simp only[dJ]at hx⊢;simp only[bG,Bool.and_eq_true]at hr;obtain⟨v,r,e,h1,h2⟩:=hx;exact⟨v,r,e,RV.lift hF ho c v hr.1 h1,dJ.lift hF ho cs r hr.2 h2⟩
end
mutual
theorem rI:∀(x:V) (n:Nat),bP n x=true↔oF x<=n
 | .d _,_=>by simp[bP,oF]
 | .m id _ _,_=>by simp[bP,oF];omega
 | .p id _,_=>by simp[bP,oF];omega
 | .np,_=>by simp[bP,oF]
 | .e _ _ _,_=>by simp[bP,oF]
 | .mp id,_=>by simp[bP,oF];omega
 | .nmp,_=>by simp[bP,oF]
 | .f _ caps,n=>by simp only[bP,oF];exact gv caps n
 | .nf,_=>by simp[bP,oF]
 | .t vs,n=>by simp only[bP,oF];exact gv vs n
 | .ifc _ x,n=>by simp only[bP,oF];exact rI x n
 | .nifc,_=>by simp[bP,oF]
 | .it id,_=>by simp[bP,oF];omega
 | .u,_=>by simp[bP,oF]
theorem gv:∀(xs:List V) (n:Nat),bG n xs=true↔lD xs<=n
 | [],_=>by simp[bG,lD]
 |x::xs,n=>by simp only[bG,lD,Bool.and_eq_true,rI x n,gv xs n];omega
end
theorem jw:∀{A B:List Ob} {id:Nat},id<B.length->bT (A++B) id=bT B id
 | [],_,_,_=>rfl
 |a::A,B,id,h=>by
  simp only[List.cons_append,bT,List.length_append];rw[if_neg (by omega)];exact jw h
theorem pq:∀{A B B':List Ob} {id:Nat},B.length=B'.length->B.length<=id->bT (A++B) id=bT (A++B') id
 | [],B,B',id,h,hid=>by
  have:∀{S:List Ob},S.length<=id->bT S id=none:=by
   intro S hS
   cases hx:bT S id with
   |none=>rfl
   |some o=>have:=du hx;omega
  rw[List.nil_append,List.nil_append,this hid,this (by omega)]
 |a::A,B,B',id,h,hid=>by
  simp only[List.cons_append,bT,List.length_append,h];split
  ·rfl
  ·exact pq h hid
theorem PJ(rb:Nat)(S:List Ob):mX rb S++oC rb S=S:=List.take_append_drop ..
theorem nZ{rb:Nat}{S:List Ob}(h:rb<=S.length):(oC rb S).length=rb:=by simp[oC];omega
theorem eQ{rb:Nat}{S:List Ob}(h:rb<=S.length):(mX rb S).length=S.length-rb:=by simp[mX]
theorem ki{rb:Nat}{S:List Ob}(h:rb<=S.length){id:Nat}(hid:id<rb):bT (oC rb S) id=bT S id:=by have:=jw (A:=mX rb S) (B:=oC rb S) (id:=id) (by rw[nZ h];exact hid);rw[PJ]at this;exact this.symm
theorem tw{rb:Nat}{S S':List Ob}(h:rb<=S.length)(hl:S'.length=rb){id:Nat}(hid:rb<=id):bT (mX rb S++S') id=bT S id:=by have:=pq (A:=mX rb S) (B:=S') (B':=oC rb S) (id:=id) (by rw[nZ h,hl]) (by omega);rw[PJ]at this;exact this
def vC(rb:Nat):Loc->Loc
 | .obj id=>if id<rb then .obj id else .ext
 | .cell id off=>if id<rb then .cell id off else .ext
 |_ => .ext
def eT(G:Sg)(rb:Nat):Sg:=⟨G.F,λ b=>(G.own b).map (vC rb)⟩
def Dw(rb n:Nat):Loc->Loc
 | .obj id=>if id=rb then .obj n else .obj id
 | .cell id off=>if id=rb then .cell n off else .cell id off
 |ℓ=>ℓ
open Classical in
noncomputable def fH(G:Sg)(rb n:Nat)(G':Sg):Sg:=⟨G'.F,λ b=>if (eT G rb).own b=some .ext then G.own b else(G'.own b).map (Dw rb n)⟩
section
variable {P : Program} {w : World} {G : Sg} {S : List Ob} {rb : Nat}
theorem jt{b id:Nat}:(eT G rb).own b=some (.obj id)↔G.own b=some (.obj id)/\id<rb:=by
 simp only[eT]
 cases h:G.own b with
 |none=>simp
 |some ℓ=>
  cases ℓ<;>simp[vC]
  ·split<;>rename_i hh<;>simp<;>intro e<;>omega
  ·split<;>simp
theorem AQ{b id off:Nat}:(eT G rb).own b=some (.cell id off)↔G.own b=some (.cell id off)/\id<rb:=by
 simp only[eT]
 cases h:G.own b with
 |none=>simp
 |some ℓ=>
  cases ℓ<;>simp[vC]
  ·split<;>simp
  ·split<;>rename_i hh<;>simp<;>intro e<;>omega
theorem Lr{b q:Nat}:(eT G rb).own b≠some (.slot q):=by
 simp only[eT]
 cases h:G.own b with
 |none=>simp
 |some ℓ=>
  cases ℓ<;>simp[vC]
  ·split<;>simp
  ·split<;>simp
theorem Lq{b:Nat}(h:G.own b=none):(eT G rb).own b=none:=by simp[eT,h]
theorem AR{b:Nat}{ℓ:Loc}(h:(eT G rb).own b=some ℓ):∃ℓ',G.own b=some ℓ':=by
 simp only[eT]at h
 cases h':G.own b with
 |none=>rw[h']at h;simp at h
 |some ℓ'=>exact⟨_,rfl⟩
theorem N1(hI:Inv w G S)(hrb:rb<=S.length):Inv w (eT G rb) (oC rb S):={
 fz:=hI.fz
 ob b id h:=by
  obtain⟨h,hid⟩:=jt.1 h;obtain⟨h1,o,go,h2,h3,h4⟩:=hI.ob b id h;refine⟨h1,o,go,by rw[ki hrb hid];exact h2,h3,?_⟩
  cases o with
  |cells cs fl=>
   have hrf:=hI.rf _ _ _ h2;cases go<;>simp only[gI]at h4⊢;obtain⟨p1,p2,p3⟩:=h4;refine⟨p1,λ o c hc=>?_,λ o sz hm=>?_⟩
   ·obtain⟨v,hv,hr,hf,ho⟩:=p2 o c hc;have hc':=da.1 hrf c (List.mem_of_getElem? hc);exact⟨v,hv,RV.lift (A:=G) (B:=eT G rb) (n:=id+1) (λ _ _ _ h=>h) (λ b i hi h=>jt.2 ⟨h,by omega⟩) c v hc' hr,hf,ho⟩
   ·exact(p3 o sz hm).map λ v hv ht=>⟨v,hv,ht.same λ blk hb=>⟨AQ.2 ⟨hb,hid⟩,rfl,λ _=>rfl⟩⟩
  |map es=>cases go<;>simp only[gI]at h4⊢;exact h4
  |iter s pos=>cases go<;>simp only[gI]at h4⊢;exact h4
  |dead=>cases go<;>simp only[gI]at h4
 inj b b' id h h':=hI.inj _ _ _ (jt.1 h).1 (jt.1 h').1
 tk b ℓ h:=by obtain⟨ℓ',h'⟩:=AR h;exact hI.tk _ _ h'
 cl b id o h:=by rw[nZ hrb];exact(AQ.1 h).2
 rf id cs fl h:=by have:=du h;rw[nZ hrb]at this;rw[ki hrb this]at h;exact hI.rf _ _ _ h
 tb:=hI.tb_of λ b _ h0=>⟨rfl,by simp[eT,h0]⟩ }
theorem MN{w':World}{G':Sg}{So S2:List Ob}(hI:Inv w G S)(hrb:rb<=S.length)(hI':Inv w' G' So)(hE:Ext w (eT G rb) (oC rb S) w' G' So)
  (hs:So.length=rb/\S2=mX rb S++So\/∃cs fl S',So = .cells cs fl::S'/\S'.length=rb/\bG rb cs=true/\S2 = .cells cs fl::(mX rb S++S')):
  Inv w' (fH G rb S.length G') S2/\Ext w G S w' (fH G rb S.length G') S2/\(∀q z v,fI w G (.slot q) z v->fI w' (fH G rb S.length G') (.slot q) z v)/\(∀id off,rb<=id->∀b,G.own b=some (.obj id)->w'.cell? ⟨b,off,none⟩=w.cell? ⟨b,off,none⟩)/\
   (∀x v,bP rb x=true->RV G' x v->RV (fH G rb S.length G') x v)/\(∀b,G'.own b=some (.obj rb)->(fH G rb S.length G').own b=some (.obj S.length)):=by
 have hsl:So.length<=rb+1:=by
  rcases hs with⟨h,_⟩|⟨cs,fl,S',rfl,h,_⟩
  ·omega
  ·simp only[List.length_cons];omega
 have hs2l:S.length<=S2.length:=by
  rcases hs with⟨h,rfl⟩|⟨cs,fl,S',rfl,h,_,rfl⟩
  ·simp[eQ hrb,h];omega
  ·simp[eQ hrb,h];omega
 have glo:∀id,id<rb->bT S2 id=bT So id:=by
  intro id hid;rcases hs with⟨h,rfl⟩|⟨cs,fl,S',rfl,h,_,rfl⟩
  ·exact jw (by omega)
  ·rw[de (by simp[eQ hrb,h];omega),de (by omega)]
   exact jw (by omega)
 have ghi:∀id,rb<=id->id<S.length->bT S2 id=bT S id:=by
  intro id hid hlt;rcases hs with⟨h,rfl⟩|⟨cs,fl,S',rfl,h,_,rfl⟩
  ·exact tw hrb h hid
  ·rw[de (by simp[eQ hrb,h];omega)]
   exact tw hrb h hid
 have gnew:∀o,bT So rb=some o->∃cs fl,o = .cells cs fl/\bG rb cs=true/\bT S2 S.length=some o/\S2.length=S.length+1:=by
  intro o ho;rcases hs with⟨h,rfl⟩|⟨cs,fl,S',rfl,h,hr,rfl⟩
  ·have:=du ho;omega
  ·have:bT (.cells cs fl::S') rb=some (.cells cs fl):=by simp[bT,h]
   rw[this]at ho;injection ho with ho
   have hl:(mX rb S++S').length=S.length:=by simp[eQ hrb,h];omega
   exact⟨cs,fl,ho.symm,hr,by rw[<-ho];simp only[bT];rw[if_pos hl.symm],by simp[hl]⟩
 have hlowl:=nZ hrb;have hidK:∀b,(eT G rb).own b=some .ext->G'.own b=some .ext/\w'.heap[b]?=w.heap[b]?/\(∀o,G'.F b o=G.F b o)/\(fH G rb S.length G').own b=G.own b:=by intro b hb;obtain⟨ℓ,hℓ⟩:=AR hb;obtain⟨h1,h2,h3⟩:=hE.keep b (hI.tk _ _ hℓ) (.inr hb);exact⟨by rw[h1];exact hb,h2,h3,by simp only[fH];rw[if_pos hb]⟩
 have hidO:∀b id,rb<=id->G.own b=some (.obj id)->(eT G rb).own b=some .ext:=by intro b id h1 h2;simp only[eT,h2,Option.map_some,vC];rw[if_neg (by omega)]
 have hidC:∀b id off,rb<=id->G.own b=some (.cell id off)->(eT G rb).own b=some .ext:=by intro b id off h1 h2;simp only[eT,h2,Option.map_some,vC];rw[if_neg (by omega)]
 have hidS:∀b q,G.own b=some (.slot q)->(eT G rb).own b=some .ext:=by intro b q h2;simp only[eT,h2,Option.map_some,vC]
 have seen:∀b ℓ,G'.own b=some ℓ->ℓ ≠ .ext->(fH G rb S.length G').own b=some (Dw rb S.length ℓ):=by intro b ℓ h1 h2;simp only[fH];rw[if_neg,h1];rfl;intro hb;have:=(hidK b hb).1;rw[h1]at this;injection this with this;exact h2 this
 have cases2:∀b ℓ,(fH G rb S.length G').own b=some ℓ->((eT G rb).own b=some .ext/\G.own b=some ℓ)\/∃ℓ',G'.own b=some ℓ'/\ℓ=Dw rb S.length ℓ'/\(eT G rb).own b≠some .ext:=by
  intro b ℓ h;simp only[fH]at h;split at h
  ·rename_i hb;exact .inl ⟨hb,h⟩
  ·rename_i hb;obtain⟨ℓ',h1,h2⟩:=Option.map_eq_some_iff.1 h;exact .inr ⟨ℓ',h1,h2.symm,hb⟩
 have hobj2:∀b id,(fH G rb S.length G').own b=some (.obj id)->((eT G rb).own b=some .ext/\G.own b=some (.obj id)/\rb<=id/\id<S.length)\/(∃id',G'.own b=some (.obj id')/\id'<=rb/\(id'<rb/\id=id'\/id'=rb/\id=S.length)):=by
  intro b id h;rcases cases2 b _ h with⟨h1,h2⟩|⟨ℓ',h1,h2,_⟩
  ·refine .inl ⟨h1,h2,?_,?_⟩
   ·rcases Nat.lt_or_ge id rb with hlt|hge
    ·have:=(jt (G:=G) (rb:=rb) (b:=b) (id:=id)).2 ⟨h2,hlt⟩;rw[h1]at this;cases this
    ·exact hge
   ·obtain⟨_,o,_,ho,_⟩:=hI.ob _ _ h2;exact du ho
  ·cases ℓ' with
   |obj id'=>
    have hlt:id'<So.length:=by obtain⟨_,o,_,ho,_⟩:=hI'.ob _ _ h1;exact du ho
    refine .inr ⟨id',h1,by omega,?_⟩;simp only[Dw]at h2;split at h2
    ·injection h2 with h2;rename_i e;exact .inr ⟨e,h2⟩
    ·injection h2 with h2;rename_i e;exact .inl ⟨by omega,h2⟩
   |cell id' off'=>simp only[Dw]at h2;split at h2<;>cases h2
   |slot q=>simp[Dw]at h2
   |ext=>simp[Dw]at h2
 have hle:Le G (fH G rb S.length G'):=by
  refine⟨hE.F,λ b id h=>?_⟩;rcases Nat.lt_or_ge id rb with hlt|hge
  ·have:=seen b _ (hE.obj _ _ (jt.2 ⟨h,hlt⟩)) (by simp)
   rw[this];simp only[Dw];rw[if_neg (by omega)]
  ·rw[(hidK b (hidO b id hge h)).2.2.2];exact h
 have hlift:∀x v,bP rb x=true->RV G' x v->RV (fH G rb S.length G') x v:=λ x v hr hx=>
  RV.lift (A:=G') (B:=fH G rb S.length G') (n:=rb) (λ _ _ _ h=>h) (λ b i hi h=>by rw[seen b _ h (by simp)];simp only[Dw];rw[if_neg (by omega)]) x v hr hx
 refine⟨⟨hI'.fz,λ b id h=>?_,λ b b' id h h'=>?_,λ b ℓ h=>?_,λ b id o h=>?_,λ id cs fl h=>?_,λ b arr hb=>⟨(hI'.tb b arr hb).1,by simp only[fH];rw[if_neg (by simp[eT,(hI.tb b arr hb).2]),(hI'.tb b arr hb).2];rfl⟩⟩,⟨hE.os,hE.tape,hE.output,hE.size,hE.F,hle.obj,λ b hb h=>?_,λ b id h hid=>?_,λ id hid hn=>?_,hs2l⟩,λ q z v ht=>?_,λ id off hid b hb=>?_,hlift,λ b h=>?_⟩
 ·rcases hobj2 b id h with⟨h1,h2,h3,h4⟩|⟨id',h1,h2,h3⟩
  ·obtain⟨k1,k2,k3,k4⟩:=hidK b h1;obtain⟨p1,o,go,p2,p3,p4⟩:=hI.ob _ _ h2;refine⟨λ o=>(k3 o).trans (p1 o),o,go,by rw[ghi _ h3 h4];exact p2,by rw[k2];exact p3,p4.same hle λ off blk hk=>?_⟩;obtain⟨j1,j2,j3,j4⟩:=hidK blk (hidC _ _ _ h3 hk);exact⟨by rw[j4];exact hk,j2,j3⟩
  ·obtain⟨p1,o,go,p2,p3,p4⟩:=hI'.ob _ _ h1;have hup:Dw rb S.length (.obj id') = .obj id:=by
    simp only[Dw];rcases h3 with⟨e1,e2⟩|⟨e1,e2⟩
    ·rw[if_neg (by omega),e2]
    ·rw[if_pos e1,e2]
   have hupc:∀off,Dw rb S.length (.cell id' off) = .cell id off:=by
    intro off;simp only[Dw];rcases h3 with⟨e1,e2⟩|⟨e1,e2⟩
    ·rw[if_neg (by omega),e2]
    ·rw[if_pos e1,e2]
   have hog:bT S2 id=some o:=by
    rcases h3 with⟨e1,e2⟩|⟨e1,e2⟩
    ·subst e2;rw[glo _ e1];exact p2
    ·subst e2;subst e1;obtain⟨_,_,_,_,hg,_⟩:=gnew o p2;exact hg
   refine⟨p1,o,go,hog,p3,?_⟩
   cases o with
   |cells cs fl=>
    have hrf:bG rb cs=true:=by
     rcases h3 with⟨e1,e2⟩|⟨e1,e2⟩
     ·exact dh (by omega) _ (hI'.rf _ _ _ p2)
     ·subst e1;obtain⟨_,_,e,hr,_⟩:=gnew _ p2;injection e with e _;subst e;exact hr
    cases go<;>simp only[gI]at p4⊢;obtain⟨q1,q2,q3⟩:=p4;refine⟨q1,λ o c hc=>?_,λ o sz hm=>?_⟩
    ·obtain⟨v,hv,hr,hf,ho⟩:=q2 o c hc;exact⟨v,hv,hlift c v (da.1 hrf c (List.mem_of_getElem? hc)) hr,hf,ho⟩
    ·refine(q3 o sz hm).map λ v hv ht=>⟨v,hv,?_⟩
     rcases ht with ht|⟨blk,hb,ht⟩
     ·exact .inl ht
     ·exact .inr ⟨blk,by rw[seen blk _ hb (by simp),hupc],ht⟩
   |map es=>cases go<;>simp only[gI]at p4⊢;exact p4
   |iter s pos=>cases go<;>simp only[gI]at p4⊢;exact p4
   |dead=>cases go<;>simp only[gI]at p4
 ·rcases hobj2 b id h with⟨h1,h2,h3,h4⟩|⟨i1,h1,h2,h3⟩<;>rcases hobj2 b' id h' with⟨k1,k2,k3,k4⟩|⟨i2,k1,k2,k3⟩
  ·exact hI.inj _ _ _ h2 k2
  ·omega
  ·omega
  ·have:i1=i2:=by omega
   subst this;exact hI'.inj _ _ _ h1 k1
 ·rcases cases2 b _ h with⟨_,h2⟩|⟨ℓ',h1,_,_⟩
  ·exact Nat.lt_of_lt_of_le (hI.tk _ _ h2) hE.size
  ·exact hI'.tk _ _ h1
 ·rcases cases2 b _ h with⟨_,h2⟩|⟨ℓ',h1,h2,_⟩
  ·exact Nat.lt_of_lt_of_le (hI.cl _ _ _ h2) hs2l
  ·cases ℓ' with
   |obj id'=>simp only[Dw]at h2;split at h2<;>cases h2
   |cell id' off'=>
    have hlt:=hI'.cl _ _ _ h1;simp only[Dw]at h2;split at h2
    ·injection h2 with h2 _
     have e:id'=rb:=by assumption
     obtain⟨o',ho'⟩:=ov hlt;rw[e]at ho';obtain⟨_,_,_,_,_,hl⟩:=gnew o' ho';omega
    ·injection h2 with h2 _;omega
   |slot q=>simp[Dw]at h2
   |ext=>simp[Dw]at h2
 ·rcases Nat.lt_or_ge id rb with h1|h1
  ·rw[glo _ h1]at h;exact hI'.rf _ _ _ h
  ·rcases Nat.lt_or_ge id S.length with h2|h2
   ·rw[ghi _ h1 h2]at h;exact hI.rf _ _ _ h
   ·have hlt:=du h;rcases hs with⟨e,rfl⟩|⟨cs',fl',S',rfl,e,hr,rfl⟩
    ·simp[eQ hrb,e]at hlt;omega
    ·have hl:(mX rb S++S').length=S.length:=by simp[eQ hrb,e];omega
     have:id=S.length:=by simp only[List.length_cons,hl]at hlt;omega
     subst this;simp only[bT,hl,if_true]at h;injection h with h;injection h with h _;subst h
     exact dh (by omega) _ hr
 ·rcases h with h|h
  ·have hn:=Lq (rb:=rb) h;obtain⟨k1,k2,k3⟩:=hE.keep b hb (.inl hn);refine⟨?_,k2,k3⟩;simp only[fH];rw[if_neg (by rw[hn];simp),k1,hn,h];rfl
  ·have hx:(eT G rb).own b=some .ext:=by simp[eT,h,vC]
   obtain⟨k1,k2,k3,k4⟩:=hidK b hx;exact⟨k4,k2,k3⟩
 ·rcases hobj2 b id h with⟨_,h2,_,_⟩|⟨id',h1,h2,h3⟩
  ·exact h2
  ·have:id'<rb/\id=id':=by omega
   obtain⟨e1,rfl⟩:=this;exact(jt.1 (hE.newo _ _ h1 (by omega))).1
 ·rcases Nat.lt_or_ge id rb with h1|h1
  ·rw[glo _ h1,hE.ph id (by omega) (λ b hb=>hn b (jt.1 hb).1),ki hrb h1]
  ·exact ghi _ h1 hid
 ·exact ht.same λ blk hb=>by
   obtain⟨k1,k2,k3,k4⟩:=hidK blk (hidS _ _ hb);exact⟨by rw[k4];exact hb,k2,k3⟩
 ·exact cell?_of_heap (hidK b (hidO b id hid hb)).2.1 off
 ·rw[seen b _ h (by simp)];simp[Dw]
end
section
variable {P : Program} {aF : Pol} {w : World} {G : Sg} {S : List Ob}
structure EffR (P:Program) (aF:Pol) (w:World) (G:Sg) (S:List Ob) (a:Act) (k r i:Nat) (ops:List Oper) (vals:List V) (fl:Fl) (o:Oper) (v:V) (S':List Ob) (x:Value) (w':World) (G':Sg):Prop where
 rv:RV G' v x
 inv:Inv w' G' S'
 ext:Ext w G S w' G' S'
 tok:iD w' G' (a.put o.dst x) (cg P aF k r i ops fl o)
 sp:∀id off,dG P vals id off 1 o=true->∀b,G.own b=some (.obj id)->w'.cell? ⟨b,off,none⟩=w.cell? ⟨b,off,none⟩
def GK(P:Program)(o:Oper)(a:Act)(w:World)(R:Value->World->Prop):Prop:=
 ∀(next:Act->World->Prop) (Q:Exit->Act->World->Prop),(∀x w',R x w'->next (a.put o.dst x) w')->o.wp P a w next Q
theorem Eff.does{a:Act}{k r i:Nat}{ops:List Oper}{vals:List V}{fl:Fl}{o:Oper}{v:V}{S':List Ob}{x:Value}{w':World}{G':Sg}(h:Eff P aF w G S a k r i ops vals fl o v S' x w' G'):
  GK P o a w λ x w'=>∃G',EffR P aF w G S a k r i ops vals fl o v S' x w' G':=by
 intro next Q hn;have:=hn x w' ⟨G',h.rv,h.inv,h.ext,h.tok,h.sp⟩;unfold Oper.wp;rcases h.run with e|⟨e,rfl⟩
 ·rw[e];exact this
 ·rw[e];exact this
def gg(P:Program)(k:Nat)(vs:Array Value)(w:World)(R:Value->World->Prop):Prop:=
 ∀(o:Oper) (a:Act) (next:Act->World->Prop) (Q:Exit->Act->World->Prop),(∀x w',R x w'->next (a.put o.dst x) w')->o.upon P a next Q ((callFunc k vs).run P w)
theorem gg.of_calls {k : Nat} {vs : Array Value} {R : Value → World → Prop} {fn : Func} (hf : P.funcs[k]? = some fn) (hb : fn.body.isSome = true) (hn : fn.name ≠ "runtime.NumGoroutine")
  (h:Calls P k vs w λ e w'=>∃x,e = .returned x/\R x w'):gg P k vs w R:=by
 intro o a next Q hnx;have:(callFunc k vs).run P w = .ok (.enter k vs) w:=by obtain⟨c,hc⟩:=Option.isSome_iff_exists.1 hb;simp[callFunc,hf,hn,hc]
 rw[this];simp only[Oper.upon];refine Calls.mono h λ e w' he=>?_;obtain⟨x,rfl,hr⟩:=he;exact hnx x w' hr
def cf(P:Program)(k:Nat)(args:List V)(S:List Ob)(o:Out):Prop:=
 ∀(w:World) (G:Sg) (vs:Array Value),Inv w G S->dJ G args vs.toList->(∀b q,G.own b≠some (.slot q))->gg P k vs w λ x w'=>∃G',RV G' o.1 x/\Inv w' G' o.2/\Ext w G S w' G' o.2
def kP(P:Program)(f:Task->Option Out):Prop:=∀k args S o,f (.call k args S)=some o->cf P k args S o
theorem iT{rb:Nat}{o r:Out}(h:om rb S o=some r):
  (o.2.length=rb/\r.2=mX rb S++o.2\/∃cs fl S',o.2 = .cells cs fl::S'/\S'.length=rb/\bG rb cs=true/\r.2 = .cells cs fl::(mX rb S++S'))/\
  (bP rb o.1=true/\r.1=o.1\/(∃off,o.1 = .p rb off/\r.1 = .p S.length off)\/∃off len,o.1 = .m rb off len/\r.1 = .m S.length off len):=by
 unfold om at h;split at h
 ·rename_i hl;split at h
  ·rename_i hb;injection h with h;subst h
   exact⟨.inl ⟨hl,rfl⟩,.inl ⟨(rI _ _).2 hb,rfl⟩⟩
  ·simp at h
 ·split at h
  ·rename_i cs fl S' id off e2 e1;split at h
   ·rename_i hc;injection h with h;subst h
    obtain⟨rfl,h1,h2⟩:=hc;exact⟨.inr ⟨cs,fl,S',e2,h1,h2,rfl⟩,.inr (.inl ⟨off,e1,rfl⟩)⟩
   ·simp at h
  ·rename_i cs fl S' id off len e2 e1;split at h
   ·rename_i hc;injection h with h;subst h
    obtain⟨rfl,h1,h2⟩:=hc;exact⟨.inr ⟨cs,fl,S',e2,h1,h2,rfl⟩,.inr (.inr ⟨off,len,e1,rfl⟩)⟩
   ·simp at h
  ·simp at h
theorem KP{f:Task->Option Out}(hF:kP P f){k r i:Nat}{ops:List Oper}{vals:List V}{fl:Fl}{a:Act}{o:Oper}{c:Call}{fv:Operand}{v:V}{S':List Ob}(hI:Inv w G S)(hf:Fr G vals a)(htk:iD w G a fl)
  (hop:o.op = .call c) (hcal:c.callee = .value fv) (h:aC f (fP P aF k r i ops vals fl S o)=some (v,S')):
  GK P o a w λ x w'=>∃G',EffR P aF w G S a k r i ops vals fl o v S' x w' G':=by
 unfold fP at h;simp only[hop,hcal,aX,Option.bind_eq_some_iff]at h;obtain⟨args,hargs,vf,hvf,h⟩:=h;split at h;rotate_left
 ·simp[aC]at h
 rename_i g caps;simp only[bI]at h;split at h;rotate_left
 ·simp at h
 rename_i hrb;simp only[decide_eq_true_eq]at hrb;rw[ft]at h;obtain⟨out,hout,h⟩:=Option.bind_eq_some_iff.1 h;simp only[aX,Option.bind_eq_some_iff,aC,Option.some.injEq]at h;obtain⟨r2,hj,e⟩:=h;subst e;have hfr:=cT hf hvf;simp only[RV]at hfr;obtain⟨cv,hcv,hcr⟩:=hfr;have har:=kY hf hargs;intro next Q hn;have hex:execOp a.eval o=callFunc g (c.args.map a.eval++cv):=by simp[execOp,hop,resolve,hcal,hcv,Deferred.ofValue,invoke]
 unfold Oper.wp;rw[hex];have hall:dJ G (args++caps) (c.args.map a.eval++cv).toList:=by
  have:∀{xs ys:List V} {us vs:List Value},dJ G xs us->dJ G ys vs->dJ G (xs++ys) (us++vs):=by
   intro xs
   induction xs with
   |nil=>intro ys us vs h1 h2;simp only[dJ]at h1;subst h1;exact h2
   |cons x xs ih=>
    intro ys us vs h1 h2;simp only[dJ]at h1;obtain⟨u,r,rfl,h3,h4⟩:=h1;simp only[List.cons_append,dJ];exact⟨u,_,rfl,h3,ih h4 h2⟩
  rw[Array.toList_append,Array.toList_map];exact this har hcr
 have hrefs:bG (lD (args++caps)) (args++caps)=true:=(gv _ _).2 (Nat.le_refl _);have hall':dJ (eT G (lD (args++caps))) (args++caps) (c.args.map a.eval++cv).toList:=
  dJ.lift (A:=G) (B:=eT G (lD (args++caps))) (n:=lD (args++caps)) (λ _ _ _ h=>h) (λ b i hi h=>jt.2 ⟨h,hi⟩) _ _ hrefs hall
 refine hF g _ _ _ hout w (eT G (lD (args++caps))) _ (N1 hI hrb) hall' (λ b q=>Lr) o a next Q ?_;rintro x w' ⟨G',hr1,hi1,he1⟩;obtain⟨sh1,sh2⟩:=iT hj;simp only at sh1 sh2;obtain⟨u1,u2,u3,u4,u5,u6⟩:=MN hI hrb hi1 he1 sh1;refine hn x w' ⟨_,?_,u1,u2,?_,?_⟩
 ·rcases sh2 with⟨h1,h2⟩|⟨off,h1,h2⟩|⟨off,len,h1,h2⟩
  ·rw[h2];exact u5 _ _ h1 hr1
  ·rw[h1]at hr1;rw[h2];simp only[RV]at hr1⊢;obtain⟨blk,h3,h4⟩:=hr1;exact⟨blk,u6 _ h3,h4⟩
  ·rw[h1]at hr1;rw[h2];simp only[RV]at hr1⊢;obtain⟨A,C,h3,h4,h5⟩:=hr1;exact⟨A,C,h3,h4,λ hp=>by obtain⟨blk,h6,h7⟩:=h5 hp;exact⟨blk,u6 _ h6,h7⟩⟩
 ·rw[j5 ⟨by simp[hop],by simp[hop],by simp[hop],by intro c' e;rw[hop]at e;injection e with e;subst e;rw[hcal];simp⟩]
  exact htk.put (λ q' sz v _ h=>u3 _ _ _ h) (q:=none) (by simp)
 ·intro id off hs b hb;refine u4 id off ?_ b hb;unfold dG at hs;simp only[hop,hcal,hargs,hvf,bP,Bool.and_eq_true]at hs;have h1:bG id (args++caps)=true:=by
   have:∀{xs ys:List V},bG id xs=true->bG id ys=true->bG id (xs++ys)=true:=by
    intro xs ys h1 h2;rw[da]at h1 h2⊢;intro c hc;rcases List.mem_append.1 hc with h|h
    ·exact h1 c h
    ·exact h2 c h
   exact this hs.1 hs.2
  exact(gv _ _).1 h1
theorem H9{vals:List V}{a:Act}{o:Oper}{v:V}(hI:Inv w G S)(hf:Fr G vals a)(h:dX P vals S o=some v):
  GK P o a w λ x w'=>(execOp a.eval o).run P w = .ok (.value x) w'/\(∀id off b,G.own b=some (.obj id)->w'.cell? ⟨b,off,none⟩=w.cell? ⟨b,off,none⟩)/\∃G',RV G' v x/\Inv w' G' S/\Ext w G S w' G' S/\(∀q sz v,fI w G (.slot q) sz v->fI w' G' (.slot q) sz v):=by
 obtain⟨x,w',G',p1,p2,p3,p4⟩:=J3 hI hf h;intro next Q hn;unfold Oper.wp;rw[p1]
 exact hn x w' ⟨p1,λ id off b hb=>cell?_of_heap (p3.heap _ (hI.tk _ _ hb)) off,G',p2,p4,Ext.of_grow p3,λ q' sz v ht=>
  ht.same λ blk hb=>⟨by rw[p3.own];exact hb,p3.heap _ (hI.tk _ _ hb),λ o=>p3.old _ _ (hI.tk _ _ hb)⟩⟩
theorem zQ{ty:TypeId}{b off:Nat}{x y:Value}{w':World}(hag:mn P ty=some false)(hc:w.cell? ⟨b,off,none⟩=some y)(h:(Instr.loadAt ty (.pointer (some ⟨b,off,none⟩))).run P w = .ok x w'):y=x:=by simp[Instr.loadAt,Instr.sureAddr,loadVar,ie hag,hc]at h;exact h.1
theorem GS(hI:Inv w G S){n id off b:Nat}{v:V}(h:gq false n S (.p id off)=some v)(ho:G.own b=some (.obj id)):∃y,w.cell? ⟨b,off,none⟩=some y:=by
 unfold gq at h;simp only at h;split at h;rotate_left
 ·simp at h
 rename_i cs fl hob;obtain⟨_,o',go,hs',hgo,hor⟩:=hI.ob _ _ ho;rw[hob]at hs';injection hs' with hs';subst hs'
 cases go<;>simp only[gI]at hor;obtain⟨y,hy,_⟩:=hor.2.1 off v (by simpa using h);exact⟨y,by simp[World.cell?,hgo,hy]⟩
theorem L5{k r i:Nat}{ops:List Oper}{vals:List V}{fl:Fl}{a:Act}{o:Oper}{v:V}(hI:Inv w G S)(hf:Fr G vals a)(htk:iD w G a fl)(hne:fU P o=false)(h:dX P vals S o=some v):
  GK P o a w λ x w'=>(execOp a.eval o).run P w = .ok (.value x) w'/\(∀id off b,G.own b=some (.obj id)->w'.cell? ⟨b,off,none⟩=w.cell? ⟨b,off,none⟩)/\∃G',EffR P aF w G S a k r i ops vals fl o v S x w' G':=by
 obtain⟨x,w',G',p1,p2,p3,p4⟩:=J3 hI hf h;have hext:Ext w G S w' G' S:=Ext.of_grow p3
 have htok:∀q' sz v,fI w G (.slot q') sz v->fI w' G' (.slot q') sz v:=λ q' sz v ht=>
  ht.same λ blk hb=>⟨by rw[p3.own];exact hb,p3.heap _ (hI.tk _ _ hb),λ o=>p3.old _ _ (hI.tk _ _ hb)⟩
 have hsp:∀id off,∀b,G.own b=some (.obj id)->w'.cell? ⟨b,off,none⟩=w.cell? ⟨b,off,none⟩:=λ id off b hb=>cell?_of_heap (p3.heap _ (hI.tk _ _ hb)) off;have hdone:∀G2,RV G2 v x->Inv w' G2 S->Ext w G S w' G2 S->iD w' G2 (a.put o.dst x) (cg P aF k r i ops fl o)->GK P o a w λ x w'=>(execOp a.eval o).run P w = .ok (.value x) w'/\(∀id off b,G.own b=some (.obj id)->w'.cell? ⟨b,off,none⟩=w.cell? ⟨b,off,none⟩)/\∃G',EffR P aF w G S a k r i ops vals fl o v S x w' G':=by intro G2 h1 h2 h3 h4 next Q hn;unfold Oper.wp;rw[p1];exact hn x w' ⟨p1,λ id off b hb=>hsp id off b hb,G2,h1,h2,h3,h4,λ id off _ b hb=>hsp id off b hb⟩
 have hplain:cg P aF k r i ops fl o=(match o.dst with|some d=>et fl d|none=>fl)->GK P o a w λ x w'=>(execOp a.eval o).run P w = .ok (.value x) w'/\(∀id off b,G.own b=some (.obj id)->w'.cell? ⟨b,off,none⟩=w.cell? ⟨b,off,none⟩)/\∃G',EffR P aF w G S a k r i ops vals fl o v S x w' G':=by intro e;refine hdone G' p2 p4 hext ?_;rw[e];exact htk.put (q:=none) (λ q' sz v _ h=>htok q' sz v h) (by simp)
 by_cases hg:o.guard.isSome=true
 ·refine hplain ?_;unfold cg;simp only[hg,if_true];cases o.dst<;>rfl
 have hgn:o.guard=none:=by cases hx:o.guard<;>simp[hx]at hg⊢
 cases hop:o.op with
 |assign y=>
  cases hd:o.dst with
  |none=>exact hplain (by unfold cg;cases y<;>simp[hgn,hop,hd])
  |some d=>
   have hxe:x=a.eval y/\w'=w:=by
    have:(execOp a.eval o).run P w = .ok (.value (a.eval y)) w:=by simp[execOp,hop]
    rw[this]at p1;injection p1 with p1 p1';injection p1 with p1;exact⟨p1.symm,p1'.symm⟩
   cases y with
   |tmp t=>
    cases ht:tok fl t with
    |none=>exact hplain (by unfold cg;simp[hgn,hop,hd,ht])
    |some z=>
     obtain⟨rfl,rfl⟩:=hxe;obtain⟨q1,q2⟩:=Md (SP:=λ _ _=>True) p4 t d;refine hdone _ (RV.mono q1.ext.le _ _ p2) q1.inv (hext.trans q1.ext) ?_;have:cg P aF k r i ops fl o=(d,z)::et (et fl d) t:=by unfold cg;simp[hgn,hop,hd,ht]
     rw[this];have h1:iD w' G a (et fl t):=htk.sub jR;have h2:=(h1.put (dst:=some d) (x:=a.eval (.tmp t)) (G':=⟨G'.F,lf G'.own (.slot t) (.slot d)⟩) (w':=w') (q:=some t) (λ q' sz v hq h=>q1.tok q' sz v hq (htok q' sz v h)) (by intro y z e;injection e with e;subst e;exact qX)).sub qW;rw[hd];refine h2.add ?_;rcases htk t z (qe ht)with h|h
     ·exact .inl h
     ·exact .inr (q2 _ _ (htok _ _ _ h))
   |const c=>
    by_cases hc:c = .slice none 0 0
    ·subst hc
     cases hz:(lp P o.type).bind (bZ P) with
     |none=>exact hplain (by unfold cg;simp[hgn,hop,hd,hz])
     |some z=>
      refine hdone G' p2 p4 hext ?_;have:cg P aF k r i ops fl o=(d,uO (aF.mh k r i) z)::et fl d:=by unfold cg;simp[hgn,hop,hd,hz]
      rw[this];have h2:=htk.put (dst:=some d) (x:=x) (q:=none) (λ q' sz v _ h=>htok q' sz v h) (by simp);rw[hd];exact h2.add (.inr (.inl ⟨none,0,⟨hxe.1,λ _=>rfl⟩⟩))
    ·refine hplain ?_;unfold cg;simp only[hgn,hop,hd];split<;>simp_all
   |func g=>exact hplain (by unfold cg;simp[hgn,hop,hd])
   |global g=>exact hplain (by unfold cg;simp[hgn,hop,hd])
 |call c=>
  refine hplain (j5 ⟨by simp[hop],by simp[hop],by simp[hop],λ c' e hc=>?_⟩);rw[hop]at e;injection e with e;subst e
  simp[fU,hop,hc]at hne
 |store t ad y=>simp[fU,hop]at hne
 |makeSlice t n c=>simp[fU,hop]at hne
 |_=>exact hplain (j5 ⟨by simp[hop],by simp[hop],by simp[hop],by simp[hop]⟩)
end
section
variable {P : Program} {aF : Pol}
def zr(vals vals':List V)(o:Oper):Prop:=∀x∈o.op.operands.toList,ev vals x=ev vals' x
theorem mapM_congr{vals vals':List V}:∀{xs:List Operand},(∀x∈xs,ev vals x=ev vals' x)->xs.mapM (ev vals)=xs.mapM (ev vals')
 | [],_=>rfl
 |x::xs,h=>by
  rw[List.mapM_cons,List.mapM_cons,h x (by simp),mapM_congr λ y hy=>h y (by simp[hy])]
theorem zY{vals vals':List V}{x:Option Operand}(h:∀y,x=some y->ev vals y=ev vals' y):zq vals x=zq vals' x:=by
 cases x with
 |none=>rfl
 |some y=>simp only[zq,h y rfl]
theorem Ib{vals vals':List V}{S:List Ob}{o:Oper}(h:zr vals vals' o):dX P vals S o=dX P vals' S o:=by
 unfold zr at h;unfold dX;cases hop:o.op<;>rw[hop]at h<;>simp only[Op.operands]at h<;>simp only
 case build t parts=>
  have:parts.toList.map (λ p=>partOf P (match P.underlying t with|some (.struct fs)=>fs|_=>#[]) vals p)=parts.toList.map (λ p=>partOf P (match P.underlying t with|some (.struct fs)=>fs|_=>#[]) vals' p):=
   List.map_congr_left λ p hp=>by
    unfold partOf;split
    ·rw[h p.2 (by simpa using List.mem_map_of_mem (f:=λ x:Nat×Operand=>x.2) hp)]
    ·rfl
  split
  ·rename_i fs z hu _;simp only[hu]at this;simp only[this]
  ·rfl
 case buildSlice t n parts=>
  have:(parts.toList.map λ p=>(p.1,ev vals p.2))=parts.toList.map λ p=>(p.1,ev vals' p.2):=
   List.map_congr_left λ p hp=>by rw[h p.2 (by simpa using List.mem_map_of_mem (f:=λ x:Nat×Operand=>x.2) hp)]
  simp only[this]
 case makeFunc fn first captured=>
  split
  ·rw[mapM_congr λ x hx=>h x (by simp;right;simpa using hx)]
  ·rfl
 case slice t x lo hi mx=>
  have hx:=h x (by simp);have hl:zq vals lo=zq vals' lo:=zY λ y e=>h y (by subst e;simp);have hh:zq vals hi=zq vals' hi:=zY λ y e=>h y (by subst e;simp);simp only[hx,hl,hh]
 case call c=>
  have ha:∀x∈c.args.toList,ev vals x=ev vals' x:=λ x hx=>h x (by simp[Call.operands];right;simpa using hx);split
  ·split
   ·rename_i h0 h1;rw[ha _ (List.mem_of_getElem? (by simpa using h1))]
   ·rfl
  ·rw[mapM_congr ha]
  ·rw[mapM_congr ha]
  ·rfl
 all_goals (first|rfl|(simp at h;simp only[h];done)|(simp at h;obtain⟨h1,h2⟩:=h;simp only[h1,h2];done)|(simp at h;obtain⟨h1,h2,h3⟩:=h;simp only[h1,h2,h3];done)|skip)
theorem D5{vals vals':List V}{k r i:Nat}{ops:List Oper}{fl:Fl}{S:List Ob}{o:Oper}(h:zr vals vals' o)
  (hq:∀c x q,o.op = .call c->c.callee = .builtin .append->aF.app k r i=3->c.args.toList.head?=some x->kR ops x=some q->vals.getD q .u=vals'.getD q .u):fP P aF k r i ops vals fl S o=fP P aF k r i ops vals' fl S o:=by
 unfold zr at h;unfold fP;cases hop:o.op<;>rw[hop]at h<;>simp only[Op.operands]at h<;>try simp only
 case next it b=>
  simp at h;cases b<;>simp only[h]
 case buildSlice t n parts=>
  have:(parts.toList.map λ p=>(p.1,ev vals p.2))=parts.toList.map λ p=>(p.1,ev vals' p.2):=
   List.map_congr_left λ p hp=>by rw[h p.2 (by simpa using List.mem_map_of_mem (f:=λ x:Nat×Operand=>x.2) hp)]
  simp only[this]
 case call c=>
  have ha:∀x∈c.args.toList,ev vals x=ev vals' x:=λ x hx=>h x (by simp[Call.operands];right;simpa using hx);split
  ·rename_i hcal;split
   ·rename_i x y t hargs ht;have hx:=ha x (by rw[hargs];simp);have hy:=ha y (by rw[hargs];simp);simp only[hx,hy];congr 1;funext e;congr 1;funext sz;congr 1;funext bx;congr 1;funext vy;congr 1;split<;>try rfl
    rename_i happ
    cases hb:kR ops x with
    |none=>rfl
    |some q=>
     simp only[ob];rw[hq c x q hop hcal happ (by rw[hargs];rfl) hb]
   ·rfl
  ·rename_i f hcal;rw[mapM_congr ha,h f (by simp[Call.operands,hcal])]
  ·rfl
 all_goals (first|rfl|(simp at h;simp only[h];done)|(simp at h;obtain⟨h1,h2⟩:=h;simp only[h1,h2];done)|(simp at h;obtain⟨h1,h2,h3⟩:=h;simp only[h1,h2,h3];done)|skip)
theorem FE{vals:List V}{S S':List Ob}{o:Oper}(h:reads P o=false):dX P vals S o=dX P vals S' o:=by
 unfold dX;cases hop:o.op<;>simp only[reads,hop]at h<;>try rfl
 case load=>simp at h
 case lookup=>simp at h
 case convert s d x=>
  simp only;split
  ·rename_i s' d' hs hd;rw[hs,hd]at h;split
   ·simp at h
   ·rfl
  ·rfl
 case call c=>
  simp only;split
  ·rename_i hcal;split
   ·rename_i t x ht hx;rw[ht]at h;simp only[hcal,Option.bind_some]at h;split
    ·rename_i d hu;rw[hu]at h;have:∀v,Fj d S v=Fj d S' v:=by intro v;cases d<;>first|(simp at h;done)|(cases v<;>first|rfl|(rename_i x;cases x<;>rfl))
     simp only[this]
    ·rfl
   ·rfl
  ·rfl
  ·rfl
  ·rfl
def oD(S:List Ob)(id off n:Nat):Option (List V):=
 match bT S id with
 |some (.cells cs _)=>if off+n<=cs.length then some ((cs.drop off).take n)else none
 |_=>none
theorem LB{S S':List Ob}{ag:Bool}{n id off:Nat}(h:oD S id off n=oD S' id off n)(hn:ag=true\/n=1):gq ag n S (.p id off)=gq ag n S' (.p id off):=by
 have key:∀T:List Ob,gq ag n T (.p id off)=(match oD T id off n with|some l=>(if ag then(ze l).map (λ ds => .d (.g ds))else l[0]?)|none=>none):=by
  intro T;unfold oD;simp only[gq];split
  ·rename_i cs fl ho;simp only[ho]
   cases ag with
   |true=>
    simp only[if_true];by_cases hle:off+n<=cs.length
    ·simp[hle]
    ·simp[hle]
   |false=>
    have hn1:n=1:=by simpa using hn
    subst hn1;simp only[Bool.false_eq_true,if_false];by_cases hle:off+1<=cs.length
    ·simp only[hle,if_true];rw[List.getElem?_take_of_lt (by omega),List.getElem?_drop,Nat.add_zero]
    ·simp only[hle,if_false];exact List.getElem?_eq_none (by omega)
  ·rename_i hno;split
   ·rename_i l hl;split at hl
    ·rename_i cs fl ho;exact absurd ho (hno cs fl)
    ·simp at hl
   ·rfl
 rw[key S,key S',h]
theorem kN{S:List Ob}{x:Ob}{id off n:Nat}(h:id<S.length):oD (x::S) id off n=oD S id off n:=by unfold oD;rw[de h]
theorem vP{f:Task->Option Out}{k r i:Nat}{ops:List Oper}{vals:List V}{fl:Fl}{S S':List Ob}{o:Oper}{v:V}{id off n:Nat}(h:aC f (fP P aF k r i ops vals fl S o)=some (v,S'))(hs:dG P vals id off n o=true)(hid:id<S.length):
  oD S' id off n=oD S id off n:=by
 unfold fP at h;split at h
 ·-- box
  simp only[aX,Option.bind_eq_some_iff,aC,Option.some.injEq]at h;obtain⟨sz,hsz,vx,hvx,r',hr',e⟩:=h;subst e;have hn:∀{t cs fl},kl S t fl cs=some (v,S')->oD S' id off n=oD S id off n:=by
   intro t cs fl h;unfold kl at h;split at h
   ·simp at h;rw[<-h.2];exact kN hid
   ·simp at h
  unfold ou at hr';split at hr'
  ·split at hr'
   ·exact hn hr'
   ·simp at hr'
  ·split at hr'
   ·exact hn hr'
   ·simp at hr'
 ·-- store
  rename_i t ad x hop;simp only[aX,Option.bind_eq_some_iff,aC,Option.some.injEq,Prod.mk.injEq]at h;obtain⟨g,hg,sz,hsz,va,hva,vx,hvx,S1,hS1,rfl,rfl⟩:=h;unfold dG at hs;simp only[hop,hva,hsz]at hs;unfold j7 at hS1;split at hS1;rotate_left
  ·simp at hS1
  rename_i id' off';simp only[Bool.or_eq_true,bne_iff_ne,decide_eq_true_eq]at hs;split at hS1;rotate_left
  ·simp at hS1
  rename_i cs fl0 hob;have hset:∀(cs':List V) (fl':Fl),cs'.length=cs.length->(id=id'->(cs'.drop off).take n=(cs.drop off).take n)->oD (oset S id' (.cells cs' fl')) id off n=oD S id off n:=by
   intro cs' fl' hl he;unfold oD;by_cases e:id=id'
   ·subst e;rw[cz hid,hob];simp only[hl,he rfl]
   ·rw[bV e]
  split at hS1
  ·split at hS1;rotate_left
   ·simp at hS1
   rename_i ds;split at hS1;rotate_left
   ·simp at hS1
   rename_i hc;obtain⟨h1,h2,_,_⟩:=hc;injection hS1 with hS1;subst hS1
   refine hset _ _ (by simp[zH];omega) λ e=>?_;apply List.ext_getElem?;intro j;rcases Nat.lt_or_ge j n with hj|hj
   ·rw[List.getElem?_take_of_lt hj,List.getElem?_take_of_lt hj,List.getElem?_drop,List.getElem?_drop];have hne:¬(off'<=off+j/\off+j<off'+sz):=by
     rcases hs with(hs|hs)|hs
     ·exact absurd e hs
     ·omega
     ·omega
    unfold zH;rcases Nat.lt_or_ge (off+j) off' with h3|h3
    ·rw[List.append_assoc,List.getElem?_append_left (by simp;omega),List.getElem?_take_of_lt h3]
    ·rw[List.getElem?_append_right (by simp;omega),List.getElem?_drop]
     congr 1;simp;omega
   ·rw[List.getElem?_eq_none (by simp;omega),List.getElem?_eq_none (by simp;omega)]
  ·split at hS1;rotate_left
   ·simp at hS1
   rename_i hc;obtain⟨_,rfl,h2,_⟩:=hc;injection hS1 with hS1;subst hS1
   refine hset _ _ (by simp) λ e=>?_;apply List.ext_getElem?;intro j;rcases Nat.lt_or_ge j n with hj|hj
   ·rw[List.getElem?_take_of_lt hj,List.getElem?_take_of_lt hj,List.getElem?_drop,List.getElem?_drop];rw[List.getElem?_set_ne];rcases hs with(hs|hs)|hs
    ·exact absurd e hs
    ·omega
    ·omega
   ·rw[List.getElem?_eq_none (by simp;omega),List.getElem?_eq_none (by simp;omega)]
 ·-- a map
  split at h
  ·simp only[aC,Option.some.injEq]at h;obtain⟨rfl,rfl⟩:=Prod.mk.inj h;exact kN hid
  ·simp[aC]at h
 ·-- a make
  simp only[aX,Option.bind_eq_some_iff,bI]at h;obtain⟨e,he,z,hz,h⟩:=h;split at h;rotate_left
  ·simp at h
  split at h
  ·simp only[aX,Option.bind_eq_some_iff,aC,Option.some.injEq,Prod.mk.injEq]at h;obtain⟨vn,hvn,vc,hvc,v',hv',rfl,rfl⟩:=h;rfl
  ·simp only[aX,Option.bind_eq_some_iff,aC,Option.some.injEq]at h;obtain⟨vn,hvn,vc,hvc,r',hr',e'⟩:=h;subst e';unfold nT at hr';split at hr'
   ·split at hr'
    ·simp at hr';rw[<-hr'.2];exact kN hid
    ·simp at hr'
   ·simp at hr'
  ·simp[aC]at h
 ·-- a row of parts
  simp only[aX,Option.bind_eq_some_iff,bI]at h;obtain⟨e,he,h⟩:=h;split at h;rotate_left
  ·simp at h
  split at h
  ·simp only[aX,Option.bind_eq_some_iff,bI]at h;obtain⟨xs,hxs,h⟩:=h;split at h;rotate_left
   ·simp at h
   simp only[aC,Option.some.injEq]at h;obtain⟨rfl,rfl⟩:=Prod.mk.inj h;exact kN hid
  ·simp[aC]at h
 ·-- a text's runes
  split at h
  ·simp only[aX,Option.bind_eq_some_iff]at h;obtain⟨vx,hvx,h⟩:=h;split at h
   ·simp only[aC,Option.some.injEq]at h;obtain⟨rfl,rfl⟩:=Prod.mk.inj h;exact kN hid
   ·simp[aC]at h
  ·simp[aC]at h
 ·-- the next rune
  simp only[aX,Option.bind_eq_some_iff,aC,Option.some.injEq]at h;obtain⟨va,hva,r',hr',e⟩:=h;subst e;unfold rG at hr';split at hr';rotate_left
  ·simp at hr'
  rename_i id';split at hr';rotate_left
  ·simp at hr'
  rename_i s pos hob;split at hr'
  ·simp only[Option.some.injEq,Prod.mk.injEq]at hr';rw[<-hr'.2];unfold oD;by_cases e:id=id'
   ·subst e;rw[cz hid,hob]
   ·rw[bV e]
  ·simp only[Option.some.injEq,Prod.mk.injEq]at hr';rw[<-hr'.2]
 ·-- an entry of a map
  split at h;rotate_left
  ·simp[aC]at h
  simp only[aX,bI,Option.bind_eq_some_iff]at h;obtain⟨vm,hvm,vk,hvk,vx,hvx,kd,hkd,h⟩:=h;split at h;rotate_left
  ·simp at h
  simp only[Option.bind_eq_some_iff,aC,Option.some.injEq,Prod.mk.injEq]at h;obtain⟨S1,hS1,rfl,rfl⟩:=h;unfold hO at hS1;split at hS1;rotate_left
  ·simp at hS1
  rename_i id' kd xd;split at hS1;rotate_left
  ·simp at hS1
  rename_i es hob;split at hS1;rotate_left
  ·simp at hS1
  injection hS1 with hS1;subst hS1
  unfold oD;by_cases e:id=id'
  ·subst e;rw[cz hid,hob]
  ·rw[bV e]
 ·rename_i hop;simp[dG,hop]at hs
 ·-- a call
  rename_i c hop;split at h
  ·rename_i hcal;split at h;rotate_left
   ·simp[aC]at h
   simp only[aX,Option.bind_eq_some_iff,bI]at h;obtain⟨e,he,sz,hsz,bx,hbx,vy,hvy,h⟩:=h;split at h;rotate_left
   ·simp at h
   split at h
   ·simp only[bI]at h;split at h;rotate_left
    ·simp at h
    simp only[aX,Option.bind_eq_some_iff,aC,Option.some.injEq,Prod.mk.injEq]at h;obtain⟨v',hv',rfl,rfl⟩:=h;rfl
   ·simp only[bI,aX]at h;split at h;rotate_left
    ·simp at h
    simp only[Option.bind_eq_some_iff,aC,Option.some.injEq]at h;obtain⟨r',hr',e'⟩:=h;subst e';unfold jW at hr';split at hr'
    ·split at hr'
     ·split at hr'
      ·simp at hr';rw[<-hr'.2];exact kN hid
      ·simp at hr'
     ·simp at hr'
    ·simp at hr'
   ·simp only[bI,aX,Option.bind_eq_some_iff,aC]at h;obtain⟨q,hq,h⟩:=h;split at h;rotate_left
    ·simp at h
    simp only[Option.bind_eq_some_iff,Option.some.injEq,Prod.mk.injEq]at h;obtain⟨v',hv',rfl,rfl⟩:=h;rfl
   ·simp only[bI,aX,Option.bind_eq_some_iff,aC]at h;obtain⟨q,hq,⟨z,S1⟩,hun,h⟩:=h;split at h;rotate_left
    ·simp at h
    simp only[Option.bind_eq_some_iff,Option.some.injEq,Prod.mk.injEq]at h;obtain⟨v',hv',rfl,rfl⟩:=h;unfold qJ at hun;split at hun;rotate_left
    ·simp at hun
    split at hun;rotate_left
    ·simp at hun
    rename_i id' off' _ _ cs fl1 hob;split at hun;rotate_left
    ·simp at hun
    injection hun with hun;injection hun with _ hun;subst hun
    unfold oD;by_cases e:id=id'
    ·subst e;rw[cz hid,hob]
    ·rw[bV e]
   ·simp[aC]at h
  ·rename_i fv hcal;simp only[aX,Option.bind_eq_some_iff]at h;obtain⟨args,hargs,vf,hvf,h⟩:=h;split at h;rotate_left
   ·simp[aC]at h
   rename_i g caps;simp only[bI]at h;split at h;rotate_left
   ·simp at h
   rename_i hrb;simp only[decide_eq_true_eq]at hrb;rw[ft]at h;obtain⟨out,hout,h⟩:=Option.bind_eq_some_iff.1 h;simp only[aX,Option.bind_eq_some_iff,aC,Option.some.injEq]at h;obtain⟨r2,hj,e⟩:=h;subst e;obtain⟨sh1,_⟩:=iT hj;unfold dG at hs;simp only[hop,hcal,hargs,hvf,bP,Bool.and_eq_true]at hs;have h1:lD (args++caps)<=id:=by
    refine(gv _ _).1 ?_;have h2:=hs.1;have h3:=hs.2;rw[da]at h2 h3⊢;intro c hc;rcases List.mem_append.1 hc with h|h
    ·exact h2 c h
    ·exact h3 c h
   have hg:bT S' id=bT S id:=by
    rcases sh1 with⟨h3,h4⟩|⟨cs,fl',S1,h3,h4,_,h5⟩
    ·simp only at h4;rw[h4];exact tw hrb h3 h1
    ·simp only at h5;rw[h5,de (by simp[eQ hrb,h4];omega)];exact tw hrb h4 h1
   unfold oD;rw[hg]
  ·simp[aC]at h
 ·simp[aC]at h
end
section
variable {P : Program} {aF : Pol}
inductive OpStep (P:Program) (aF:Pol) (f:Task->Option Out) (k r i:Nat) (ops:List Oper) (o:Oper) (id:Nat) (vals:List V) (fl:Fl) (S:List Ob):V->List Ob->Prop where
 |alloc (h:cq o=true):OpStep P aF f k r i ops o id vals fl S (qN o id) S
 |pure {v:V} (h:cq o=false) (hg:lP aF k r i o=true) (he:fU P o=false) (hp:Br P ops vals S o=some v):OpStep P aF f k r i ops o id vals fl S v S
 |eff {v:V} {S':List Ob} (h:cq o=false) (hg:lP aF k r i o=true) (he:fU P o=true) (hp:aC f (oS P aF k r i ops vals fl S o)=some (v,S')):OpStep P aF f k r i ops o id vals fl S v S'
structure Trace (P:Program) (aF:Pol) (f:Task->Option Out) (k r:Nat) (ops rest:List Oper) (i:Nat) (vs:Nat->List V) (fls:Nat->Fl) (Ss:Nat->List Ob) (ids:Nat->Nat) (rv:Nat->V):Prop where
 step:∀j o,rest[j]?=some o->OpStep P aF f k r (i+j) ops o (ids j) (vs j) (fls j) (Ss j) (rv j) (Ss (j+1))
 vs:∀j o,rest[j]?=some o->vs (j+1)=rH o.dst (rv j) (vs j)
 fls:∀j o,rest[j]?=some o->fls (j+1)=cg P aF k r (i+j) ops (fls j) o
 ids:∀j o,rest[j]?=some o->ids (j+1)=if cq o=true then ids j+1 else ids j
def shift{α:Type}(a:α)(g:Nat->α):Nat->α
 |0=>a
 |n+1=>g n
theorem Gs{f:Task->Option Out}{k r:Nat}{ops:List Oper}{K:List V->Fl->List Ob->Tr}{res:Out}:∀(rest:List Oper) (i id:Nat) (vals:List V) (fl:Fl) (S:List Ob),aC f (j0 P aF k r ops rest i id vals fl S K)=some res->
  ∃vs fls Ss ids rv,vs 0=vals/\fls 0=fl/\Ss 0=S/\ids 0=id/\Trace P aF f k r ops rest i vs fls Ss ids rv/\aC f (K (vs rest.length) (fls rest.length) (Ss rest.length))=some res
 | [],i,id,vals,fl,S,h=>⟨λ _=>vals,λ _=>fl,λ _=>S,λ _=>id,λ _ => .u,rfl,rfl,rfl,rfl,⟨by simp,by simp,by simp,by simp⟩,h⟩
 |o::os,i,id,vals,fl,S,h=>by
  have key:∀(v:V) (S':List Ob),OpStep P aF f k r i ops o id vals fl S v S'->aC f (j0 P aF k r ops os (i+1) (if cq o=true then id+1 else id) (rH o.dst v vals) (cg P aF k r i ops fl o) S' K)=some res->
    ∃vs fls Ss ids rv,vs 0=vals/\fls 0=fl/\Ss 0=S/\ids 0=id/\Trace P aF f k r ops (o::os) i vs fls Ss ids rv/\aC f (K (vs (o::os).length) (fls (o::os).length) (Ss (o::os).length))=some res:=by
   intro v S' hs hr;obtain⟨vs,fls,Ss,ids,rv,h1,h2,h3,h4,h5,h6⟩:=Gs os _ _ _ _ _ hr;refine⟨shift vals vs,shift fl fls,shift S Ss,shift id ids,shift v rv,rfl,rfl,rfl,rfl,⟨?_,?_,?_,?_⟩,h6⟩
   ·intro j o' hj
    cases j with
    |zero=>simp at hj;subst hj;simp only[shift,Nat.add_zero,h3];exact hs
    |succ j=>have:=h5.step j o' (by simpa using hj);rw[Nat.add_assoc,Nat.add_comm 1 j]at this;exact this
   ·intro j o' hj
    cases j with
    |zero=>simp at hj;subst hj;simp only[shift,h1]
    |succ j=>exact h5.vs j o' (by simpa using hj)
   ·intro j o' hj
    cases j with
    |zero=>simp at hj;subst hj;simp only[shift,Nat.add_zero,h2]
    |succ j=>have:=h5.fls j o' (by simpa using hj);rw[Nat.add_assoc,Nat.add_comm 1 j]at this;exact this
   ·intro j o' hj
    cases j with
    |zero=>simp at hj;subst hj;simp only[shift,h4]
    |succ j=>exact h5.ids j o' (by simpa using hj)
  simp only[j0]at h;split at h
  ·rename_i ha;exact key _ _ (.alloc ha) (by rw[if_pos ha];exact h)
  ·rename_i ha;split at h
   ·simp[aC]at h
   ·rename_i hg;split at h
    ·rename_i he;rw[aX]at h;obtain⟨v,hv,h⟩:=Option.bind_eq_some_iff.1 h;exact key v S (.pure ha hg he hv) (by rw[if_neg (by simp[ha])];exact h)
    ·rename_i he;rw[o5]at h;obtain⟨⟨v,S'⟩,hv,h⟩:=Option.bind_eq_some_iff.1 h;exact key v S' (.eff ha hg he hv) (by rw[if_neg (by simp[ha])];exact h)
def Ae(ops:List Oper)(j:Nat):Nat:=((ops.take j).filter cq).length
theorem si(ops:List Oper):Ae ops 0=0:=by simp[Ae]
theorem sf{ops:List Oper}{j:Nat}{o:Oper}(h:ops[j]?=some o):Ae ops (j+1)=if cq o=true then Ae ops j+1 else Ae ops j:=by unfold Ae;rw[List.take_add_one,h];simp[List.filter_append];cases ha:cq o<;>simp[List.filter,ha]
theorem w9{ops:List Oper}{i j:Nat}(h:i<=j):Ae ops i<=Ae ops j:=by
 unfold Ae;have:ops.take i=(ops.take j).take i:=by rw[List.take_take,Nat.min_eq_left h]
 rw[this];exact(List.Sublist.filter _ (List.take_sublist _ _)).length_le
inductive NewAt (P:Program) (all:List Oper) (vals:List V) (o:Oper):Ob->Prop where
 |var {t:TypeId} {z:List V} {fl:Fl} (hop:o.op = .alloc t) (hz:fS P t=some z) (h1:z.all V.one=true) (hf:lO (some t) z fl=true):NewAt P all vals o (.cells z fl)
 |map {t:TypeId} (hop:o.op = .makeMap t none):NewAt P all vals o (.map [])
 |box {t:TypeId} {q sz:Nat} {cs:List V} {fl:Fl} (hop:o.op = .box t (.tmp q)) (hgu:o.guard=none) (hq:∀e∈all,e.dst≠some q) (hb:mw sz (vals.getD q .u)=some cs) (h1:cs.all V.one=true) (hf:lO (some t) cs fl=true):NewAt P all vals o (.cells cs fl)
theorem jN{w:World}{G:Sg}{k r:Nat}{all:List Oper}{vals:List V}:∀(ops:List Oper) (i:Nat) (S S1:List Ob),kQ P aF k r all vals ops i S=some S1->Inv w G S->
  Inv w G S1/\Ext w G S w G S1/\S1.length=S.length+Ae ops ops.length/\(∀id,id<S.length->bT S1 id=bT S id)/\
   ∀j o,ops[j]?=some o->cq o=true->∃x,NewAt P all vals o x/\bT S1 (S.length+Ae ops j)=some x
 | [],i,S,S1,h,hI=>by
  simp[kQ]at h;subst h;exact⟨hI,Ext.refl _ _ _,by simp[Ae],λ _ _=>rfl,by simp⟩
 |o::os,i,S,S1,h,hI=>by
  have hc0:∀j,Ae (o::os) (j+1)=(if cq o=true then 1 else 0)+Ae os j:=by intro j;unfold Ae;rw[List.take_succ_cons];cases ha:cq o<;>simp[List.filter,ha];omega
  have hskip:cq o=false->kQ P aF k r all vals os (i+1) S=some S1->Inv w G S1/\Ext w G S w G S1/\S1.length=S.length+Ae (o::os) (o::os).length/\(∀id,id<S.length->bT S1 id=bT S id)/\
   ∀j o',(o::os)[j]?=some o'->cq o'=true->∃x,NewAt P all vals o' x/\bT S1 (S.length+Ae (o::os) j)=some x:=by
   intro ha hr;obtain⟨h1,h2,h3,h4,h5⟩:=jN os (i+1) S S1 hr hI;refine⟨h1,h2,by rw[List.length_cons,hc0,h3,ha];simp,h4,λ j o' hj ho'=>?_⟩
   cases j with
   |zero=>simp at hj;subst hj;rw[ha]at ho';cases ho'
   |succ j=>
    obtain⟨x,p1,p5⟩:=h5 j o' (by simpa using hj) ho';exact⟨x,p1,by rw[hc0,ha];simpa using p5⟩
  simp only[kQ]at h;split at h
  ·rename_i t hop hgu;have ha:cq o=true:=by simp[cq,hop,hgu]
   split at h;rotate_left
   ·simp at h
   rename_i z hz;split at h;rotate_left
   ·simp at h
   rename_i w1 hw1;unfold kl at hw1;split at hw1;rotate_left
   ·simp at hw1
   rename_i hcond;obtain⟨c1,c2,c3⟩:=hcond;injection hw1 with hw1;subst hw1
   obtain⟨h1,h2,h3,h4,h5⟩:=jN os (i+1) _ S1 h (hI.phantom _ (by intro cs fl e;injection e with e _;subst e;exact dh (by omega) _ c3));simp only[List.length_cons]at h3 h4 h5;refine⟨h1,(Ext.phantom _).trans h2,by rw[List.length_cons,hc0,h3,ha];simp;omega,λ id hid=>by rw[h4 id (by omega),de hid],λ j o' hj ho'=>?_⟩
   cases j with
   |zero=>
    simp at hj;subst hj;refine⟨_,.var hop hz c2 c1,?_⟩;rw[si,Nat.add_zero,h4 _ (by omega)];simp[bT]
   |succ j=>
    obtain⟨x,p1,p5⟩:=h5 j o' (by simpa using hj) ho';refine⟨x,p1,?_⟩;rw[hc0,ha,if_pos rfl,<-Nat.add_assoc];exact p5
  ·rename_i t hop hgu;have ha:cq o=true:=by simp[cq,hop,hgu]
   obtain⟨h1,h2,h3,h4,h5⟩:=jN os (i+1) _ S1 h (hI.phantom _ (by intro cs fl e;cases e));simp only[List.length_cons]at h3 h4 h5;refine⟨h1,(Ext.phantom _).trans h2,by rw[List.length_cons,hc0,h3,ha];simp;omega,λ id hid=>by rw[h4 id (by omega),de hid],λ j o' hj ho'=>?_⟩
   cases j with
   |zero=>
    simp at hj;subst hj;refine⟨_,.map hop,?_⟩;rw[si,Nat.add_zero,h4 _ (by omega)];simp[bT]
   |succ j=>
    obtain⟨x,p1,p5⟩:=h5 j o' (by simpa using hj) ho';refine⟨x,p1,?_⟩;rw[hc0,ha,if_pos rfl,<-Nat.add_assoc];exact p5
  ·rename_i t q hop hgu;split at h
   ·rename_i hae;have ha:cq o=true:=by simp[cq,hop,hgu,hae]
    split at h;rotate_left
    ·simp at h
    rename_i hall;split at h;rotate_left
    ·simp at h
    rename_i sz hsz;split at h;rotate_left
    ·simp at h
    rename_i w1 hw1;rw[OH]at hw1;obtain⟨z,hz,hw1⟩:=Option.bind_eq_some_iff.1 hw1;unfold kl at hw1;split at hw1;rotate_left
    ·simp at hw1
    rename_i hcond;obtain⟨c1,c2,c3⟩:=hcond;injection hw1 with hw1;subst hw1
    obtain⟨h1,h2,h3,h4,h5⟩:=jN os (i+1) _ S1 h (hI.phantom _ (by intro cs fl e;injection e with e _;subst e;exact dh (by omega) _ c3));simp only[List.length_cons]at h3 h4 h5;refine⟨h1,(Ext.phantom _).trans h2,by rw[List.length_cons,hc0,h3,ha];simp;omega,λ id hid=>by rw[h4 id (by omega),de hid],λ j o' hj ho'=>?_⟩
    cases j with
    |zero=>
     simp at hj;subst hj;refine⟨_,.box hop hgu (λ e he hd=>?_) hz c2 c1,?_⟩
     ·have:=List.all_eq_true.1 hall e he;rw[hd]at this;simp at this
     rw[si,Nat.add_zero,h4 _ (by omega)];simp[bT]
    |succ j=>
     obtain⟨x,p1,p5⟩:=h5 j o' (by simpa using hj) ho';refine⟨x,p1,?_⟩;rw[hc0,ha,if_pos rfl,<-Nat.add_assoc];exact p5
   ·rename_i hae;exact hskip (by simp[cq,hop,hgu,hae]) h
  ·rename_i hno hno2 hno3;refine hskip ?_ h;unfold cq;split
   ·rename_i t h1 h2;exact absurd h2 (hno t h1)
   ·rename_i t h1 h2;exact absurd h2 (hno2 t h1)
   ·rename_i t q h1 h2;exact absurd h2 (hno3 t q h1)
   ·rfl
theorem Oj{acc:List Nat}{o:Oper}{i:Nat}(h:(mask acc o).testBit i=true):∃e∈o.after.toList,Region.binds .any e=true/\(e.on=i\/(acc.getD e.on 0).testBit i=true):=by
 unfold mask at h;have key:∀(l:List Edge) (s:Nat),(l.foldl (λ s e=>if Region.binds .any e then s ||| 2^e.on ||| acc.getD e.on 0 else s) s).testBit i=true->s.testBit i=true\/∃e∈l,Region.binds .any e=true/\(e.on=i\/(acc.getD e.on 0).testBit i=true):=by
  intro l
  induction l with
  |nil=>intro s h;exact .inl h
  |cons e l ih=>
   intro s h;rw[List.foldl_cons]at h;rcases ih _ h with h|⟨e',h1,h2⟩
   ·split at h
    ·rename_i hb;rw[Nat.testBit_or,Nat.testBit_or,Nat.testBit_two_pow]at h;simp only[Bool.or_eq_true,decide_eq_true_eq]at h;rcases h with(h|h)|h
     ·exact .inl h
     ·exact .inr ⟨e,by simp,hb,.inl h⟩
     ·exact .inr ⟨e,by simp,hb,.inr h⟩
    ·exact .inl h
   ·exact .inr ⟨e',by simp[h1],h2⟩
 rcases key _ _ h with h|h
 ·simp at h
 ·exact h
theorem lK:∀(os:List Oper) (acc:List Nat),(gM os acc).length=acc.length+os.length
 | [],acc=>by simp[gM]
 |o::os,acc=>by simp only[gM,lK os,List.length_append,List.length_cons,List.length_nil];omega
theorem tO:∀(os:List Oper) (acc:List Nat) (j:Nat),j<acc.length->(gM os acc).getD j 0=acc.getD j 0
 | [],acc,j,_=>rfl
 |o::os,acc,j,h=>by
  simp only[gM];rw[tO os _ j (by simp;omega)];simp[List.getElem?_append_left h]
theorem DE:∀(os:List Oper) (acc:List Nat) (j:Nat) (o:Oper),os[j]?=some o->(gM os acc).getD (acc.length+j) 0=mask ((gM os acc).take (acc.length+j)) o
 | [],acc,j,o,h=>by simp at h
 |o'::os,acc,0,o,h=>by
  simp at h;subst h;simp only[gM,Nat.add_zero];rw[tO os _ _ (by simp)];have:(gM os (acc++[mask acc o'])).take acc.length=acc:=by
   apply List.ext_getElem?;intro j;rcases Nat.lt_or_ge j acc.length with hj|hj
   ·rw[List.getElem?_take_of_lt hj];have h1:=tO os (acc++[mask acc o']) j (by simp;omega);have h2:j<(gM os (acc++[mask acc o'])).length:=by rw[lK];simp;omega
    rw[List.getElem?_eq_getElem h2,List.getElem?_eq_getElem hj];simp only[List.getD_eq_getElem?_getD,List.getElem?_eq_getElem h2,Option.getD_some,List.getElem?_append_left hj,List.getElem?_eq_getElem hj]at h1;rw[h1]
   ·rw[List.getElem?_eq_none (by simp;omega),List.getElem?_eq_none hj]
  rw[this];simp
 |o'::os,acc,j+1,o,h=>by
  have:=DE os (acc++[mask acc o']) j o (by simpa using h);simp only[List.length_append,List.length_cons,List.length_nil]at this;simp only[gM];rw[show acc.length+(j+1)=acc.length+(0+1)+j by omega];exact this
def nn(ops:List Oper)(L:Nat->Prop):Prop:=∀j o,ops[j]?=some o->L j->∀e∈o.after.toList,Region.binds .any e=true->L e.on
theorem jO{ops:List Oper}{L:Nat->Prop}(hc:nn ops L):∀(j:Nat) (o:Oper),ops[j]?=some o->(∀e∈o.after.toList,Region.binds .any e=true->L e.on)->∀i,((gM ops []).getD j 0).testBit i=true->L i:=by
 intro j
 induction j using Nat.strongRecOn with
 |_ j ih=>
  intro o ho hd i hi;have hg:=DE ops [] j o ho;simp only[List.length_nil,Nat.zero_add]at hg;rw[hg]at hi;obtain⟨e,he,hb,h⟩:=Oj hi;have hL:=hd e he hb;rcases h with h|h
  ·exact h▸hL
  ·rcases Nat.lt_or_ge e.on j with hlt|hge
   ·have h1:((gM ops []).take j).getD e.on 0=(gM ops []).getD e.on 0:=by simp[List.getElem?_take_of_lt hlt]
    rw[h1]at h
    cases ho':ops[e.on]? with
    |none=>
     have:(gM ops []).getD e.on 0=0:=by
      rw[List.getD_eq_getElem?_getD,List.getElem?_eq_none]
      ·rfl
      ·rw[lK];simp;exact List.getElem?_eq_none_iff.1 ho'
     rw[this]at h;simp at h
    |some o'=>exact ih e.on hlt o' ho' (hc e.on o' ho' hL) i h
   ·have:((gM ops []).take j).getD e.on 0=0:=by
     rw[List.getD_eq_getElem?_getD,List.getElem?_eq_none]
     ·rfl
     ·simp;omega
    rw[this]at h;simp at h
end
end Go.Dn
