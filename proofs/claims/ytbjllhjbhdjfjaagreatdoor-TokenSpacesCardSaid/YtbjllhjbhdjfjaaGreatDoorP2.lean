/- Worlds that are written: steps, and what they leave alone. -/
import Derived.Test.YtbjllhjbhdjfjaaGreatDoorP1
import Derived.Laws.IdiomStrings
import Derived.Laws.MakeOwn
set_option linter.unusedVariables false
set_option linter.unusedSimpArgs false
set_option linter.unusedSectionVars false
namespace Go.Dn
set_option linter.unusedVariables false
set_option linter.unusedSimpArgs false
def putRow(w:World)(b:Nat)(arr:Array Value)(el:TypeId)(fz:Nat×Nat):World:={ w with heap:=w.heap.setIfInBounds b (.cells arr el fz) }
theorem eY{w:World}{b:Nat}{arr:Array Value}{el:TypeId}{fz:Nat×Nat}(h:b<w.heap.size):(putRow w b arr el fz).heap[b]?=some (.cells arr el fz):=by
 simp only[putRow,Array.getElem?_setIfInBounds,if_pos h,if_true]
theorem bU{w:World}{b c:Nat}{arr:Array Value}{el:TypeId}{fz:Nat×Nat}(h:c≠b):(putRow w b arr el fz).heap[c]?=w.heap[c]?:=by
 simp only[putRow,Array.getElem?_setIfInBounds,if_neg (Ne.symm h)]
theorem putRow_putRow{w:World}{b:Nat}{arr arr':Array Value}{el:TypeId}{fz:Nat×Nat}:putRow (putRow w b arr el fz) b arr' el fz=putRow w b arr' el fz:=by
 simp[putRow,Array.setIfInBounds_setIfInBounds]
theorem kr{w:World}{b:Nat}{o:Obj}(h:w.heap[b]?=some o):b<w.heap.size:=(Array.getElem?_eq_some_iff.1 h).1
theorem sY{w:World}{b o:Nat}{v:Value}{arr:Array Value}{el:TypeId}{fz:Nat×Nat}(h:w.heap[b]?=some (.cells arr el fz)):
  w.setCell ⟨b,o,none⟩ v=putRow w b (arr.setIfInBounds o v) el fz:=by
 unfold World.setCell putRow
 congr 1
 apply Array.ext_getElem?
 intro i
 rw[Array.getElem?_modify,Array.getElem?_setIfInBounds]
 by_cases e:b=i
 ·subst e;rw[h];simp[kr h]
 ·simp[e]
theorem eB{P:Program}{b el:Nat}{fz:Nat×Nat}:∀(vs:List Value) (o i:Nat) (w:World) (arr:Array Value),w.heap[b]?=some (.cells arr el fz)->o+i+vs.length<=arr.size->
  (∀j,j<vs.length->¬(fz.1<=o+i+j/\o+i+j<fz.2))->(∀v∈vs,v.oneCell'=true)->
  ∃arr':Array Value,(storeCells ⟨b,o,none⟩ vs i).run P w = .ok () (putRow w b arr' el fz)/\arr'.toList=iW arr.toList (o+i) vs/\arr'.size=arr.size
 | [],o,i,w,arr,h,_,_,_=>by
  refine⟨arr,?_,by simp[iW],rfl⟩
  have:putRow w b arr el fz=w:=by
   unfold putRow
   congr 1
   apply Array.ext_getElem?
   intro j
   rw[Array.getElem?_setIfInBounds]
   split
   ·rename_i e;subst e;rw[h,if_pos (kr h)]
   ·rfl
  rw[this];rfl
 |v::vs,o,i,w,arr,h,hle,hf,h1=>by
  simp only[List.length_cons]at hle
  have hc:w.cell? ⟨b,o+i,none⟩=some arr[o+i]:=by
   simp[World.cell?,h,Array.getElem?_eq_getElem (show o+i<arr.size by omega)]
  have hfr:w.frozen? ⟨b,o+i,none⟩=false:=by
   have:=hf 0 (by simp)
   simp only[World.frozen?,h]
   simpa using this
  have hb:=kr h
  obtain⟨arr',e1,e2,e3⟩:=eB (P:=P) vs o (i+1) (putRow w b (arr.setIfInBounds (o+i) v) el fz) (arr.setIfInBounds (o+i) v) (eY hb) (by simp;omega)
   (fun j hj=>by have:=hf (j+1) (by simp;omega);rwa[show o+(i+1)+j=o+i+(j+1) by omega]) (fun x hx=>h1 x (by simp[hx]))
  refine⟨arr',?_,?_,by simpa using e3⟩
  ·simp only[storeCells,Sem.run_bind,Addr.add_plain,run_store P w _ v .plain (h1 v (by simp)),hc]
   rw[if_neg (by simp[hfr])]
   simp only[Result.andThen_ok,sY h,e1,putRow_putRow]
  ·rw[e2,<-Nat.add_assoc,Ch _ _ _ _ (by omega)]
theorem RD.one'{F:Fz}{x:D}{v:Value}(h:RD F x v)(h1:(V.d x).one=true):v.oneCell'=true:=by
 cases x with
 |g cs=>simp[V.one]at h1
 |np=>simp only[RD]at h;subst h;rfl
 |b y=>simp only[RD]at h;subst h;rfl
 |i k y=>simp only[RD]at h;subst h;rfl
 |s y=>simp only[RD]at h;subst h;rfl
 |l fl y=>simp only[RD]at h;obtain⟨_,_,_,_,rfl,_⟩:=h;rfl
theorem RV.one'{G:Sg}{c:V}{v:Value}(h:RV G c v)(h1:c.one=true):v.oneCell'=true:=by
 cases c with
 |d x=>simp only[RV]at h;exact h.one' h1
 |m id off len=>simp only[RV]at h;obtain⟨_,_,rfl,_⟩:=h;rfl
 |p id off=>simp only[RV]at h;obtain⟨_,_,rfl⟩:=h;rfl
 |np=>simp only[RV]at h;subst h;rfl
 |e xs i off=>simp only[RV]at h;obtain⟨_,_,_,rfl,_⟩:=h;rfl
 |mp id=>simp only[RV]at h;obtain⟨_,_,rfl⟩:=h;rfl
 |nmp=>simp only[RV]at h;subst h;rfl
 |f k caps=>simp only[RV]at h;obtain⟨_,rfl,_⟩:=h;rfl
 |nf=>simp only[RV]at h;subst h;rfl
 |t vs=>simp[V.one]at h1
 |ifc ty x=>simp only[RV]at h;obtain⟨_,rfl,_⟩:=h;rfl
 |nifc=>simp only[RV]at h;subst h;rfl
 |it id=>simp only[RV]at h;obtain⟨_,_,rfl⟩:=h;rfl
 |u=>simp[V.one]at h1
theorem RV.cells_one{G:Sg}{c:V}{v:Value}(h:RV G c v)(h1:c.one=true):v.cells=#[v]:=by
 have:=RV.one' h h1
 cases v<;>first|rfl|simp[Value.oneCell']at this
structure Ext (w:World) (G:Sg) (S:List Ob) (w':World) (G':Sg) (S':List Ob):Prop where
 os:w'.os=w.os
 tape:w'.tape=w.tape
 output:w'.output=w.output
 size:w.heap.size<=w'.heap.size
 F:GG G.F G'.F
 obj:∀b id,G.own b=some (.obj id)->G'.own b=some (.obj id)
 keep:∀b,b<w.heap.size->(G.own b=none\/G.own b=some .ext)->G'.own b=G.own b/\w'.heap[b]?=w.heap[b]?/\∀o,G'.F b o=G.F b o
 newo:∀b id,G'.own b=some (.obj id)->id<S.length->G.own b=some (.obj id)
 ph:∀id,id<S.length->(∀b,G.own b≠some (.obj id))->bE S' id=bE S id
 len:S.length<=S'.length
theorem Ext.le{w:World}{G:Sg}{S:List Ob}{w':World}{G':Sg}{S':List Ob}(h:Ext w G S w' G' S'):Le G G':=⟨h.F,h.obj⟩
theorem Ext.refl(w:World)(G:Sg)(S:List Ob):Ext w G S w G S:=
 ⟨rfl,rfl,rfl,Nat.le_refl _,fun _ _ _ h=>h,fun _ _ h=>h,fun _ _ _=>⟨rfl,rfl,fun _=>rfl⟩,fun _ _ h _=>h,fun _ _ _=>rfl,Nat.le_refl _⟩
theorem Ext.trans{w:World}{G:Sg}{S:List Ob}{w1:World}{G1:Sg}{S1:List Ob}{w2:World}{G2:Sg}{S2:List Ob}(h:Ext w G S w1 G1 S1)(k:Ext w1 G1 S1 w2 G2 S2):Ext w G S w2 G2 S2:={
 os:=k.os.trans h.os
 tape:=k.tape.trans h.tape
 output:=k.output.trans h.output
 size:=Nat.le_trans h.size k.size
 F b o v x:=k.F b o v (h.F b o v x)
 obj b id x:=k.obj b id (h.obj b id x)
 keep b hb ho:=by
  obtain⟨h1,h2,h3⟩:=h.keep b hb ho
  obtain⟨k1,k2,k3⟩:=k.keep b (Nat.lt_of_lt_of_le hb h.size) (by rw[h1];exact ho)
  exact⟨k1.trans h1,k2.trans h2,fun o=>(k3 o).trans (h3 o)⟩
 newo b id x hid:=h.newo b id (k.newo b id x (Nat.lt_of_lt_of_le hid h.len)) hid
 ph id hid hn:=(k.ph id (Nat.lt_of_lt_of_le hid h.len) fun b x=>hn b (h.newo b id x hid)).trans (h.ph id hid hn)
 len:=Nat.le_trans h.len k.len }
theorem Ext.of_grow{w:World}{G:Sg}{S:List Ob}{w':World}{G':Sg}(h:Grow w G w' G'):Ext w G S w' G' S:={
 os:=h.os
 tape:=h.tape
 output:=h.output
 size:=h.size
 F:=h.F
 obj b id x:=by rw[h.own];exact x
 keep b hb _:=⟨by rw[h.own],h.heap b hb,fun o=>h.old b o hb⟩
 newo b id x _:=by rw[<-h.own];exact x
 ph _ _ _:=rfl
 len:=Nat.le_refl _ }
end Go.Dn
namespace Go.Dn
set_option linter.unusedVariables false
set_option linter.unusedSimpArgs false
theorem cx:∀(S:List Ob) (id:Nat) (x:Ob),(oset S id x).length=S.length
 | [],_,_=>rfl
 |o::S,id,x=>by simp only[oset];split<;>simp[cx S id x]
theorem bX:∀{S:List Ob} {id:Nat} {x:Ob},id<S.length->bE (oset S id x) id=some x
 | [],_,_,h=>by simp at h
 |o::S,id,x,h=>by
  simp only[oset]
  split
  ·rename_i e;simp[bE,e]
  ·rename_i e
   simp only[bE,cx]
   rw[if_neg e]
   exact bX (by simp at h;omega)
theorem bK:∀{S:List Ob} {id j:Nat} {x:Ob},j≠id->bE (oset S id x) j=bE S j
 | [],_,_,_,_=>rfl
 |o::S,id,j,x,h=>by
  simp only[oset]
  split
  ·rename_i e;simp only[bE];rw[if_neg (by omega),if_neg (by omega)]
  ·simp only[bE,cx]
   split
   ·rfl
   ·exact bK h
theorem cz{S:List Ob}{o:Ob}{id:Nat}(h:id<S.length):bE (o::S) id=bE S id:=by
 simp only[bE];rw[if_neg (by omega)]
theorem kT:∀{S:List Ob} {id:Nat},id<S.length->∃o,bE S id=some o
 | [],_,h=>by simp at h
 |o::S,id,h=>by
  simp only[bE]
  split
  ·exact⟨o,rfl⟩
  ·exact kT (by simp at h;omega)
section
variable {P : Program} {w : World} {G : Sg} {S : List Ob}
theorem Inv.phantom(hI:Inv w G S)(o:Ob)(hr:∀cs fl,o = .cells cs fl->bg (S.length+1) cs=true):Inv w G (o::S):={
 fz:=hI.fz
 ob b id ho:=by
  obtain⟨h1,o',go,h2,h3,h4⟩:=hI.ob b id ho
  exact⟨h1,o',go,by rw[cz (cA h2)];exact h2,h3,h4⟩
 inj:=hI.inj
 tk:=hI.tk
 cl b id o ho:=by have:=hI.cl b id o ho;simp;omega
 rf id cs fl h:=by
  simp only[bE]at h
  split at h
  ·rename_i e;simp at h;rw[e];exact hr cs fl h
  ·exact hI.rf id cs fl h
 tb:=hI.tb }
theorem Ext.phantom(o:Ob):Ext w G S w G (o::S):=
 ⟨rfl,rfl,rfl,Nat.le_refl _,fun _ _ _ h=>h,fun _ _ h=>h,fun _ _ _=>⟨rfl,rfl,fun _=>rfl⟩,fun _ _ h _=>h,fun id hid _=>cz hid,by simp⟩
def cW(w:World)(go:Obj):World:={ w with heap:=w.heap.push go }
def ch(w:World)(G:Sg)(ℓ:Loc):Sg:={ G with own:=fun b=>if b=w.heap.size then some ℓ else G.own b }
theorem cN{go:Obj}{b:Nat}(h:b<w.heap.size):(cW w go).heap[b]?=w.heap[b]?:=by
 simp only[cW];rw[Array.getElem?_push,if_neg (by omega)]
theorem uZ{go:Obj}:(cW w go).heap[w.heap.size]?=some go:=by simp only[cW,Array.getElem?_push_size]
theorem jN(hI:Inv w G S)(ℓ:Loc):Le G (ch w G ℓ):=⟨fun _ _ _ h=>h,fun b id h=>by
 simp only[ch];rw[if_neg]
 ·exact h
 ·have:=hI.tk _ _ h;omega⟩
theorem mH{b:Nat}{ℓ ℓ':Loc}(hI:Inv w G S)(h:G.own b=some ℓ'):(ch w G ℓ).own b=some ℓ':=by
 simp only[ch];rw[if_neg]
 ·exact h
 ·have:=hI.tk _ _ h;omega
theorem dS.push(hI:Inv w G S){go:Obj}{ℓ ℓ':Loc}{sz:Nat}{v:Value}(h:dS w G ℓ' sz v):dS (cW w go) (ch w G ℓ) ℓ' sz v:=
 h.same fun blk ho=>⟨mH hI ho,cN (hI.tk _ _ ho),fun _=>rfl⟩
theorem Inv.push_obj(hI:Inv w G S){go:Obj}{id:Nat}{o:Ob}(hn:∀b,G.own b≠some (.obj id))(ho:bE S id=some o)(hor:fA (cW w go) (ch w G (.obj id)) id o go):
  Inv (cW w go) (ch w G (.obj id)) S:={
 fz b o v h:=by rw[cell?_of_heap (cN (hI.F_lt h))];exact hI.fz b o v h
 ob b id' h:=by
  by_cases e:b=w.heap.size
  ·subst e
   have:id'=id:=by simp only[ch,if_true]at h;injection h with h;injection h with h;exact h.symm
   subst this
   refine⟨fun x=>?_,o,go,ho,uZ,hor⟩
   cases hx:G.F w.heap.size x with
   |none=>exact hx
   |some y=>have:=hI.F_lt hx;omega
  ·simp only[ch,if_neg e]at h
   obtain⟨h1,o',go',h2,h3,h4⟩:=hI.ob b id' h
   exact⟨h1,o',go',h2,by rw[cN (hI.tk _ _ h)];exact h3,h4.same (jN hI _) fun off blk hk=>⟨mH hI hk,cN (hI.tk _ _ hk),fun _=>rfl⟩⟩
 inj b b' id' h h':=by
  by_cases e:b=w.heap.size
  ·by_cases e':b'=w.heap.size
   ·rw[e,e']
   ·simp only[ch,if_neg e']at h'
    simp only[ch,if_pos e]at h
    injection h with h;injection h with h;subst h
    exact absurd h' (hn b')
  ·simp only[ch,if_neg e]at h
   by_cases e':b'=w.heap.size
   ·simp only[ch,if_pos e']at h'
    injection h' with h';injection h' with h';subst h'
    exact absurd h (hn b)
   ·simp only[ch,if_neg e']at h'
    exact hI.inj b b' id' h h'
 tb:=hI.tb_of fun b hb ho=>⟨cN hb,by simp only[ch];rw[if_neg (by omega)];exact ho⟩
 tk b ℓ h:=by
  have:(cW w go).heap.size=w.heap.size+1:=by simp[cW]
  by_cases e:b=w.heap.size
  ·omega
  ·simp only[ch,if_neg e]at h
   have:=hI.tk b ℓ h;omega
 cl b id' o' h:=by
  by_cases e:b=w.heap.size
  ·simp only[ch,if_pos e]at h;injection h with h;cases h
  ·simp only[ch,if_neg e]at h;exact hI.cl b id' o' h
 rf:=hI.rf }
theorem Ext.push_obj(hI:Inv w G S){go:Obj}{id n0:Nat}(hid:n0<=id)(S0:List Ob)(hS:S0.length=n0)(hsame:∀id,id<n0->bE S id=bE S0 id)(hlen:n0<=S.length):Ext w G S0 (cW w go) (ch w G (.obj id)) S:={
 os:=rfl
 tape:=rfl
 output:=rfl
 size:=by simp[cW]
 F _ _ _ h:=h
 obj:=(jN hI _).obj
 keep b hb _:=⟨by simp only[ch];rw[if_neg (by omega)],cN hb,fun _=>rfl⟩
 newo b id' h hlt:=by
  by_cases e:b=w.heap.size
  ·simp only[ch,if_pos e]at h;injection h with h;injection h with h;omega
  ·simp only[ch,if_neg e]at h;exact h
 ph id' h _:=hsame id' (by omega)
 len:=by omega }
theorem BT(hI:Inv w G S){go:Obj}{o:Ob}(hr:∀cs fl,o = .cells cs fl->bg (S.length+1) cs=true)(hor:fA (cW w go) (ch w G (.obj S.length)) S.length o go):
  Inv (cW w go) (ch w G (.obj S.length)) (o::S)/\Ext w G S (cW w go) (ch w G (.obj S.length)) (o::S):=by
 have hn:∀b,G.own b≠some (.obj S.length):=fun b h=>by
  obtain⟨_,o',_,h2,_⟩:=hI.ob b _ h
  have:=cA h2;omega
 refine⟨(hI.phantom o hr).push_obj hn (by simp[bE]) hor,?_⟩
 refine Ext.push_obj (S:=o::S) (hI.phantom o hr) (Nat.le_refl _) S rfl (fun id h=>cz h) (by simp)
theorem Inv.write(hI:Inv w G S){b id:Nat}{el:TypeId}{arr arr':Array Value}{fz:Nat×Nat}{cs cs':List V}{fl fl':List (Nat×Nat)}{own':Nat->Option Loc}(ho:G.own b=some (.obj id))(hob:bE S id=some (.cells cs fl))
  (hgo:w.heap[b]?=some (.cells arr el fz)) (hown:∀b ℓ,G.own b=some ℓ->(∀q,ℓ ≠ .slot q)->(∀q,ℓ ≠ .cell id q)->own' b=some ℓ) (hown':∀b ℓ,own' b=some ℓ->(∃q,ℓ = .slot q/\∃ℓ',G.own b=some ℓ')\/(∃q,ℓ = .cell id q/\∃ℓ',G.own b=some ℓ')\/G.own b=some ℓ)
  (hrf:bg (id+1) cs'=true) (hor:fA (putRow w b arr' el fz) ⟨G.F,own'⟩ id (.cells cs' fl') (.cells arr' el fz)):
  Inv (putRow w b arr' el fz) ⟨G.F,own'⟩ (oset S id (.cells cs' fl')):=by
 have hle:Le G ⟨G.F,own'⟩:=⟨fun _ _ _ h=>h,fun b id h=>hown b _ h (by simp) (by simp)⟩
 have hFb:∀o,G.F b o=none:=(hI.ob b id ho).1
 have hobj:∀b' id',own' b'=some (.obj id')->G.own b'=some (.obj id'):=by
  intro b' id' h
  rcases hown' b' _ h with⟨q,e,_⟩|⟨q,e,_⟩|h
  ·cases e
  ·cases e
  ·exact h
 refine⟨fun c o v h=>?_,fun b' id' h=>?_,fun b1 b2 id' h1 h2=>hI.inj b1 b2 id' (hobj _ _ h1) (hobj _ _ h2),fun b' ℓ h=>?_,fun b' id' o h=>?_,fun id' cs1 fl1 h=>?_,hI.tb_of fun c hc h0=>⟨bU fun e=>(by subst e;rw[ho]at h0;cases h0),?_⟩⟩
 ·have hne:c≠b:=by intro e;subst e;rw[hFb]at h;simp at h
  rw[cell?_of_heap (bU hne)]
  exact hI.fz c o v h
 ·have h:=hobj _ _ h
  by_cases e:b'=b
  ·subst e
   have:id'=id:=by rw[ho]at h;injection h with h;injection h with h;exact h.symm
   subst this
   exact⟨hFb,_,_,bX (cA hob),eY (kr hgo),hor⟩
  ·have hid:id'≠id:=fun e'=>e (hI.inj _ _ _ (e'▸h) ho)
   obtain⟨h1,o',go,h2,h3,h4⟩:=hI.ob b' id' h
   refine⟨h1,o',go,by rw[bK hid];exact h2,by rw[bU e];exact h3,h4.same hle fun off blk hk=>⟨hown _ _ hk (by simp) (by simp;intro e1;exact absurd e1 hid),?_,fun _=>rfl⟩⟩
   refine bU fun e1=>?_
   subst e1;rw[ho]at hk;injection hk with hk;cases hk
 ·have hsz:(putRow w b arr' el fz).heap.size=w.heap.size:=by simp[putRow]
  rw[hsz]
  rcases hown' b' _ h with⟨q,e,ℓ',h'⟩|⟨q,e,ℓ',h'⟩|h'<;>exact hI.tk _ _ h'
 ·rw[cx]
  rcases hown' b' _ h with⟨q,e,_⟩|⟨q,e,ℓ',h'⟩|h'
  ·cases e
  ·injection e with e1 e2;subst e1;exact cA hob
  ·exact hI.cl _ _ _ h'
 ·by_cases e:id'=id
  ·subst e;rw[bX (cA hob)]at h;simp at h;rw[<-h.1];exact hrf
  ·rw[bK e]at h;exact hI.rf _ _ _ h
 ·show own' c=none
  cases hc':own' c with
  |none=>rfl
  |some ℓ=>rcases hown' c ℓ hc' with⟨_,_,ℓ',h'⟩|⟨_,_,ℓ',h'⟩|h'<;>rw[h0]at h'<;>cases h'
theorem Ext.write(hI:Inv w G S){b id:Nat}{el:TypeId}{arr arr':Array Value}{fz:Nat×Nat}{o':Ob}{own':Nat->Option Loc}(ho:G.own b=some (.obj id))
  (hgo:w.heap[b]?=some (.cells arr el fz)) (hown:∀b ℓ,G.own b=some ℓ->(∀q,ℓ ≠ .slot q)->(∀q,ℓ ≠ .cell id q)->own' b=some ℓ) (hnone:∀b,G.own b=none->own' b=none) (hobj:∀b id,own' b=some (.obj id)->G.own b=some (.obj id)):
  Ext w G S (putRow w b arr' el fz) ⟨G.F,own'⟩ (oset S id o'):={
 os:=rfl
 tape:=rfl
 output:=rfl
 size:=by simp[putRow]
 F _ _ _ h:=h
 obj b id h:=hown b _ h (by simp) (by simp)
 keep c hc h:=by
  have hne:c≠b:=by intro e;subst e;rcases h with h|h<;>rw[ho]at h<;>simp at h
  refine⟨?_,bU hne,fun _=>rfl⟩
  rcases h with h|h
  ·rw[h];exact hnone c h
  ·rw[h];exact hown c _ h (by simp) (by simp)
 newo b id h _:=hobj b id h
 ph id' h hn:=by
  have:id'≠id:=fun e=>hn b (e▸ho)
  exact bK this
 len:=by rw[cx];exact Nat.le_refl _ }
end
end Go.Dn
namespace Go.Dn
set_option linter.unusedVariables false
set_option linter.unusedSimpArgs false
section
variable {P : Program} {w : World} {G : Sg} {S : List Ob}
structure St1 (w:World) (G:Sg) (S:List Ob) (w':World) (G':Sg) (S':List Ob) (q:Option Nat) (SP:Nat->Nat->Prop):Prop where
 inv:Inv w' G' S'
 ext:Ext w G S w' G' S'
 tok:∀q' sz v,some q'≠q->dS w G (.slot q') sz v->dS w' G' (.slot q') sz v
 sp:∀id off,SP id off->∀b,G.own b=some (.obj id)->w'.cell? ⟨b,off,none⟩=w.cell? ⟨b,off,none⟩
theorem cp{b:Nat}:∀{cs:List V},bg b cs=true↔∀c∈cs,bz b c=true
 | []=>by simp[bg]
 |c::cs=>by simp[bg,cp (cs:=cs)]
mutual
theorem jk{a b:Nat}(h:a<=b):∀v:V,bz a v=true->bz b v=true
 | .d _,_=>by simp[bz]
 | .m id _ _,e=>by simp[bz]at e⊢;omega
 | .p id _,e=>by simp[bz]at e⊢;omega
 | .np,_=>by simp[bz]
 | .e _ _ _,_=>by simp[bz]
 | .mp id,e=>by simp[bz]at e⊢;omega
 | .nmp,_=>by simp[bz]
 | .f _ caps,e=>by simp only[bz]at e⊢;exact cq h caps e
 | .nf,_=>by simp[bz]
 | .t vs,e=>by simp only[bz]at e⊢;exact cq h vs e
 | .ifc _ x,e=>by simp only[bz]at e⊢;exact jk h x e
 | .nifc,_=>by simp[bz]
 | .it id,e=>by simp[bz]at e⊢;omega
 | .u,_=>by simp[bz]
theorem cq{a b:Nat}(h:a<=b):∀vs:List V,bg a vs=true->bg b vs=true
 | [],_=>by simp[bg]
 |v::vs,e=>by
  simp only[bg,Bool.and_eq_true]at e⊢
  exact⟨jk h v e.1,cq h vs e.2⟩
end
theorem oN(b:Nat)(ds:List D):bg b (ds.map .d)=true:=by
 rw[cp];intro c hc;obtain⟨d,_,rfl⟩:=List.mem_map.1 hc;rfl
theorem pf{G:Sg}{w:World}{id el:Nat}{cs:List V}{fl:Fl}{arr:Array Value}{n:Nat}(hr:cK G cs (arr.toList.take cs.length))(hone:cs.all V.one=true)(hle:cs.length<=arr.size){t:Option Nat}(hfl:jE t cs fl=true)(hel:∀x,t=some x->el=x)(hn:cs.length<=n):
  fA w G id (.cells cs fl) (.cells arr el (n,n+1))/\fA w G id (.cells cs fl) (.cells arr el (0,0)):=by
 have key:∀(o:Nat) c,cs[o]?=some c->∃v,arr[o]?=some v/\RV G c v/\c.one=true/\o<cs.length:=by
  intro o c hc
  obtain⟨v,hv,hrv⟩:=cK.get hr hc
  have hlt:=(List.getElem?_eq_some_iff.1 hc).1
  rw[List.getElem?_take_of_lt hlt]at hv
  exact⟨v,by simpa using hv,hrv,List.all_eq_true.1 hone c (List.mem_of_getElem? hc),hlt⟩
 have kfl:∀o sz,(o,sz)∈fl->k5 w G id arr el o sz:=by
  intro o sz hm
  have h1:=List.all_eq_true.1 hfl _ hm
  simp only at h1
  unfold k5
  split at h1
  ·rename_i e
   rw[if_pos e]
   exact hel _ (by simpa using h1)
  rename_i hne
  rw[if_neg hne]
  split at h1
  ·rename_i xs hc
   obtain⟨v,hv,hrv,_,_⟩:=key _ _ hc
   simp only[RV,RD]at hrv
   obtain⟨a,n,c,sz',rfl,rfl,_,hfull,_⟩:=hrv
   refine⟨_,hv,.inl ⟨a,xs.length,by rw[hfull trivial],fun hk=>?_⟩⟩
   rw[Bool.or_eq_true,decide_eq_true_eq]at h1
   rcases h1 with h1|h1
   ·omega
   ·rw[List.isEmpty_iff]at h1;rw[h1];rfl
  ·simp at h1
 constructor
 ·simp only[fA]
  exact⟨hle,fun o c hc=>by obtain⟨v,h1,h2,h3,h4⟩:=key o c hc;exact⟨v,h1,h2,by omega,h3⟩,kfl⟩
 ·simp only[fA]
  exact⟨hle,fun o c hc=>by obtain⟨v,h1,h2,h3,h4⟩:=key o c hc;exact⟨v,h1,h2,by omega,h3⟩,kfl⟩
theorem me(hI:Inv w G S){el:Nat}{cs:List V}{fl:Fl}{arr:Array Value}{SP:Nat->Nat->Prop}(hr:cK G cs (arr.toList.take cs.length))(hone:cs.all V.one=true)(hle:cs.length<=arr.size){t:Option Nat}(hfl:jE t cs fl=true)(hel:∀x,t=some x->el=x)(hrf:bg (S.length+1) cs=true)(fz:Nat×Nat)(hfz:fz=(0,0)\/fz=(arr.size,arr.size+1)):
  St1 w G S (cW w (.cells arr el fz)) (ch w G (.obj S.length)) (.cells cs fl::S) none SP/\(ch w G (.obj S.length)).own w.heap.size=some (.obj S.length):=by
 have hle':=jN hI (.obj S.length)
 have hor:=pf (w:=cW w (.cells arr el fz)) (G:=ch w G (.obj S.length)) (id:=S.length) (el:=el) (cK.mono hle' _ _ hr) hone hle hfl hel hle
 obtain⟨h1,h2⟩:=BT hI (go := .cells arr el fz) (o := .cells cs fl) (fun cs' fl' e=>by injection e with e1 e2;subst e1;exact hrf) (by rcases hfz with rfl|rfl;exact hor.2;exact hor.1)
 refine⟨⟨h1,h2,fun q' sz v _ h=>h.push hI,fun id off _ b hb=>cell?_of_heap (cN (hI.tk _ _ hb)) off⟩,by simp[ch]⟩
theorem IU(hI:Inv w G S){t:TypeId}{fl:Fl}{sz:Nat}{v:V}{va:Value}{r:Out}{SP:Nat->Nat->Prop}(hv:RV G v va)(h:kS S t fl sz v=some r):
  ∃x w' G',(Instr.box t va).run P w = .ok x w'/\RV G' r.1 x/\St1 w G S w' G' r.2 none SP:=by
 have key:∀cs:List V,hO S t fl cs=some r->cK G cs va.cells.toList->∃x w' G',(Instr.box t va).run P w = .ok x w'/\RV G' r.1 x/\St1 w G S w' G' r.2 none SP:=by
  intro cs h hr
  unfold hO at h
  split at h
  ·rename_i hc
   simp at h;subst h
   have hl:=cK.length hr
   obtain⟨h1,h2⟩:=me hI (el:=t) (cs:=cs) (fl:=fl) (arr:=va.cells) (SP:=SP) (by rw[List.take_of_length_le (by omega)];exact hr) hc.2.1 (by rw[<-Array.length_toList];omega) hc.1 (fun x e=>Option.some.inj e) (cq (by omega) _ hc.2.2) (0,0) (.inl rfl)
   exact⟨_,_,_,rfl,by simp only[RV];exact⟨_,h2,rfl⟩,h1⟩
  ·simp at h
 unfold kS at h
 split at h
 ·rename_i ds
  split at h
  ·refine key _ h ?_
   rw[qU]
   simp only[RV,RD]at hv
   obtain⟨vs,rfl,hr⟩:=hv
   exact hr
  ·simp at h
 ·split at h
  ·rename_i hne hsz
   have h0:=h
   unfold hO at h0
   split at h0
   ·rename_i hc
    have hone:v.one=true:=by simpa using hc.2.1
    refine key _ h ?_
    rw[RV.cells_one hv hone,ry]
    exact⟨hv,by simp only[cK]⟩
   ·simp at h0
  ·simp at h
theorem Ei(hI:Inv w G S){t:TypeId}{z:List V}{fl:Fl}{id n0:Nat}{SP:Nat->Nat->Prop}(hz:eN P t=some z)(hone:z.all V.one=true)(hfl:jE (some t) z fl=true)(hn:∀b,G.own b≠some (.obj id))(ho:bE S id=some (.cells z fl)):
  ∃x w',(Instr.alloc t true (.tuple #[])).run P w = .ok x w'/\RV (ch w G (.obj id)) (.p id 0) x/\Inv w' (ch w G (.obj id)) S/\(∃go,w'=cW w go):=by
 obtain⟨v,hv,hr,_⟩:=s9 (P:=P) (w:=w) (G:=G) hz
 have hl:=cK.length hr
 have hle':=jN hI (.obj id)
 have hor:=(pf (w:=cW w (.cells v.cells t (0,0))) (G:=ch w G (.obj id)) (id:=id) (el:=t) (cs:=z) (fl:=fl) (arr:=v.cells) (n:=z.length) (cK.mono hle' _ _ (by rw[List.take_of_length_le (by omega)];exact hr)) hone (by rw[<-Array.length_toList];omega) hfl (fun x e=>Option.some.inj e) (Nat.le_refl _)).2
 refine⟨.pointer (some ⟨w.heap.size,0,none⟩),cW w (.cells v.cells t (0,0)),?_,?_,hI.push_obj hn ho hor,⟨_,rfl⟩⟩
 ·simp only[Instr.alloc,Sem.run_bind,hv,Result.andThen_ok];rfl
 ·simp only[RV];exact⟨_,by simp[ch],rfl⟩
def jy(sz:Nat):V->Option (List V)
 | .d (.g ds)=>if ds.length=sz then some (ds.map .d)else none
 |v=>if sz=1 then some [v]else none
theorem Fy{t:Nat}{fl:Fl}{sz:Nat}{v:V}:kS S t fl sz v=(jy sz v).bind (hO S t fl):=by
 unfold kS
 split
 ·rename_i ds
  show _=(if ds.length=sz then some (ds.map V.d)else none).bind (hO S t fl)
  split<;>rfl
 ·rename_i h
  have:jy sz v=if sz=1 then some [v]else none:=by
   unfold jy
   split
   ·rename_i ds;exact absurd rfl (h ds)
   ·rfl
  rw[this];split<;>rfl
theorem G4(hI:Inv w G S){t:TypeId}{sz:Nat}{v:V}{va:Value}{cs:List V}{fl:Fl}{id:Nat}(hv:RV G v va)(hb:jy sz v=some cs)(hone:cs.all V.one=true)(hfl:jE (some t) cs fl=true)(hn:∀b,G.own b≠some (.obj id))(ho:bE S id=some (.cells cs fl)):
  ∃x w',(Instr.box t va).run P w = .ok x w'/\RV (ch w G (.obj id)) (.p id 0) x/\Inv w' (ch w G (.obj id)) S/\(∃go,w'=cW w go):=by
 have hr:cK G cs va.cells.toList:=by
  unfold jy at hb
  split at hb
  ·split at hb
   ·injection hb with hb;subst hb
    rw[qU]
    simp only[RV,RD]at hv
    obtain⟨vs,rfl,hr⟩:=hv
    exact hr
   ·cases hb
  ·split at hb
   ·injection hb with hb;subst hb
    rw[RV.cells_one hv (by simpa using hone),ry]
    exact⟨hv,by simp only[cK]⟩
   ·cases hb
 have hl:=cK.length hr
 have hle':=jN hI (.obj id)
 have hor:=(pf (w:=cW w (.cells va.cells t (0,0))) (G:=ch w G (.obj id)) (id:=id) (el:=t) (cs:=cs) (fl:=fl) (arr:=va.cells) (n:=cs.length) (cK.mono hle' _ _ (by rw[List.take_of_length_le (by omega)];exact hr)) hone (by rw[<-Array.length_toList];omega) hfl (fun x e=>Option.some.inj e) (Nat.le_refl _)).2
 refine⟨.pointer (some ⟨w.heap.size,0,none⟩),cW w (.cells va.cells t (0,0)),?_,?_,hI.push_obj hn ho hor,⟨_,rfl⟩⟩
 ·rfl
 ·simp only[RV];exact⟨_,by simp[ch],rfl⟩
theorem ym{cs xs:List V}{off:Nat}(h:off+xs.length<=cs.length){o:Nat}{c:V}(hc:(tH cs off xs)[o]?=some c):
  (off<=o/\o<off+xs.length/\xs[o-off]?=some c)\/(¬(off<=o/\o<off+xs.length)/\cs[o]?=some c):=by
 unfold tH at hc
 have hl:(cs.take off).length=off:=by simp;omega
 rcases Nat.lt_or_ge o off with h1|h1
 ·right
  rw[List.append_assoc,List.getElem?_append_left (by omega),List.getElem?_take_of_lt h1]at hc
  exact⟨by omega,hc⟩
 ·rcases Nat.lt_or_ge o (off+xs.length)with h2|h2
  ·left
   rw[List.getElem?_append_left (by simp;omega),List.getElem?_append_right (by omega),hl]at hc
   exact⟨h1,h2,hc⟩
  ·right
   rw[List.getElem?_append_right (by simp;omega),List.getElem?_drop]at hc
   refine⟨by omega,?_⟩
   rw[<-hc];congr 1;simp;omega
theorem ss{vs l:List Value}{off:Nat}(h:off+l.length<=vs.length)(o:Nat):
  (iW vs off l)[o]?=if off<=o/\o<off+l.length then l[o-off]? else vs[o]?:=by
 unfold iW
 have hl:(vs.take off).length=off:=by simp;omega
 rcases Nat.lt_or_ge o off with h1|h1
 ·rw[if_neg (by omega),List.append_assoc,List.getElem?_append_left (by omega),List.getElem?_take_of_lt h1]
 ·rcases Nat.lt_or_ge o (off+l.length)with h2|h2
  ·rw[if_pos ⟨h1,h2⟩,List.getElem?_append_left (by simp;omega),List.getElem?_append_right (by omega),hl]
  ·rw[if_neg (by omega),List.getElem?_append_right (by simp;omega),List.getElem?_drop]
   congr 1;simp;omega
end
end Go.Dn
namespace Go.Dn
set_option linter.unusedVariables false
set_option linter.unusedSimpArgs false
section
variable {P : Program} {w : World} {G : Sg} {S : List Ob}
theorem dX{fl:Fl}{t o z:Nat}:(o,z)∈cZ fl t↔(o,z)∈fl/\o≠t:=by
 simp[cZ]
def iJ(own:Nat->Option Loc)(a c:Loc):Nat->Option Loc:=fun b=>if own b=some a then some c else own b
def mG(tk q:Option Nat)(own:Nat->Option Loc)(ℓ:Loc):Nat->Option Loc:=
 match tk,q with
 |some _,some y=>iJ own (.slot y) ℓ
 |_,_=>own
theorem dK{own:Nat->Option Loc}{a c ℓ:Loc}{b:Nat}(h:own b=some ℓ)(hne:ℓ≠a):iJ own a c b=some ℓ:=by
 simp only[iJ];rw[if_neg]
 ·exact h
 ·rw[h];intro e;injection e with e;exact hne e
theorem fZ{own:Nat->Option Loc}{a c ℓ:Loc}{b:Nat}(h:iJ own a c b=some ℓ):(ℓ=c/\own b=some a)\/own b=some ℓ:=by
 simp only[iJ]at h
 split at h
 ·rename_i e;injection h with h;exact .inl ⟨h.symm,e⟩
 ·exact .inr h
theorem kF{own:Nat->Option Loc}{a c:Loc}{b:Nat}(h:own b=none):iJ own a c b=none:=by simp[iJ,h]
theorem nI{own:Nat->Option Loc}{a c:Loc}{b:Nat}(h:own b=some a):iJ own a c b=some c:=by simp[iJ,h]
theorem AR{tk q:Option Nat}{own:Nat->Option Loc}{ℓ ℓ0:Loc}{c:Nat}(h:own c=some ℓ0)(hne:∀y,ℓ0 ≠ .slot y):mG tk q own ℓ c=some ℓ0:=by
 unfold mG;split
 ·exact dK h (hne _)
 ·exact h
theorem uX{tk q:Option Nat}{own:Nat->Option Loc}{ℓ ℓ0:Loc}{c:Nat}(h:mG tk q own ℓ c=some ℓ0):(ℓ0=ℓ/\∃ℓ',own c=some ℓ')\/own c=some ℓ0:=by
 unfold mG at h;split at h
 ·rcases fZ h with⟨e,h⟩|h
  ·exact .inl ⟨e,_,h⟩
  ·exact .inr h
 ·exact .inr h
theorem AU{tk q:Option Nat}{own:Nat->Option Loc}{ℓ:Loc}{c y:Nat}(hq:some y≠q)(h:own c=some (.slot y)):mG tk q own ℓ c=some (.slot y):=by
 unfold mG;split
 ·exact dK h (by intro e;injection e with e;subst e;exact hq rfl)
 ·exact h
theorem AT{tk q:Option Nat}{own:Nat->Option Loc}{ℓ:Loc}{c:Nat}(h:own c=none):mG tk q own ℓ c=none:=by
 unfold mG;split
 ·exact kF h
 ·exact h
theorem AS{tk q:Option Nat}{own:Nat->Option Loc}{ℓ:Loc}{c y z:Nat}(htk:tk=some z)(hq:q=some y)(h:own c=some (.slot y)):mG tk q own ℓ c=some ℓ:=by
 subst htk;subst hq;exact nI h
theorem zq(hI:Inv w G S){t n:Nat}{agg:Bool}{fl:Fl}{tk:Option Nat}{a v:V}{va vx:Value}{S':List Ob}{q:Option Nat}(hsz:bH P t=some n)(ha:RV G a va)(hv:RV G v vx)
  (htk:∀z,tk=some z->∃y,q=some y/\dS w G (.slot y) z vx) (h:gR S agg n fl tk a v=some S'):
  ∃w' G',(Instr.storeAt t va vx).run P w = .ok () w'/\St1 w G S w' G' S' q (fun id off=>∀id' off',a = .p id' off'->id≠id'\/off<off'\/off'+n<=off):=by
 unfold gR at h
 split at h
 rotate_left
 ·simp at h
 rename_i id off
 split at h
 rotate_left
 ·simp at h
 rename_i cs fl0 hob
 simp only[RV]at ha
 obtain⟨b,ho,rfl⟩:=ha
 obtain⟨hFb,o',go,hs',hgo,hor⟩:=hI.ob _ _ ho
 rw[hob]at hs';simp at hs';subst hs'
 cases go with
 |cells arr el fz=>
  have hor':=hor
  simp only[fA]at hor'
  obtain⟨hlen,hcells,hflags⟩:=hor'
  have hbsz:=kr hgo
  have hrf:=hI.rf _ _ _ hob
  have tokne:∀blk ℓ,G.own blk=some ℓ->(∀i,ℓ ≠ .obj i)->blk≠b:=by
   intro blk ℓ h1 h2 e;subst e;rw[ho]at h1;injection h1 with h1;exact h2 _ h1.symm
  split at h
  ·-- a struct
   rename_i hagg
   split at h
   rotate_left
   ·simp at h
   rename_i ds
   split at h
   rotate_left
   ·simp at h
   rename_i hc
   obtain⟨h1,h2,h3,h4⟩:=hc
   injection h with h;subst h
   simp only[RV,RD]at hv
   obtain⟨vs,rfl,hr⟩:=hv
   have hvl:vs.toList.length=n:=by rw[cJ.length hr,h1]
   have hnf:∀j,j<vs.toList.length->¬(fz.1<=off+0+j/\off+0+j<fz.2):=by
    intro j hj
    obtain⟨_,_,_,hf,_⟩:=hcells (off+j) _ (List.getElem?_eq_getElem (show off+j<cs.length by omega))
    simpa using hf
   have hone:∀x∈vs.toList,x.oneCell'=true:=by
    intro x hx
    obtain⟨j,hj⟩:=List.mem_iff_getElem?.1 hx
    have hjl:=(List.getElem?_eq_some_iff.1 hj).1
    obtain⟨y,hy,hry⟩:=cJ.get hr (List.getElem?_eq_getElem (show j<ds.length by omega))
    rw[hj]at hy;simp at hy;subst hy
    exact hry.one' (List.all_eq_true.1 h4 _ (List.mem_map.2 ⟨_,List.getElem_mem _,rfl⟩))
   obtain⟨arr',e1,e2,e3⟩:=eB (P:=P) (el:=el) vs.toList off 0 w arr hgo (by omega) hnf hone
   simp only[Nat.add_zero]at e2
   have hget:∀o:Nat,arr'[o]?=if off<=o/\o<off+n then vs.toList[o-off]? else arr[o]?:=by
    intro o
    have:=ss (vs:=arr.toList) (l:=vs.toList) (off:=off) (by rw[hvl,Array.length_toList];omega) o
    rw[<-e2,hvl]at this
    simpa using this
   have hrf':bg (id+1) (tH cs off (ds.map .d))=true:=by
    rw[cp]at hrf⊢
    intro c hc
    obtain⟨j,hj⟩:=List.mem_iff_getElem?.1 hc
    rcases ym (by simp;omega) hj with⟨_,_,h⟩|⟨_,h⟩
    ·simp at h;obtain⟨d,_,rfl⟩:=h;rfl
    ·exact hrf c (List.mem_of_getElem? h)
   have hkeep:∀blk ℓ,G.own blk=some ℓ->(∀i,ℓ ≠ .obj i)->(putRow w b arr' el fz).heap[blk]?=w.heap[blk]?:=fun blk ℓ h1 h2=>bU (tokne _ _ h1 h2)
   have hor2:fA (putRow w b arr' el fz) ⟨G.F,G.own⟩ id (.cells (tH cs off (ds.map .d)) (fl0.filter (fun x=>!(off<=x.1&&x.1<off+n))++fl.map (fun x=>(off+x.1,x.2)))) (.cells arr' el fz):=by
    simp only[fA]
    have hll:(tH cs off (ds.map V.d)).length=cs.length:=by simp[tH];omega
    refine⟨by omega,fun o c hc=>?_,fun o z hm=>?_⟩
    ·rcases ym (by simp;omega) hc with⟨p1,p2,h⟩|⟨p,h⟩
     ·have p2':o<off+n:=by simpa[h1]using p2
      simp at h;obtain⟨d,hd,rfl⟩:=h
      obtain⟨y,hy,hry⟩:=cJ.get hr hd
      obtain⟨_,_,_,hf,_⟩:=hcells o _ (List.getElem?_eq_getElem (show o<cs.length by omega))
      exact⟨y,by rw[hget,if_pos ⟨p1,p2'⟩];exact hy,by simpa only[RV]using hry,hf,List.all_eq_true.1 h4 _ (List.mem_map.2 ⟨d,List.mem_of_getElem? hd,rfl⟩)⟩
     ·obtain⟨y,hy,hry,hf,ho1⟩:=hcells o c h
      exact⟨y,by rw[hget,if_neg (by simpa[h1]using p)];exact hy,hry,hf,ho1⟩
    ·rcases List.mem_append.1 hm with hm|hm
     ·simp at hm
      obtain⟨hm,hno⟩:=hm
      refine(hflags o z hm).map fun y hy ht=>?_
      refine⟨y,by rw[hget,if_neg (by omega)];exact hy,ht.same fun blk hb=>⟨hb,hkeep _ _ hb (by simp),fun _=>rfl⟩⟩
     ·simp at hm
      obtain⟨o1,hm2,rfl⟩:=hm
      have:=List.all_eq_true.1 h3 _ hm2
      simp only at this
      split at this
      ·simp at this
      rename_i hne
      unfold k5
      rw[if_neg hne]
      split at this
      ·rename_i xs hc
       rw[List.getElem?_map]at hc
       obtain⟨d,hd,hde⟩:=Option.map_eq_some_iff.1 hc
       injection hde with hde
       subst hde
       obtain⟨y,hy,hry⟩:=cJ.get hr hd
       have hlt:=(List.getElem?_eq_some_iff.1 hd).1
       simp only[RD]at hry
       obtain⟨A,m,c,sz',rfl,rfl,_,hfull,_⟩:=hry
       exact⟨_,by rw[hget,if_pos ⟨by omega,by omega⟩,show off+o1-off=o1 by omega];exact hy,.inl ⟨A,xs.length,by rw[hfull trivial],fun hk=>by
        rw[Bool.or_eq_true,decide_eq_true_eq]at this
        rcases this with h1|h1
        ·omega
        ·rw[List.isEmpty_iff]at h1;rw[h1];rfl⟩⟩
      ·simp at this
   refine⟨putRow w b arr' el fz,⟨G.F,G.own⟩,?_,?_⟩
   ·have hcz:¬(Value.agg vs).cells.size≠n:=by simp only[Value.cells];rw[<-Array.length_toList];omega
    simp only[Instr.storeAt,Instr.sureAddr,Sem.run_bind,Sem.run_pure,Result.andThen_ok,storeVar,bV hsz,if_neg hcz]
    exact e1
   ·exact⟨hI.write ho hob hgo (fun _ _ h _ _=>h) (fun _ _ h => .inr (.inr h)) hrf' hor2,Ext.write hI ho hgo (fun _ _ h _ _=>h) (fun _ h=>h) (fun _ _ h=>h),fun q' z v' _ ht=>ht.same fun blk hb=>⟨hb,hkeep _ _ hb (by simp),fun _=>rfl⟩,fun id1 off1 hsp b1 hb1=>by
     by_cases e:b1=b
     ·subst e
      have hid:id1=id:=by rw[ho]at hb1;injection hb1 with hb1;injection hb1 with hb1;exact hb1.symm
      subst hid
      rcases hsp id1 off rfl with h|h|h
      ·exact absurd rfl h
      ·simp[World.cell?,eY hbsz,hgo,hget,if_neg (show ¬(off<=off1/\off1<off+n) by omega)]
      ·simp[World.cell?,eY hbsz,hgo,hget,if_neg (show ¬(off<=off1/\off1<off+n) by omega)]
     ·exact cell?_of_heap (bU e) _⟩
  ·-- one cell
   split at h
   rotate_left
   ·simp at h
   rename_i hc
   obtain⟨hone,rfl,hoff,href⟩:=hc
   injection h with h;subst h
   have h1c:=RV.one' hv hone
   obtain⟨_,_,_,hfoff,_⟩:=hcells off _ (List.getElem?_eq_getElem hoff)
   obtain⟨arr',e1,e2,e3⟩:=eB (P:=P) (el:=el) [vx] off 0 w arr hgo (by simp;omega) (by intro j hj;simp at hj;subst hj;simpa using hfoff) (by simpa using h1c)
   simp only[Nat.add_zero]at e2
   have hget:∀o:Nat,arr'[o]?=if o=off then some vx else arr[o]?:=by
    intro o
    have:=ss (vs:=arr.toList) (l:=[vx]) (off:=off) (by simp;omega) o
    rw[<-e2]at this
    by_cases e:o=off
    ·subst e;simpa using this
    ·rw[if_neg (by simp;omega)]at this;simpa[e]using this
   have hrf':bg (id+1) (cs.set off v)=true:=by
    rw[cp]at hrf⊢
    intro c hc
    rcases List.mem_or_eq_of_mem_set hc with h|h
    ·exact hrf c h
    ·subst h;exact href
   let own':Nat->Option Loc:=mG tk q G.own (.cell id off)
   have hown:∀c ℓ,G.own c=some ℓ->(∀y,ℓ ≠ .slot y)->own' c=some ℓ:=fun c ℓ h1 h2=>AR h1 h2
   have hle:Le G ⟨G.F,own'⟩:=⟨fun _ _ _ h=>h,fun c i h=>hown c _ h (by simp)⟩
   have hkeep:∀blk ℓ,G.own blk=some ℓ->(∀i,ℓ ≠ .obj i)->(putRow w b arr' el fz).heap[blk]?=w.heap[blk]?:=fun blk ℓ h1 h2=>bU (tokne _ _ h1 h2)
   have hor2:fA (putRow w b arr' el fz) ⟨G.F,own'⟩ id (.cells (cs.set off v) (vR tk off (cZ fl0 off))) (.cells arr' el fz):=by
    simp only[fA]
    have hold:∀o z,(o,z)∈cZ fl0 off->k5 (putRow w b arr' el fz) ⟨G.F,own'⟩ id arr' el o z:=by
     intro o z hm
     obtain⟨hm,hne⟩:=dX.1 hm
     refine(hflags o z hm).map fun y hy ht=>?_
     exact⟨y,by rw[hget,if_neg hne];exact hy,ht.same fun blk hb=>⟨hown _ _ hb (by simp),hkeep _ _ hb (by simp),fun _=>rfl⟩⟩
    refine⟨by simp;omega,fun o c hc=>?_,fun o z hm=>?_⟩
    ·by_cases e:o=off
     ·subst e
      rw[List.getElem?_set_self hoff]at hc
      simp at hc;subst hc
      exact⟨vx,by rw[hget,if_pos rfl],RV.mono hle _ _ hv,hfoff,hone⟩
     ·rw[List.getElem?_set_ne (Ne.symm e)]at hc
      obtain⟨y,hy,hry,hf,ho1⟩:=hcells o c hc
      exact⟨y,by rw[hget,if_neg e];exact hy,RV.mono hle _ _ hry,hf,ho1⟩
    ·cases htk':tk with
     |none=>rw[htk']at hm;exact hold o z hm
     |some z0=>
      rw[htk']at hm
      simp only[vR]at hm
      split at hm
      ·exact hold o z hm
      rename_i hz0
      rcases List.mem_cons.1 hm with hm|hm
      ·injection hm with m1 m2;subst m1;subst m2
       unfold k5
       rw[if_neg hz0]
       obtain⟨y,hq,ht⟩:=htk _ htk'
       refine⟨vx,by rw[hget,if_pos rfl],?_⟩
       rcases ht with ht|⟨blk,hb,ht⟩
       ·exact .inl ht
       ·refine .inr ⟨blk,?_,ht.same (hkeep _ _ hb (by simp)) fun _=>rfl⟩
        exact AS htk' hq hb
      ·exact hold o z hm
   refine⟨putRow w b arr' el fz,⟨G.F,own'⟩,?_,?_⟩
   ·have hcz:¬vx.cells.size≠1:=by rw[RV.cells_one hv hone];simp
    simp only[Instr.storeAt,Instr.sureAddr,Sem.run_bind,Sem.run_pure,Result.andThen_ok,storeVar,bV hsz,if_neg hcz,RV.cells_one hv hone]
    exact e1
   ·refine⟨hI.write ho hob hgo (fun c ℓ h h1 _=>hown c ℓ h h1) (fun c ℓ h=>?_) hrf' hor2,Ext.write hI ho hgo (fun c ℓ h h1 _=>hown c ℓ h h1) (fun c h=>AT h) (fun c i h=>?_),fun y z v' hne ht=>ht.same fun blk hb=>⟨AU hne hb,hkeep _ _ hb (by simp),fun _=>rfl⟩,fun id1 off1 hsp b1 hb1=>?_⟩
    ·rcases uX h with⟨e,h⟩|h
     ·exact .inr (.inl ⟨off,e,h⟩)
     ·exact .inr (.inr h)
    ·rcases uX h with⟨e,_⟩|h
     ·cases e
     ·exact h
    ·by_cases e:b1=b
     ·subst e
      have hid:id1=id:=by rw[ho]at hb1;injection hb1 with hb1;injection hb1 with hb1;exact hb1.symm
      subst hid
      have hne:off1≠off:=by rcases hsp id1 off rfl with h|h|h<;>first|exact absurd rfl h|omega
      simp[World.cell?,eY hbsz,hgo,hget,hne]
     ·exact cell?_of_heap (bU e) _
 |_=>simp only[fA]at hor
end
end Go.Dn
namespace Go.Dn
set_option linter.unusedVariables false
set_option linter.unusedSimpArgs false
section
variable {P : Program} {w : World} {G : Sg} {S : List Ob} {SP : Nat → Nat → Prop}
theorem St1.of_push{go:Obj}{o:Ob}(hI:Inv w G S)(hr:∀cs fl,o = .cells cs fl->bg (S.length+1) cs=true)(hor:fA (cW w go) (ch w G (.obj S.length)) S.length o go):
  St1 w G S (cW w go) (ch w G (.obj S.length)) (o::S) none SP/\(ch w G (.obj S.length)).own w.heap.size=some (.obj S.length):=by
 obtain⟨h1,h2⟩:=BT hI hr hor
 exact⟨⟨h1,h2,fun q' sz v _ h=>h.push hI,fun id off _ b hb=>cell?_of_heap (cN (hI.tk _ _ hb)) off⟩,by simp[ch]⟩
theorem AL(hI:Inv w G S){t:TypeId}:∃x w' G',(Instr.makeMap t none).run P w = .ok x w'/\RV G' (.mp S.length) x/\St1 w G S w' G' (.map []::S) none SP:=by
 obtain⟨h1,h2⟩:=St1.of_push (SP:=SP) hI (go := .map #[] 0) (o := .map []) (by intro _ _ e;cases e) (by simp[fA])
 exact⟨_,_,_,rfl,by simp only[RV];exact⟨_,h2,rfl⟩,h1⟩
theorem Df(hI:Inv w G S){t:TypeId}{id:Nat}(hn:∀b,G.own b≠some (.obj id))(ho:bE S id=some (.map [])):
  ∃x w',(Instr.makeMap t none).run P w = .ok x w'/\RV (ch w G (.obj id)) (.mp id) x/\Inv w' (ch w G (.obj id)) S/\(∃go,w'=cW w go):=by
 refine⟨_,cW w (.map #[] 0),rfl,?_,hI.push_obj hn ho (by simp[fA]),⟨_,rfl⟩⟩
 simp only[RV];exact⟨_,by simp[ch],rfl⟩
theorem FM(hI:Inv w G S){t:TypeId}{s:List UInt8}(hu:P.underlying t=some .string):∃x w' G',(Instr.range t (.string ⟨s.toArray⟩)).run P w = .ok x w'/\RV G' (.it S.length) x/\St1 w G S w' G' (.iter s 0::S) none SP:=by
 obtain⟨h1,h2⟩:=St1.of_push (SP:=SP) hI (go := .stringIter ⟨s.toArray⟩ 0) (o := .iter s 0) (by intro _ _ e;cases e) (by simp[fA])
 refine⟨_,_,_,?_,by simp only[RV];exact⟨_,h2,rfl⟩,h1⟩
 simp only[Instr.range,Sem.run_bind,run_underlying hu,Result.andThen_ok,Sem.run_pure];rfl
def ez(w:World)(b:Nat)(go:Obj):World:={ w with heap:=w.heap.setIfInBounds b go }
theorem qy{b:Nat}{go:Obj}(h:b<w.heap.size):(ez w b go).heap[b]?=some go:=by
 simp only[ez,Array.getElem?_setIfInBounds,if_pos h,if_true]
theorem fj{b c:Nat}{go:Obj}(h:c≠b):(ez w b go).heap[c]?=w.heap[c]?:=by
 simp only[ez,Array.getElem?_setIfInBounds,if_neg (Ne.symm h)]
theorem St1.of_put(hI:Inv w G S){b id:Nat}{o o':Ob}{go go':Obj}{q:Option Nat}(ho:G.own b=some (.obj id))(hob:bE S id=some o)(hgo:w.heap[b]?=some go)(hcs:∀cs fl,o' ≠ .cells cs fl)(hor:fA (ez w b go') G id o' go')
  (hgc:∀c e f,go ≠ .cells c e f) (hgc':∀c e f,go' ≠ .cells c e f):
  St1 w G S (ez w b go') G (oset S id o') q SP:=by
 have hb:=kr hgo
 have tokne:∀blk ℓ,G.own blk=some ℓ->(∀i,ℓ ≠ .obj i)->blk≠b:=by
  intro blk ℓ h1 h2 e;subst e;rw[ho]at h1;injection h1 with h1;exact h2 _ h1.symm
 have hcell:∀b1 off1,(ez w b go').cell? ⟨b1,off1,none⟩=w.cell? ⟨b1,off1,none⟩:=by
  intro b1 off1
  by_cases e:b1=b
  ·subst e
   have e1:(ez w b1 go').cell? ⟨b1,off1,none⟩=none:=by
    unfold World.cell?
    rw[show (ez w b1 go').heap[(⟨b1,off1,none⟩:Addr).block]?=some go' from qy hb]
    cases go'<;>first|rfl|exact absurd rfl (hgc' _ _ _)
   have e2:w.cell? ⟨b1,off1,none⟩=none:=by
    unfold World.cell?
    rw[show w.heap[(⟨b1,off1,none⟩:Addr).block]?=some go from hgo]
    cases go<;>first|rfl|exact absurd rfl (hgc _ _ _)
   rw[e1,e2]
  ·exact cell?_of_heap (fj e) off1
 refine⟨⟨fun c x v h=>?_,fun b' id' h=>?_,hI.inj,fun b' ℓ h=>?_,fun b' id' x h=>?_,fun id' cs fl h=>?_,hI.tb_of fun c hc h0=>⟨fj fun e=>(by subst e;rw[ho]at h0;cases h0),h0⟩⟩,⟨rfl,rfl,rfl,by simp[ez],fun _ _ _ h=>h,fun _ _ h=>h,fun c hc h=>⟨rfl,?_,fun _=>rfl⟩,fun _ _ h _=>h,fun id' hid hn=>?_,by rw[cx];exact Nat.le_refl _⟩,fun q' sz v _ ht=>ht.same fun blk hk=>⟨hk,fj (tokne _ _ hk (by simp)),fun _=>rfl⟩,fun _ _ _ _ _=>hcell _ _⟩
 ·rw[hcell];exact hI.fz c x v h
 ·by_cases e:b'=b
  ·subst e
   have:id'=id:=by rw[ho]at h;injection h with h;injection h with h;exact h.symm
   subst this
   exact⟨(hI.ob _ _ ho).1,_,_,bX (cA hob),qy hb,hor⟩
  ·have hid:id'≠id:=fun e'=>e (hI.inj _ _ _ (e'▸h) ho)
   obtain⟨h1,o1,go1,h2,h3,h4⟩:=hI.ob b' id' h
   exact⟨h1,o1,go1,by rw[bK hid];exact h2,by rw[fj e];exact h3,h4.same (Le.refl G) fun off blk hk=>⟨hk,fj (tokne _ _ hk (by simp)),fun _=>rfl⟩⟩
 ·have:(ez w b go').heap.size=w.heap.size:=by simp[ez]
  rw[this];exact hI.tk _ _ h
 ·rw[cx];exact hI.cl _ _ _ h
 ·by_cases e:id'=id
  ·subst e;rw[bX (cA hob)]at h;injection h with h;exact absurd h (hcs _ _)
  ·rw[bK e]at h;exact hI.rf _ _ _ h
 ·exact fj (fun e=>by subst e;rcases h with h|h<;>rw[ho]at h<;>simp at h)
 ·exact bK (fun e=>hn b (e▸ho))
theorem HE(hI:Inv w G S){a:V}{va:Value}{ty:TypeId}{r:Out}{q:Option Nat}(ha:RV G a va)(h:kl S a=some r):∃x w' G',(Instr.next va true ty).run P w = .ok x w'/\RV G' r.1 x/\St1 w G S w' G' r.2 q SP:=by
 unfold kl at h
 split at h
 ·rename_i id
  split at h
  ·rename_i s pos hob
   simp only[RV]at ha
   obtain⟨b,ho,rfl⟩:=ha
   obtain⟨_,o',go,hs',hgo,hor⟩:=hI.ob _ _ ho
   rw[hob]at hs';injection hs' with hs';subst hs'
   obtain⟨t0,p0,rfl⟩:∃t0 p0,go = .stringIter t0 p0:=by cases go<;>simp only[fA]at hor;exact⟨_,_,rfl⟩
   simp only[fA]at hor
   rw[hor.1,hor.2]at hgo
   have hsz:(⟨s.toArray⟩:ByteArray).size=s.length:=rfl
   have hget:(getObj b).run P w = .ok (.stringIter ⟨s.toArray⟩ pos) w:=by simp[getObj,Sem.run,hgo]
   split at h
   ·rename_i hlt
    simp at h;subst h
    refine⟨.tuple #[.bool true,.int .i64 pos,.int .i32 (Utf8.decode ⟨s.toArray⟩ pos).1],ez w b (.stringIter ⟨s.toArray⟩ (pos+(Utf8.decode ⟨s.toArray⟩ pos).2)),G,?_,?_,St1.of_put hI ho hob hgo (by simp) (by simp[fA]) (by simp) (by simp)⟩
    rotate_left
    ·simp only[RV,cK,RD];exact⟨_,rfl,_,_,rfl,rfl,_,_,rfl,rfl,_,_,rfl,rfl,rfl⟩
    ·have hset:∀go',(setObj b go').run P w = .ok () (ez w b go'):=by intro go';simp[setObj,Sem.run,hgo,ez]
     simp only[Instr.next,Sem.run_bind,hget,Result.andThen_ok,hsz]
     rw[if_pos hlt]
     simp only[Sem.run_bind,hset,Result.andThen_ok,Sem.run_pure,goInt]
   ·rename_i hlt
    simp at h;subst h
    refine⟨.tuple #[.bool false],w,G,?_,by simp only[RV,cK,RD];exact⟨_,rfl,_,_,rfl,rfl,rfl⟩,⟨hI,Ext.refl _ _ _,fun _ _ _ _ h=>h,fun _ _ _ _ _=>rfl⟩⟩
    simp only[Instr.next,Sem.run_bind,hget,Result.andThen_ok,hsz]
    rw[if_neg hlt];rfl
  ·simp at h
 ·simp at h
theorem uO{k x:D}:∀{es:List (D×D)} {r:Option D},kQ k es=some r->
  (r=none->yx k x es=es++[(k,x)])/\(∀y,r=some y->∃i q,es[i]?=some (q,y)/\mA k q=some true/\yx k x es=es.set i (k,x)/\∀j,j<i->∃e:D×D,es[j]?=some e/\mA k e.1=some false)
 | [],r,h=>by
  simp[kQ]at h;subst h
  exact⟨fun _=>rfl,by simp⟩
 |(q,y)::es,r,h=>by
  simp only[kQ]at h
  split at h
  ·rename_i e
   simp at h;subst h
   refine⟨by simp,fun y' hy=>?_⟩
   injection hy with hy;subst hy
   exact⟨0,q,rfl,e,by simp[yx,e],by simp⟩
  ·rename_i e
   obtain⟨h1,h2⟩:=uO (x:=x) h
   refine⟨fun hr=>by simp[yx,e,h1 hr],fun y' hy=>?_⟩
   obtain⟨i,q',p1,p2,p3,p4⟩:=h2 y' hy
   refine⟨i+1,q',by simpa using p1,p2,by simp[yx,e,p3],fun j hj=>?_⟩
   cases j with
   |zero=>exact⟨_,rfl,e⟩
   |succ j=>simpa using p4 j (by omega)
  ·simp at h
theorem sa{F:Fz}{kt:TypeId}{d:TypeDesc}(hu:P.underlying kt=some d){k:D}{vk:Value}(hk:RD F k vk)(hfit:eI P kt k=true):∀{es:List (D×D)} {ents:List MapEntry} {i n:Nat} {q y:D},
  (∀(j:Nat) q x,es[j]?=some (q,x)->∃e:MapEntry,ents[j]?=some e/\RD F q e.key/\RD F x e.val)->es[n]?=some (q,y)->mA k q=some true->(∀j,j<n->∃e:D×D,es[j]?=some e/\mA k e.1=some false)->
  ∃v,Instr.findNow d vk ents i=some (some (i+n,v))
 | [],ents,i,n,q,y,_,h,_,_=>by simp at h
 |(q0,x0)::es,ents,i,n,q,y,hr,hn,hq,hlt=>by
  obtain⟨e,he,hqe,_⟩:=hr 0 q0 x0 rfl
  cases ents with
  |nil=>simp at he
  |cons e0 ents=>
   simp at he;subst he
   have hsame:=sV hu hk hqe hfit
   simp only[Instr.findNow,hsame]
   cases n with
   |zero=>simp at hn;obtain⟨rfl,rfl⟩:=hn;simp[hq]
   |succ n=>
    obtain⟨e1,h1,h2⟩:=hlt 0 (by omega)
    simp at h1;subst h1
    simp only[h2]
    obtain⟨v,hv⟩:=sa hu hk hfit (i:=i+1) (n:=n) (es:=es) (ents:=ents) (fun j q x hj=>by simpa using hr (j+1) q x (by simpa using hj)) (by simpa using hn) hq (fun j hj=>by simpa using hlt (j+1) (by omega))
    exact⟨v,by rw[hv];congr 3;omega⟩
theorem rW{F:Fz}{k q:D}{vk vq:Value}(hk:RD F k vk)(hq:RD F q vq)(h:mA k q=some true):Instr.sameBits 10000 vq vk=true:=by
 obtain⟨n,hn⟩:∃n,10000=n+1:=⟨9999,rfl⟩
 rw[hn]
 unfold mA at h
 split at h
 ·split at h
  ·rename_i e;subst e
   simp at h;subst h
   simp only[RD]at hk hq;subst hk;subst hq
   simp[Instr.sameBits]
  ·simp at h
 ·simp at h;subst h
  simp only[RD]at hk hq;subst hk;subst hq
  simp[Instr.sameBits,beq_toListBytes]
 ·simp at h
theorem wC(hI:Inv w G S){t kt e:TypeId}{m x:V}{k:D}{vm vk vx:Value}{S':List Ob}{q:Option Nat}(hu:P.underlying t=some (.map kt e))(hm:RV G m vm)(hk:RD G.F k vk)(hx:RV G x vx)(hfit:eI P kt k=true)(h:eX S m (.d k) x=some S'):
  ∃w' G',(Instr.mapUpdate t vm vk vx).run P w = .ok () w'/\St1 w G S w' G' S' q SP:=by
 unfold eX at h
 split at h
 rotate_left
 ·simp at h
 rename_i id k' xd e2
 injection e2 with e2;subst e2
 split at h
 rotate_left
 ·simp at h
 rename_i es hob
 split at h
 rotate_left
 ·simp at h
 rename_i hfs
 injection h with h;subst h
 simp only[RV]at hm hx
 obtain⟨b,ho,rfl⟩:=hm
 obtain⟨_,o',go,hs',hgo,hor⟩:=hI.ob _ _ ho
 rw[hob]at hs';injection hs' with hs';subst hs'
 obtain⟨ents,clock,rfl⟩:∃ents clock,go = .map ents clock:=by cases go<;>simp only[fA]at hor;exact⟨_,_,rfl⟩
 simp only[fA]at hor
 obtain⟨hlen,hrel⟩:=hor
 obtain⟨d,hd⟩:=iS hfit
 have hck:=jr (P:=P) (w:=w) (em:=false) hk hfit
 have hget:(getObj b).run P w = .ok (.map ents clock) w:=by simp[getObj,Sem.run,hgo]
 have hset:∀go',(setObj b go').run P w = .ok () (ez w b go'):=by intro go';simp[setObj,Sem.run,hgo,ez]
 have hrel':∀(j:Nat) q x,es[j]?=some (q,x)->∃e:MapEntry,ents.toList[j]?=some e/\RD G.F q e.key/\RD G.F x e.val:=fun j q x hj=>by simpa using hrel j q x hj
 obtain⟨r,hr⟩:=Option.isSome_iff_exists.1 hfs
 obtain⟨hp1,hp2⟩:=uO (x:=xd) hr
 cases r with
 |none=>
  have hfn:=ng hd hk hfit (i:=0) (ents:=ents.toList) (by simpa using hlen) hrel' hr
  simp only at hfn
  rw[hp1 rfl]
  refine⟨ez w b (.map (ents.push { key:=vk,val:=vx,born:=clock }) (clock+1)),G,?_,St1.of_put hI ho hob hgo (by simp) ?_ (by simp) (by simp)⟩
  ·simp only[Instr.mapUpdate,Sem.run_bind,run_underlying hu,Result.andThen_ok,hget,hck,Instr.findKey,run_underlying hd,hfn,Sem.run_pure,hset]
  ·simp only[fA]
   refine⟨by simp[hlen],fun i q y hi=>?_⟩
   rcases Nat.lt_or_ge i es.length with h' | h'
   ·rw[List.getElem?_append_left h']at hi
    obtain⟨e,he,h1,h2⟩:=hrel i q y hi
    exact⟨e,by rw[Array.getElem?_push,if_neg (by omega)];exact he,h1,h2⟩
   ·rw[List.getElem?_append_right h']at hi
    have:i=es.length:=by
     have:=(List.getElem?_eq_some_iff.1 hi).1;simp at this;omega
    subst this
    simp at hi;obtain⟨rfl,rfl⟩:=hi
    exact⟨_,by rw[Array.getElem?_push,if_pos hlen],hk,hx⟩
 |some y=>
  obtain⟨i,q0,h1,h2,h3,h4⟩:=hp2 y rfl
  obtain⟨v0,hfn⟩:=sa hd hk hfit (i:=0) hrel' h1 h2 h4
  rw[Nat.zero_add]at hfn
  obtain⟨e0,he0,hq0,_⟩:=hrel i q0 y h1
  have hsb:=rW hk hq0 h2
  have hkts:(Instr.keyThatStays e0.key vk).run P w = .ok vk w:=by simp only[Instr.keyThatStays];rw[if_pos hsb];rfl
  rw[h3]
  refine⟨ez w b (.map (ents.modify i fun e=>{ e with key:=vk,val:=vx }) clock),G,?_,St1.of_put hI ho hob hgo (by simp) ?_ (by simp) (by simp)⟩
  ·simp only[Instr.mapUpdate,Sem.run_bind,run_underlying hu,Result.andThen_ok,hget,hck,Instr.findKey,run_underlying hd,hfn,Sem.run_pure,he0,Option.map_some,Option.getD_some,hkts,hset]
  ·simp only[fA]
   refine⟨by simp[hlen],fun j q z hj=>?_⟩
   by_cases e:i=j
   ·subst e
    rw[List.getElem?_set_self (List.getElem?_eq_some_iff.1 h1).1]at hj
    simp at hj;obtain⟨rfl,rfl⟩:=hj
    exact⟨{ e0 with key:=vk,val:=vx },by rw[Array.getElem?_modify,if_pos rfl,he0];rfl,hk,hx⟩
   ·rw[List.getElem?_set_ne e]at hj
    obtain⟨e1,he1,p1,p2⟩:=hrel j q z hj
    exact⟨e1,by rw[Array.getElem?_modify,if_neg e];exact he1,p1,p2⟩
end
end Go.Dn
namespace Go.Dn
set_option linter.unusedVariables false
set_option linter.unusedSimpArgs false
section
variable {P : Program} {w : World} {G : Sg} {S : List Ob} {SP : Nat → Nat → Prop}
theorem nZ{e:TypeId}(h:((P.info? e).map (·.bytes)).getD 5000<=1024):∃i,P.info? e=some i/\i.bytes<=1024:=by
 cases hi:P.info? e with
 |none=>simp[hi]at h
 |some i=>simp[hi]at h;exact⟨i,rfl,h⟩
theorem kJ{e:TypeId}{z:List V}(h:eN P e=some z):∃i v,P.info? e=some i/\i.zero=some v/\cK G z v.cells.toList:=by
 unfold eN at h
 split at h
 ·rename_i v hv
  cases hi:P.info? e with
  |none=>simp[hi]at hv
  |some i=>simp[hi]at hv;exact⟨i,v,rfl,hv,pP h⟩
 ·simp at h
theorem Inv.drew(hI:Inv w G S):Inv w.drew G S:=⟨hI.fz,hI.ob,hI.inj,hI.tk,hI.cl,hI.rf,hI.tb⟩
theorem St1.drew(hI:Inv w G S):St1 w G S w.drew G S none SP:=
 ⟨hI.drew,⟨rfl,rfl,rfl,Nat.le_refl _,fun _ _ _ h=>h,fun _ _ h=>h,fun _ _ _=>⟨rfl,rfl,fun _=>rfl⟩,fun _ _ h _=>h,fun _ _ _=>rfl,Nat.le_refl _⟩,fun _ _ _ _ h=>h,fun _ _ _ _ _=>rfl⟩
theorem St1.trans{w1 w2:World}{G1 G2:Sg}{S1 S2:List Ob}{q q2:Option Nat}(h:St1 w G S w1 G1 S1 q SP)(k:St1 w1 G1 S1 w2 G2 S2 q2 SP)(hq:q=none\/q=q2):St1 w G S w2 G2 S2 q2 SP:={
 inv:=k.inv
 ext:=h.ext.trans k.ext
 tok q' sz v hne ht:=k.tok q' sz v hne (h.tok q' sz v (by rcases hq with e|e<;>subst e;simp;exact hne) ht)
 sp id off hs b hb:=(k.sp id off hs b (h.ext.obj _ _ hb)).trans (h.sp id off hs b hb) }
def dV(w:World)(G:Sg)(arr:Array Value)(n:Nat)(ℓ:Option Loc):Sg:=
 ⟨fun b o=>if b=w.heap.size then(if o<n then arr[o]? else none)else G.F b o,fun b=>if b=w.heap.size then ℓ else G.own b⟩
theorem si(hI:Inv w G S)(arr:Array Value)(el:TypeId)(fz:Nat×Nat)(n:Nat)(ℓ:Option Loc)(hℓ:∀x,ℓ=some x->∃d,x = .slot d):
  St1 w G S (cW w (.cells arr el fz)) (dV w G arr n ℓ) S none SP:=by
 have hold:∀b,b<w.heap.size->(dV w G arr n ℓ).own b=G.own b:=fun b hb=>by simp only[dV];rw[if_neg (by omega)]
 have holdF:∀b o,b<w.heap.size->(dV w G arr n ℓ).F b o=G.F b o:=fun b o hb=>by simp only[dV];rw[if_neg (by omega)]
 have hsz:(cW w (.cells arr el fz)).heap.size=w.heap.size+1:=by simp[cW]
 have hF:GG G.F (dV w G arr n ℓ).F:=fun b o v h=>by rw[holdF b o (hI.F_lt h)];exact h
 have hle:Le G (dV w G arr n ℓ):=⟨hF,fun b id h=>by rw[hold b (hI.tk _ _ h)];exact h⟩
 have hobj:∀b id,(dV w G arr n ℓ).own b=some (.obj id)->G.own b=some (.obj id):=by
  intro b id h
  simp only[dV]at h
  split at h
  ·obtain⟨d,e⟩:=hℓ _ h;cases e
  ·exact h
 have htok:∀ℓ' sz v,dS w G ℓ' sz v->dS (cW w (.cells arr el fz)) (dV w G arr n ℓ) ℓ' sz v:=fun ℓ' sz v h=>
  h.same fun blk hb=>⟨by rw[hold _ (hI.tk _ _ hb)];exact hb,cN (hI.tk _ _ hb),fun o=>holdF _ _ (hI.tk _ _ hb)⟩
 refine⟨⟨fun b o v h=>?_,fun b id h=>?_,fun b b' id h h'=>hI.inj _ _ _ (hobj _ _ h) (hobj _ _ h'),fun b ℓ' h=>?_,fun b id o h=>?_,hI.rf,hI.tb_of fun b hb h0=>⟨cN hb,(hold b hb).trans h0⟩⟩,⟨rfl,rfl,rfl,by omega,hF,hle.obj,fun b hb _=>⟨hold b hb,cN hb,fun o=>holdF b o hb⟩,fun b id h _=>hobj _ _ h,fun _ _ _=>rfl,Nat.le_refl _⟩,fun q' sz v _ h=>htok _ _ _ h,fun id off _ b hb=>cell?_of_heap (cN (hI.tk _ _ hb)) off⟩
 ·by_cases e:b=w.heap.size
  ·subst e
   simp only[dV,if_true]at h
   split at h
   ·unfold World.cell?;simp only[cW,Array.getElem?_push_size];exact h
   ·simp at h
  ·simp only[dV,if_neg e]at h
   rw[cell?_of_heap (cN (hI.F_lt h))];exact hI.fz b o v h
 ·have h0:=hobj _ _ h
  have hb:=hI.tk _ _ h0
  obtain⟨h1,o,go,h2,h3,h4⟩:=hI.ob b id h0
  refine⟨fun o=>by rw[holdF b o hb];exact h1 o,o,go,h2,by rw[cN hb];exact h3,h4.same hle fun off blk hk=>?_⟩
  have hb':=hI.tk _ _ hk
  exact⟨by rw[hold _ hb'];exact hk,cN hb',fun o=>holdF _ _ hb'⟩
 ·rw[hsz]
  by_cases e:b=w.heap.size
  ·omega
  ·simp only[dV,if_neg e]at h;have:=hI.tk _ _ h;omega
 ·simp only[dV]at h
  split at h
  ·obtain⟨d,e⟩:=hℓ _ h;cases e
  ·exact hI.cl _ _ _ h
theorem sf(hI:Inv w G S){arr:Array Value}{xs:List D}{l:List Value}{n c sz:Nat}{ℓ:Option Loc}{full:Bool}(hs:sized xs sz)(hr:cJ G.F (xs.flatMap D.cells) l)(hl:∀(i:Nat) v,l[i]?=some v->arr[i]?=some v)(hn:xs.length*sz<=n)(hc:xs.length<=c)(hf:full=true->c=xs.length):
  RD (dV w G arr n ℓ).F (.l full xs) (.slice (some ⟨w.heap.size,0,none⟩) xs.length c):=by
 simp only[RD]
 refine⟨_,_,_,sz,rfl,rfl,hc,hf,hs,fun _=>⟨_,_,rfl,?_⟩⟩
 rw[gT]
 refine bZ.of_get fun i d hi=>?_
 obtain⟨v,hv,hrv⟩:=cJ.get hr hi
 have hlt:=(List.getElem?_eq_some_iff.1 hi).1
 rw[eR hs]at hlt
 refine⟨v,?_,RD.mono (fun b o v h=>?_) d v hrv⟩
 ·simp only[dV,if_true,Nat.zero_add]
  rw[if_pos (by omega)]
  exact hl _ _ hv
 ·simp only[dV];rw[if_neg]
  ·exact h
  ·have:=hI.F_lt h;omega
theorem uD{arr:Array Value}{el:TypeId}{n c sz d zc:Nat}{fz:Nat×Nat}(hzc:zc%1000000=sz)(hty:∀t,tg zc=some t->el=t)(hn:n<=c)(hc:c*sz<=arr.size)(hfz:fz=(0,0)):
  dS (cW w (.cells arr el fz)) (dV w G arr (n*sz) (some (.slot d))) (.slot d) zc (.slice (some ⟨w.heap.size,0,none⟩) n c):=by
 subst hzc
 refine .inr ⟨w.heap.size,by simp[dV],0,n,c,arr,el,fz,rfl,uZ,hn,by omega,by subst hfz;exact Nat.le_refl _,hty,fun o ho=>⟨?_,by subst hfz;simp⟩⟩
 simp only[dV,if_true]
 rw[if_neg (by omega)]
theorem tS{y:Nat}{c:Int}(h:y<=1024)(h0:0<=c)(hc:c<=4294967296):(y:Int)*c<=281474976710656:=by
 have:(y:Int)*c<=1024*4294967296:=Int.mul_le_mul (by omega) hc (by omega) (by omega)
 omega
theorem mC{z:Array Value}(hz:z.size=1){n o:Nat}(h:o<n):(madeCells z n)[o]?=some z[0]!:=by
 simp[madeCells,hz,Nat.mod_one,h]
theorem Fb(hI:Inv w G S){t e:TypeId}{zd:D}{n c v:V}{vn vc:Value}{d:Nat}(hu:P.underlying t=some (.slice e))(hz:eN P e=some [.d zd])(hb:((P.info? e).map (·.bytes)).getD 5000<=1024)(hsz:bH P e=some 1)(hn:RV G n vn)(hc:RV G c vc)(h:oE zd n c=some v):
  ∃x w' G',(Instr.makeSlice t vn vc).run P w = .ok x w'/\RV G' v x/\St1 w G S w' G' S none SP/\dS w' G' (.slot d) 1 x:=by
 unfold oE at h
 split at h
 rotate_left
 ·simp at h
 rename_i k n j c
 split at h
 rotate_left
 ·simp at h
 rename_i hcnd
 obtain⟨h0,hnc,hc32,hw⟩:=hcnd
 injection h with h;subst h
 simp only[RV,RD]at hn hc;subst hn;subst hc
 obtain⟨i,hi,hbi⟩:=nZ hb
 obtain⟨i',z,hi',hiz,hzr⟩:=kJ (G:=G) hz
 rw[hi]at hi';injection hi' with hi';subst hi'
 have his:i.size=1:=by simp[bH,hi]at hsz;exact hsz
 have hzl:=cK.length hzr
 have hzs:z.cells.size=1:=by simpa using hzl
 have hz0:RD G.F zd z.cells[0]!:=by
  obtain⟨u,hu0,hru⟩:=cK.get hzr (i:=0) rfl
  simp only[RV]at hru
  have:z.cells[0]! = u:=by
   rw[getElem!_pos z.cells 0 (by omega)];simpa[Array.getElem?_eq_getElem (show 0<z.cells.size by omega)]using hu0
  rw[this];exact hru
 have hr:=run_make (P:=P) w t e i z hu hi hiz k j n c h0 hnc (tS hbi (by omega) hc32) (by omega)
 rw[his,Nat.mul_one]at hr
 have hsz':sized (List.replicate n.toNat zd) 1:=fun x hx=>by rw[(List.mem_replicate.1 hx).2,<-D.cells_length];cases zd<;>first|rfl|simp[V.one]at hw
 have hcells:zd.cells=[zd]:=by cases zd<;>first|rfl|simp[V.one]at hw
 have hn0:(List.replicate n.toNat zd).length=n.toNat:=List.length_replicate ..
 have hRD:=sf (w:=w) (arr:=madeCells z.cells c.toNat) (n:=n.toNat*1) (c:=c.toNat) (ℓ:=some (.slot d)) (full:=false) hI hsz' (l:=List.replicate n.toNat z.cells[0]!) (by
   refine cJ.of_get (by rw[eR hsz'];simp) fun i x hx=>?_
   have he:(List.replicate n.toNat zd).flatMap D.cells=List.replicate n.toNat zd:=by
    generalize n.toNat=m
    induction m with
    |zero=>rfl
    |succ m ih=>rw[List.replicate_succ,List.flatMap_cons,ih,hcells];rfl
   rw[he]at hx
   obtain⟨h1,h2⟩:=List.getElem?_eq_some_iff.1 hx
   simp at h1 h2;subst h2
   exact⟨_,by rw[List.getElem?_replicate,if_pos (by omega)],hz0⟩) (fun i v hi=>by
   obtain⟨h1,h2⟩:=List.getElem?_eq_some_iff.1 hi
   simp at h1 h2
   rw[mC hzs (by omega),h2]) (by omega) (by omega) (by simp)
 rw[hn0]at hRD
 refine⟨_,_,_,hr,by simp only[RV];exact hRD,si hI _ _ _ _ _ (fun x hx=>by injection hx with hx;exact⟨d,hx.symm⟩),uD (by decide) (by intro t h;simp[tg]at h) (by omega) (by simp[madeCells]) rfl⟩
theorem Fc(hI:Inv w G S){t e:TypeId}{zd n c:V}{vn vc:Value}{r:Out}(hu:P.underlying t=some (.slice e))(hz:eN P e=some [zd])(hb:((P.info? e).map (·.bytes)).getD 5000<=1024)(hsz:bH P e=some 1)(hn:RV G n vn)(hc:RV G c vc)(h:kA S zd n c=some r):
  ∃x w' G',(Instr.makeSlice t vn vc).run P w = .ok x w'/\RV G' r.1 x/\St1 w G S w' G' r.2 none SP:=by
 unfold kA at h
 split at h
 rotate_left
 ·simp at h
 rename_i k n j c
 split at h
 rotate_left
 ·simp at h
 rename_i hcnd
 obtain⟨h0,hnc,hc32,hone,href⟩:=hcnd
 subst hnc
 injection h with h;subst h
 simp only[RV,RD]at hn hc;subst hn;subst hc
 obtain⟨i,hi,hbi⟩:=nZ hb
 obtain⟨i',z,hi',hiz,hzr⟩:=kJ (G:=G) hz
 rw[hi]at hi';injection hi' with hi';subst hi'
 have his:i.size=1:=by simp[bH,hi]at hsz;exact hsz
 have hzl:=cK.length hzr
 have hzs:z.cells.size=1:=by simpa using hzl
 have hz0:RV G zd z.cells[0]!:=by
  obtain⟨u,hu0,hru⟩:=cK.get hzr (i:=0) rfl
  have:z.cells[0]! = u:=by
   rw[getElem!_pos z.cells 0 (by omega)];simpa[Array.getElem?_eq_getElem (show 0<z.cells.size by omega)]using hu0
  rw[this];exact hru
 have hr:=run_make (P:=P) w t e i z hu hi hiz k j n n h0 (Int.le_refl _) (tS hbi (by omega) hc32) (by omega)
 rw[his,Nat.mul_one]at hr
 have hsm:(madeCells z.cells n.toNat).size=n.toNat:=by simp[madeCells]
 obtain⟨h1,h2⟩:=me hI (el:=e) (cs:=List.replicate n.toNat zd) (fl:=[]) (arr:=madeCells z.cells n.toNat) (SP:=SP) (by
   refine cK.of_get (by simp[hsm]) fun i x hx=>?_
   obtain⟨h1,h2⟩:=List.getElem?_eq_some_iff.1 hx
   simp at h1 h2;subst h2
   refine⟨_,?_,hz0⟩
   rw[List.getElem?_take_of_lt (by simpa using h1),Array.getElem?_toList,mC hzs (by omega)]) (by simp[hone]) (by simp[hsm]) (t:=none) (by simp[jE]) (fun _ e=>by cases e) (by rw[cp];intro x hx;rw[(List.mem_replicate.1 hx).2];exact jk (by omega) _ href) (0,0) (.inl rfl)
 refine⟨_,_,_,hr,?_,h1⟩
 simp only[RV]
 exact⟨_,_,rfl,Nat.le_refl _,fun _=>⟨_,h2,rfl⟩⟩
theorem lI{F:Fz}(b:List UInt8):cJ F (ofBytes b) (b.map fun c=>Value.int .u8 c.toNat):=by
 refine cJ.of_get (by simp[ofBytes]) fun i x hx=>?_
 simp[ofBytes]at hx
 obtain⟨c,hc,rfl⟩:=hx
 exact⟨_,by rw[List.getElem?_map,hc];rfl,by simp only[RD]⟩
theorem mE(b:List UInt8):sized (ofBytes b) 1:=by
 intro x hx;simp[ofBytes]at hx;obtain⟨c,_,rfl⟩:=hx;rfl
theorem oG(b:List UInt8):(ofBytes b).flatMap D.cells=ofBytes b:=by
 induction b with
 |nil=>rfl
 |cons c b ih=>simp only[ofBytes,List.map_cons,List.flatMap_cons]at ih⊢;rw[ih];rfl
theorem nY(b:List UInt8)(cap:Nat)(i:Nat)(v:Value)(h:(b.map fun c=>Value.int .u8 c.toNat)[i]?=some v):(bytesRow ⟨b.toArray⟩ cap)[i]?=some v:=by
 have hlt:=(List.getElem?_eq_some_iff.1 h).1
 simp at hlt
 unfold bytesRow
 rw[Array.getElem?_append_left (by simpa using hlt)]
 simpa using h
theorem CK(hI:Inv w G S){s d e:TypeId}{b:List UInt8}(hs:P.underlying s=some .string)(hd:P.underlying d=some (.slice e))(he:P.underlying e=some (.int .u8)):
  ∃x w' G',(convert s d (.string ⟨b.toArray⟩)).run P w = .ok x w'/\RV G' (.d (.l false (ofBytes b))) x/\St1 w G S w' G' S none SP:=by
 refine⟨_,_,_,run_bytes_of_string w s d e _ hs hd he,?_,(St1.drew hI).trans (si hI.drew _ _ _ b.length none (by simp)) (.inl rfl)⟩
 have hlen:(ofBytes b).length=b.length:=by simp[ofBytes]
 have:=sf (w:=w.drew) (arr:=bytesRow ⟨b.toArray⟩ (grownCap w (ByteArray.size ⟨b.toArray⟩) 0 e)) (n:=b.length) (c:=grownCap w (ByteArray.size ⟨b.toArray⟩) 0 e) (ℓ:=none) (full:=false) hI.drew (mE b) (by rw[oG];exact lI b) (nY b _) (by omega) (by rw[hlen];exact grownCap_ge w _ 0 e) (by simp)
 simp only[RV]
 rw[hlen]at this
 exact this
theorem CL(hI:Inv w G S){s d e:TypeId}{b:List UInt8}(hs:P.underlying s=some .string)(hd:P.underlying d=some (.slice e))(he:P.underlying e=some (.int .u8)):
  ∃x w' G',(convert s d (.string ⟨b.toArray⟩)).run P w = .ok x w'/\RV G' (.m S.length 0 b.length) x/\St1 w G S w' G' (.cells ((ofBytes b).map .d) []::S) none SP:=by
 have hlen:(ofBytes b).length=b.length:=by simp[ofBytes]
 have hcap:b.length<=grownCap w (ByteArray.size ⟨b.toArray⟩) 0 e:=grownCap_ge w _ 0 e
 have hsz:(bytesRow ⟨b.toArray⟩ (grownCap w (ByteArray.size ⟨b.toArray⟩) 0 e)).size=grownCap w (ByteArray.size ⟨b.toArray⟩) 0 e:=by
  have:(ByteArray.size ⟨b.toArray⟩)=b.length:=rfl
  simp[bytesRow,this]at hcap⊢
  omega
 obtain⟨h1,h2⟩:=me hI.drew (el:=e) (cs:=(ofBytes b).map .d) (fl:=[]) (arr:=bytesRow ⟨b.toArray⟩ (grownCap w (ByteArray.size ⟨b.toArray⟩) 0 e)) (SP:=SP) (by
   rw[qU]
   refine cJ.of_get (by simp[hsz,hlen,hcap]) fun i x hx=>?_
   obtain⟨v,hv,hr⟩:=cJ.get (F:=G.F) (lI b) hx
   have hlt:=(List.getElem?_eq_some_iff.1 hx).1
   exact⟨v,by rw[List.getElem?_take_of_lt (by simpa using hlt),Array.getElem?_toList];exact nY b _ _ _ hv,hr⟩) (by simp[ofBytes,V.one]) (by simp[hsz,hlen,hcap]) (t:=none) (by simp[jE]) (fun _ e=>by cases e) (oN _ _) _ (.inr rfl)
 refine⟨_,_,_,run_bytes_of_string w s d e _ hs hd he,?_,(St1.drew hI).trans h1 (.inl rfl)⟩
 simp only[RV]
 exact⟨_,_,rfl,hcap,fun _=>⟨_,h2,rfl⟩⟩
end
end Go.Dn
namespace Go.Dn
set_option linter.unusedVariables false
set_option linter.unusedSimpArgs false
section
variable {P : Program} {w : World} {G : Sg} {S : List Ob} {SP : Nat → Nat → Prop}
theorem fA.same'{w':World}{G':Sg}{id:Nat}{o:Ob}{go:Obj}(h:fA w G id o go)(hle:Le G G')(hk:∀cs fl,o = .cells cs fl->∀off z,(off,z)∈fl->∀blk,G.own blk=some (.cell id off)->G'.own blk=some (.cell id off)/\w'.heap[blk]?=w.heap[blk]?/\∀o,G'.F blk o=G.F blk o):fA w' G' id o go:=by
 cases o with
 |cells cs fl=>
  cases go<;>simp only[fA]at h⊢
  obtain⟨h1,h2,h3⟩:=h
  refine⟨h1,fun o c hc=>?_,fun o sz hm=>?_⟩
  ·obtain⟨v,hv,hr,hf,ho⟩:=h2 o c hc;exact⟨v,hv,RV.mono hle c v hr,hf,ho⟩
  ·exact(h3 o sz hm).map fun v hv ht=>⟨v,hv,ht.same (hk _ _ rfl o sz hm)⟩
 |map es=>
  cases go<;>simp only[fA]at h⊢
  refine⟨h.1,fun i k x hi=>?_⟩
  obtain⟨e,he,hk,hx⟩:=h.2 i k x hi
  exact⟨e,he,RD.mono hle.F _ _ hk,RD.mono hle.F _ _ hx⟩
 |iter s pos=>cases go<;>simp only[fA]at h⊢;exact h
 |dead=>cases go<;>simp only[fA]at h
def Src(S:List Ob)(ℓ:Loc):Prop:=(∃q,ℓ = .slot q)\/∃id off,ℓ = .cell id off/\∀cs fl z,bE S id=some (.cells cs fl)->(off,z)∉fl
def gA:Option Loc->Option Nat
 |some (.slot q)=>some q
 |_=>none
theorem Src.not_obj{ℓ:Loc}(h:Src S ℓ):∀i,ℓ ≠ .obj i:=by
 rintro i rfl;rcases h with⟨q,e⟩|⟨_,_,e,_⟩<;>cases e
theorem Src.not_ext{ℓ:Loc}(h:Src S ℓ):ℓ ≠ .ext:=by
 rintro rfl;rcases h with⟨q,e⟩|⟨_,_,e,_⟩<;>cases e
theorem AA(hI:Inv w G S){ℓ:Loc}{blk off n m c sz d zc:Nat}{cs:Array Value}{el:TypeId}{fz:Nat×Nat}{xs zs:List D}{l:List Value}(hsrc:Src S ℓ)(ho:G.own blk=some ℓ)(hgo:w.heap[blk]?=some (.cells cs el fz))(hnc:n+m<=c)(hcs:off+c*sz<=cs.size)(hzc:zc%1000000=sz)(hf2:fz.1<=fz.2)(hty:∀t,tg zc=some t->el=t)
  (hfr:∀o,off+n*sz<=o->G.F blk o=none/\¬(fz.1<=o/\o<fz.2)) (hn:xs.length=n) (hm:zs.length=m) (hxs:sized xs sz) (hzs:sized zs sz) (hxr:bu G.F blk off xs) (hl:cJ G.F (zs.flatMap D.cells) l) (hone:∀v∈l,v.oneCell'=true):
  ∃w' G',(storeCells ((⟨blk,off,none⟩:Addr).add (n*sz)) l).run P w = .ok () w'/\St1 w G S w' G' S (gA (some ℓ)) SP/\RD G'.F (.l false (xs++zs)) (.slice (some ⟨blk,off,none⟩) (n+m) c)/\dS w' G' (.slot d) zc (.slice (some ⟨blk,off,none⟩) (n+m) c):=by
 have hll:l.length=m*sz:=by rw[cJ.length hl,eR hzs,hm]
 have hmul:(n+m)*sz<=c*sz:=Nat.mul_le_mul_right _ hnc
 rw[Nat.add_mul]at hmul
 have hbsz:=kr hgo
 obtain⟨arr',e1,e2,e3⟩:=eB (P:=P) l (off+n*sz) 0 w cs hgo (by omega) (fun j hj=>by simpa using(hfr (off+n*sz+j) (by omega)).2) hone
 simp only[Nat.add_zero]at e2
 have hget:∀o:Nat,arr'[o]?=if off+n*sz<=o/\o<off+n*sz+m*sz then l[o-(off+n*sz)]? else cs[o]?:=by
  intro o
  have:=ss (vs:=cs.toList) (l:=l) (off:=off+n*sz) (by rw[hll,Array.length_toList];omega) o
  rw[<-e2,hll]at this
  simpa using this
 let F':Fz:=fun b o=>if b=blk/\off+n*sz<=o/\o<off+n*sz+m*sz then arr'[o]? else G.F b o
 let own':=iJ G.own ℓ (.slot d)
 have hF:GG G.F F':=by
  intro b o v h
  simp only[F']
  rw[if_neg]
  ·exact h
  ·rintro⟨rfl,h1,_⟩;rw[(hfr o h1).1]at h;simp at h
 have hFo:∀b o,b≠blk->F' b o=G.F b o:=fun b o h=>by simp only[F'];rw[if_neg (by intro x;exact h x.1)]
 have hobj:∀b id,own' b=some (.obj id)->G.own b=some (.obj id):=by
  intro b id h
  rcases fZ h with⟨e,_⟩|h
  ·cases e
  ·exact h
 have hne:∀b ℓ',G.own b=some ℓ'->ℓ'≠ℓ->b≠blk:=by
  intro b ℓ' h1 h2 e;subst e;rw[ho]at h1;injection h1 with h1;exact h2 h1.symm
 have hle:Le G ⟨F',own'⟩:=⟨hF,fun b id h=>dK h (fun e=>hsrc.not_obj _ e.symm)⟩
 have htok:∀ℓ' sz v,ℓ'≠ℓ->dS w G ℓ' sz v->dS (putRow w blk arr' el fz) ⟨F',own'⟩ ℓ' sz v:=fun ℓ' sz v hn h=>
  h.same fun b hb=>⟨dK hb hn,bU (hne _ _ hb hn),fun o=>hFo _ _ (hne _ _ hb hn)⟩
 refine⟨putRow w blk arr' el fz,⟨F',own'⟩,?_,⟨⟨fun b o v h=>?_,fun b id h=>?_,fun b b' id h h'=>hI.inj _ _ _ (hobj _ _ h) (hobj _ _ h'),fun b ℓ' h=>?_,fun b id o h=>?_,hI.rf,hI.tb_of fun c hc h0=>⟨bU fun e=>(by subst e;rw[ho]at h0;cases h0),(by
   show own' c=none
   cases hc':own' c with
   |none=>rfl
   |some y=>rcases fZ hc' with⟨_,h'⟩|h'<;>rw[h0]at h'<;>cases h')⟩⟩,⟨rfl,rfl,rfl,by simp[putRow],hF,hle.obj,fun b hb h=>?_,fun b id h _=>hobj _ _ h,fun _ _ _=>rfl,Nat.le_refl _⟩,fun q' sz v hq h=>htok _ _ _ (fun e=>hq (by rw[<-e];rfl)) h,fun id off _ b hb=>cell?_of_heap (bU (hne _ _ hb (fun e=>hsrc.not_obj _ e.symm))) off⟩,?_,?_⟩
 ·rw[Addr.add_plain];exact e1
 ·by_cases e:b=blk
  ·subst e
   have hc:(putRow w b arr' el fz).cell? ⟨b,o,none⟩=arr'[o]?:=by simp[World.cell?,eY hbsz]
   rw[hc]
   simp only[F']at h
   split at h
   ·exact h
   ·rename_i hno
    have hlt:o<off+n*sz:=by
     rcases Nat.lt_or_ge o (off+n*sz)with h' | h'
     ·exact h'
     ·rw[(hfr o h').1]at h;simp at h
    rw[hget,if_neg (by omega)]
    have:=hI.fz b o v h
    simpa[World.cell?,hgo]using this
  ·replace h:F' b o=some v:=h
   rw[hFo _ _ e]at h
   rw[cell?_of_heap (bU e)];exact hI.fz b o v h
 ·have h0:=hobj _ _ h
  have hb:b≠blk:=hne _ _ h0 (fun e=>hsrc.not_obj _ e.symm)
  obtain⟨h1,o,go,h2,h3,h4⟩:=hI.ob b id h0
  refine⟨fun o=>(hFo _ _ hb).trans (h1 o),o,go,h2,by rw[bU hb];exact h3,h4.same' hle fun cs1 fl1 hc off1 z hm1 b1 hk=>?_⟩
  have hnl:Loc.cell id off1≠ℓ:=by
   rintro rfl
   rcases hsrc with⟨q,e⟩|⟨id',off',e,hno⟩
   ·cases e
   ·injection e with e4 e5;subst e4;subst e5
    subst hc
    exact hno _ _ _ h2 hm1
  exact⟨dK hk hnl,bU (hne _ _ hk hnl),fun o=>hFo _ _ (hne _ _ hk hnl)⟩
 ·have:(putRow w blk arr' el fz).heap.size=w.heap.size:=by simp[putRow]
  rw[this]
  rcases fZ h with⟨_,h⟩|h<;>exact hI.tk _ _ h
 ·rcases fZ h with⟨e,_⟩|h
  ·cases e
  ·exact hI.cl _ _ _ h
 ·have hb':b≠blk:=by
   rintro rfl;rw[ho]at h
   rcases h with h|h
   ·cases h
   ·injection h with h;exact hsrc.not_ext h
  refine⟨?_,bU hb',fun o=>hFo _ _ hb'⟩
  rcases h with h|h
  ·rw[h];exact kF h
  ·rw[h];exact dK h hsrc.not_ext.symm
 ·simp only[RD]
  refine⟨_,_,_,sz,rfl,by simp[hn,hm],hnc,by simp,hxs.append hzs,fun _=>⟨_,_,rfl,?_⟩⟩
  rw[bu.append hxs]
  refine⟨bu.mono hF _ _ _ hxr,?_⟩
  rw[gT,hn]
  refine bZ.of_get fun i x hi=>?_
  obtain⟨v,hv,hr⟩:=cJ.get hl hi
  have hlt:=(List.getElem?_eq_some_iff.1 hv).1
  refine⟨v,?_,RD.mono hF _ _ hr⟩
  simp only[F']
  rw[if_pos ⟨trivial,by omega,by omega⟩,hget,if_pos ⟨by omega,by omega⟩,show off+n*sz+i-(off+n*sz)=i by omega]
  exact hv
 ·refine .inr ⟨blk,nI ho,off,n+m,c,arr',el,fz,rfl,eY hbsz,hnc,by rw[hzc];omega,hf2,hty,fun o h=>?_⟩
  rw[hzc,Nat.add_mul]at h
  obtain⟨f1,f2⟩:=hfr o (by omega)
  exact⟨by simp only[F'];rw[if_neg (by omega)];exact f1,f2⟩
theorem rm(hI:Inv w G S){sz:Nat}{y:V}{vy:Value}{zs:List D}(hv:RV G y vy)(h:dw S sz y=some zs)(hh:bw sz zs=true):
  ∃l:List Value,(Builtin.lenOf vy).run P w = .ok zs.length w/\(Builtin.firstCells sz zs.length vy).run P w = .ok l.toArray w/\cJ G.F (zs.flatMap D.cells) l/\sized zs sz:=by
 unfold dw at h
 split at h
 ·rename_i b
  injection h with h;subst h
  simp only[RV,RD]at hv;subst hv
  have hlen:(ofBytes b).length=b.length:=by simp[ofBytes]
  refine⟨b.map fun c=>Value.int .u8 c.toNat,?_,?_,?_,kq hh (mE b)⟩
  ·simp[Builtin.lenOf,hlen];rfl
  ·simp only[Builtin.firstCells,hlen]
   have:(ByteArray.extract ⟨b.toArray⟩ 0 b.length).data=b.toArray:=by
    simp[ByteArray.data_extract]
   simp[this]
  ·rw[oG];exact lI b
 ·obtain⟨a,c,rfl,hc,hs,l,h1,h2,h3⟩:=ru (P:=P) hI hv h hh
  exact⟨l,by simp[Builtin.lenOf],h2,h3,hs⟩
def rz(P:Program)(ats:Array TypeId):Prop:=∀u,ats[1]?=some u->∃d,P.underlying u=some d/\∀k,d ≠ .int k
theorem jw{ats:Array TypeId}{t ty e:TypeId}{i:TypeInfo}{base:Option Addr}{sLen sCap n:Nat}{x:Value}{news:Array Value}{w':World}(h0:ats[0]?=some t)(hz:rz P ats)(hu:P.underlying t=some (.slice e))(hi:P.info? e=some i)
  (hl:(Builtin.lenOf x).run P w = .ok n w) (hf:(Builtin.firstCells i.size n x).run P w = .ok news w) (hle:sLen+n<=sCap) (hst:∀a,base=some a->(storeCells (a.add (sLen*i.size)) news.toList).run P w = .ok () w') (hst0:base=none->w'=w):
  (Builtin.append_ ats ty #[.slice base sLen sCap,x]).run P w = .ok (.slice base (sLen+n) sCap) w':=by
 cases hu1:ats[1]? with
 |none=>
  cases base with
  |none=>rw[hst0 rfl];simp[Builtin.append_,h0,hu1,run_underlying hu,sizeOf,typeInfo,hi,hl,hf,hle]
  |some a=>simp[Builtin.append_,h0,hu1,run_underlying hu,sizeOf,typeInfo,hi,hl,hf,hle,hst a rfl]
 |some u=>
  obtain⟨d,hd,hn⟩:=hz u hu1
  have hm:(match d with | .int k=>true|_=>false)=false:=by cases d<;>first|rfl|exact absurd rfl (hn _)
  cases base with
  |none=>rw[hst0 rfl];simp[Builtin.append_,h0,hu1,run_underlying hu,run_underlying hd,hm,sizeOf,typeInfo,hi,hl,hf,hle]
  |some a=>simp[Builtin.append_,h0,hu1,run_underlying hu,run_underlying hd,hm,sizeOf,typeInfo,hi,hl,hf,hle,hst a rfl]
theorem lM{ats:Array TypeId}{t ty e:TypeId}{i:TypeInfo}{z:Value}{base:Option Addr}{sLen sCap n:Nat}{x:Value}{olds news:Array Value}(h0:ats[0]?=some t)(hz:rz P ats)(hu:P.underlying t=some (.slice e))(hi:P.info? e=some i)(hiz:i.zero=some z)
  (hl:(Builtin.lenOf x).run P w = .ok n w) (hf:(Builtin.firstCells i.size n x).run P w.drew = .ok news w.drew) (hfo:(Builtin.firstCells i.size sLen (.slice base sLen sCap)).run P w.drew = .ok olds w.drew) (hgt:¬sLen+n<=sCap) (h63:sLen+n<=4294967296) (hb:i.bytes<=1024):
  (Builtin.append_ ats ty #[.slice base sLen sCap,x]).run P w = .ok (.slice (some ⟨w.heap.size,0,none⟩) (sLen+n) (grownCap w (sLen+n) sCap e)) (cW w.drew (.cells (olds++news++Builtin.zeroCells z.cells (grownCap w (sLen+n) sCap e-(sLen+n))) e (0,0))):=by
 have hfit:Builtin.nextslicecap (sLen+n) sCap*i.bytes<=281474976710656:=growslice_fits (by omega) (by
  have:(sLen+n)*i.bytes<=4294967296*1024:=Nat.mul_le_mul h63 hb
  omega)
 have h48':¬(281474976710656<Builtin.nextslicecap (sLen+n) sCap*i.bytes):=by omega
 have h63':¬(9223372036854775807<((sLen:Int)+(n:Int))):=by omega
 cases hu1:ats[1]? with
 |none=>
  simp[Builtin.append_,h0,hu1,run_underlying hu,sizeOf,typeInfo,hi,hl,zeroValue,hiz,hgt,h63',h48',Question.forced,hf,hfo,newRow,grownCap]
  rfl
 |some u=>
  obtain⟨d,hd,hn⟩:=hz u hu1
  have hm:(match d with | .int k=>true|_=>false)=false:=by cases d<;>first|rfl|exact absurd rfl (hn _)
  simp[Builtin.append_,h0,hu1,run_underlying hu,run_underlying hd,hm,sizeOf,typeInfo,hi,hl,zeroValue,hiz,hgt,h63',h48',Question.forced,hf,hfo,newRow,grownCap]
  rfl
theorem Dq{F:Fz}{zs:List D}{l:List Value}(h:gM zs=true)(hl:cJ F (zs.flatMap D.cells) l):∀v∈l,v.oneCell'=true:=by
 intro v hv
 obtain⟨j,hj⟩:=List.mem_iff_getElem?.1 hv
 have hjl:=(List.getElem?_eq_some_iff.1 hj).1
 rw[cJ.length hl]at hjl
 obtain⟨u,hu,hr⟩:=cJ.get hl (List.getElem?_eq_getElem hjl)
 rw[hj]at hu;injection hu with hu;subst hu
 refine hr.one' ?_
 have hm:=List.getElem_mem hjl
 obtain⟨x,hx,hc⟩:=List.mem_flatMap.1 hm
 exact List.all_eq_true.1 (List.all_eq_true.1 h x hx) _ hc
theorem CA(hI:Inv w G S){ats:Array TypeId}{t ty e:TypeId}{sz d zc:Nat}{full:Bool}{xs zs:List D}{y:V}{vb vy:Value}{ℓ:Option Loc}(hsm:sz<1000000)(hzc:zc%1000000=sz)(hte:∀t,tg zc=some t->e=t)(h0:ats[0]?=some t)(htl:rz P ats)(hu:P.underlying t=some (.slice e))(hsz:bH P e=some sz)(hz:(eN P e).map (·.length)=some sz)(hb:((P.info? e).map (·.bytes)).getD 5000<=1024)
  (hbv:RV G (.d (.l full xs)) vb) (hyv:RV G y vy) (ht:dw S sz y=some zs) (hx:bw sz xs=true) (hh:bw sz zs=true) (hlen:xs.length+zs.length<=4294967296) (hfull:(full=false\/zc≠sz)->∃ℓ0,ℓ=some ℓ0/\dS w G ℓ0 zc vb) (hone:full=false->gM zs=true) (hℓ:∀ℓ0,ℓ=some ℓ0->Src S ℓ0):
  ∃x w' G',(Builtin.append_ ats ty #[vb,vy]).run P w = .ok x w'/\RV G' (.d (.l (full&&zs.isEmpty) (xs++zs))) x/\St1 w G S w' G' S (gA ℓ) SP/\dS w' G' (.slot d) zc x:=by
 obtain⟨i,hi,hbi⟩:=nZ hb
 have his:i.size=sz:=by simp[bH,hi]at hsz;exact hsz
 obtain⟨z,hzz⟩:∃z,eN P e=some z:=by cases h:eN P e with|none=>rw[h]at hz;simp at hz|some z=>exact⟨z,rfl⟩
 have hzl:z.length=sz:=by rw[hzz]at hz;simpa using hz
 obtain⟨i',zv,hi',hiz,hzr⟩:=kJ (G:=G) hzz
 rw[hi]at hi';injection hi' with hi';subst hi'
 have hzs:zv.cells.size=sz:=by have:=cK.length hzr;simp at this;omega
 obtain⟨l,hl1,hl2,hl3,hzsz⟩:=rm (P:=P) hI hyv ht hh
 have hbv0:=hbv
 simp only[RV,RD]at hbv
 obtain⟨a,n,c,sz',rfl,hn,hnc,hf,hs,hr⟩:=hbv
 have hxsz:=kq hx hs
 by_cases hle:n+zs.length<=c
 ·-- there is room
  have hleft:zs=[]->(∃a' n',Value.slice a n c = .slice a' n' n'/\(1000000<=zc->n'=0))->∃x w' G',(Builtin.append_ ats ty #[.slice a n c,vy]).run P w = .ok x w'/\RV G' (.d (.l (full&&zs.isEmpty) (xs++zs))) x/\St1 w G S w' G' S (gA ℓ) SP/\dS w' G' (.slot d) zc x:=by
   intro hzn hful
   subst hzn
   have hln:l=[]:=by have:=cJ.length hl3;simpa using this
   subst hln
   refine⟨.slice a n c,w,G,?_,by simpa using hbv0,⟨hI,Ext.refl _ _ _,fun _ _ _ _ h=>h,fun _ _ _ _ _=>rfl⟩,.inl hful⟩
   exact jw h0 htl hu hi hl1 (by rw[his];exact hl2) hle (fun a' ha=>by simp[storeCells]) (fun _=>rfl)
  by_cases hfz:full=true/\zc=sz
  ·obtain⟨hfu,hzz⟩:=hfz
   have:=hf hfu
   have hzn:zs=[]:=List.length_eq_zero_iff.1 (by omega)
   exact hleft hzn ⟨a,n,by rw[this],fun h=>by omega⟩
  ·have hfu:full=false\/zc≠sz:=by
    cases hx:full with
    |false=>exact .inl rfl
    |true=>exact .inr fun e=>hfz ⟨hx,e⟩
   obtain⟨ℓ0,rfl,htok⟩:=hfull hfu
   rcases htok with⟨a',n',e,hn0⟩|⟨blk,ho,htl'⟩
   ·injection e with e1 e2 e3
    exact hleft (List.length_eq_zero_iff.1 (by omega)) ⟨a,n,by rw[e3,e2],fun h=>by rw[e2];exact hn0 h⟩
   ·obtain⟨off,n',c',cs,el,fz,e,hgo,g1,g2,g0,g4,g3⟩:=htl'
    rw[hzc]at g2 g3
    injection e with e1 e2 e3;subst e1;subst e2;subst e3
    have hxr:bu G.F blk off xs:=by
     by_cases hxn:xs=[]
     ·subst hxn;simp only[bu]
     ·obtain⟨blk',off',e,hel⟩:=hr hxn
      injection e with e;injection e with e1 e2;subst e1;subst e2;exact hel
    obtain⟨w',G',p1,p2,p3,p4⟩:=AA (P:=P) (SP:=SP) (d:=d) hI (hℓ _ rfl) ho hgo hle g2 hzc g0 g4 g3 hn.symm rfl hxsz hzsz hxr hl3 (fun v hv=>by
     cases hx:full with
     |false=>exact Dq (hone hx) hl3 v hv
     |true=>
      have:=hf hx
      have hzn:zs=[]:=List.length_eq_zero_iff.1 (by omega)
      subst hzn
      have hln:l=[]:=by have:=cJ.length hl3;simpa using this
      subst hln;cases hv)
    refine⟨_,w',G',jw h0 htl hu hi hl1 (by rw[his];exact hl2) hle (fun a' ha=>by injection ha with ha;subst ha;rw[his];exact p1) (by simp),?_,p2,p4⟩
    cases hx:full with
    |false=>simp only[Bool.false_and,RV];exact p3
    |true=>
     have:=hf hx
     have hzn:zs=[]:=List.length_eq_zero_iff.1 (by omega)
     subst hzn
     have h1:=RV.mono p2.ext.le _ _ hbv0
     rw[hx]at h1
     simpa using h1
 ·-- a new row
  obtain⟨l',_,hl2',hl3',_⟩:=rm (P:=P) hI.drew hyv ht hh
  have hbv1:RV G (.d (.l full xs)) (.slice a n c):=hbv0
  obtain⟨a2,c2,e2,_,_,lo,ho1,ho2,ho3⟩:=ru (P:=P) (S:=S) (sz:=sz) (xs:=xs) hI.drew hbv1 rfl hx
  injection e2 with e2a e2b e2c;subst e2a;subst e2c
  have hgl:grownCap w (n+zs.length) c e ≥ n+zs.length:=grownCap_ge w _ _ e
  have hrun:=lM (w:=w) h0 htl hu hi hiz hl1 (by rw[his];exact hl2') (olds:=lo.toArray) (by rw[his];rw[<-hn]at ho2;exact ho2) hle (by omega) hbi (ty:=ty)
  have hlo:lo.length=n*sz:=by rw[ho1,hn]
  have hll:l'.length=zs.length*sz:=by rw[cJ.length hl3',eR hzsz]
  generalize hcap:grownCap w (n+zs.length) c e=cap at hrun hgl
  have hasz:(lo.toArray++l'.toArray++Builtin.zeroCells zv.cells (cap-(n+zs.length))).size=cap*sz:=by
   simp only[Array.size_append,List.size_toArray,size_zeroCells,hlo,hll,hzs]
   rw[<-Nat.add_mul,<-Nat.add_mul];congr 1;omega
  have hlx:(xs++zs).length=n+zs.length:=by simp[hn]
  have hst:=(St1.drew (SP:=SP) hI).trans (si hI.drew (lo.toArray++l'.toArray++Builtin.zeroCells zv.cells (cap-(n+zs.length))) e (0,0) ((n+zs.length)*sz) (some (.slot d)) (fun x hx=>by injection hx with hx;exact⟨d,hx.symm⟩)) (.inl rfl)
  have hRD:=sf (w:=w.drew) (arr:=lo.toArray++l'.toArray++Builtin.zeroCells zv.cells (cap-(n+zs.length))) (n:=(n+zs.length)*sz) (c:=cap) (ℓ:=some (.slot d)) (full:=full&&zs.isEmpty) hI.drew (hxsz.append hzsz) (l:=lo++l')
   (by rw[List.flatMap_append];exact cJ.append ho3 hl3') (fun j v hj=>by
    rw[Array.getElem?_append_left (by have:=(List.getElem?_eq_some_iff.1 hj).1;simpa using this)]
    simpa using hj) (by rw[hlx];exact Nat.le_refl _) (by rw[hlx];exact hgl) (by
    intro hff
    simp at hff
    have:=hf hff.1
    have hz0:=hff.2
    subst hz0
    simp at hle;omega)
  rw[hlx]at hRD
  refine⟨_,_,_,hrun,by simp only[RV];exact hRD,⟨hst.inv,hst.ext,fun q' sz v _ h=>hst.tok q' sz v (by simp) h,hst.sp⟩,?_⟩
  exact uD (w:=w.drew) hzc hte hgl (by rw[hasz];exact Nat.le_refl _) rfl
end
end Go.Dn
namespace Go.Dn
set_option linter.unusedVariables false
set_option linter.unusedSimpArgs false
section
variable {P : Program} {w : World} {G : Sg} {S : List Ob} {SP : Nat → Nat → Prop}
theorem z7(hI:Inv w G S){ats:Array TypeId}{t ty e:TypeId}{base y:V}{vb vy:Value}{r:Out}(h0:ats[0]?=some t)(htl:rz P ats)(hu:P.underlying t=some (.slice e))(hsz:bH P e=some 1)(hz:(eN P e).map (·.length)=some 1)
  (hbv:RV G base vb) (hyv:RV G y vy) (h:gL S (((P.info? e).map (·.bytes)).getD 5000) base y=some r):
  ∃x w' G',(Builtin.append_ ats ty #[vb,vy]).run P w = .ok x w'/\RV G' r.1 x/\St1 w G S w' G' r.2 none SP:=by
 unfold gL at h
 split at h
 rotate_left
 ·simp at h
 split at h
 rotate_left
 ·simp at h
 rename_i zs ht
 split at h
 rotate_left
 ·simp at h
 rename_i hc
 obtain⟨hh,hone,hb,hlen⟩:=hc
 injection h with h;subst h
 obtain⟨i,hi,hbi⟩:=nZ hb
 have his:i.size=1:=by simp[bH,hi]at hsz;exact hsz
 obtain⟨z,hzz⟩:∃z,eN P e=some z:=by cases h:eN P e with|none=>rw[h]at hz;simp at hz|some z=>exact⟨z,rfl⟩
 obtain⟨i',zv,hi',hiz,hzr⟩:=kJ (G:=G) hzz
 rw[hi]at hi';injection hi' with hi';subst hi'
 obtain⟨l,hl1,hl2,hl3,hzsz⟩:=rm (P:=P) hI hyv ht hh
 simp only[RV,RD]at hbv
 obtain⟨a,n,c,sz',rfl,hn,hnc,hf,hs,hr⟩:=hbv
 have hn0:n=0:=by simpa using hn
 have hc0:c=0:=by have:=hf trivial;omega
 subst hn0;subst hc0
 by_cases hm:zs=[]
 ·subst hm
  have hln:l=[]:=by have:=cJ.length hl3;simpa using this
  subst hln
  refine⟨.slice a 0 0,w,G,jw h0 htl hu hi hl1 (by rw[his];exact hl2) (by simp) (fun a' ha=>by simp[storeCells]) (fun _=>rfl),?_,⟨hI.phantom _ (by intro cs fl e;injection e with e _;subst e;rfl),Ext.phantom _,fun _ _ _ _ h=>h,fun _ _ _ _ _=>rfl⟩⟩
  simp only[RV]
  exact⟨a,0,rfl,by simp,by simp⟩
 ·have hml:0<zs.length:=List.length_pos_iff.2 hm
  obtain⟨l',_,hl2',hl3',_⟩:=rm (P:=P) hI.drew hyv ht hh
  have hfo:(Builtin.firstCells i.size 0 (.slice a 0 0)).run P w.drew = .ok #[] w.drew:=by
   cases a<;>simp[Builtin.firstCells,loadCells,loadCellsFrom]
  have hrun:=lM (w:=w) (ty:=ty) h0 htl hu hi hiz hl1 (by rw[his];exact hl2') hfo (by omega) (by omega) hbi
  have hgl:grownCap w (0+zs.length) 0 e ≥ 0+zs.length:=grownCap_ge w _ _ e
  generalize hcap:grownCap w (0+zs.length) 0 e=cap at hrun hgl
  have hfl:zs.flatMap D.cells=zs:=by
   have:∀ys:List D,(ys.map V.d).all V.one=true->ys.flatMap D.cells=ys:=by
    intro ys hy
    induction ys with
    |nil=>rfl
    |cons y ys ih=>
     simp at hy
     rw[List.flatMap_cons,ih (by simpa using hy.2)]
     cases y<;>first|rfl|simp[V.one]at hy
   exact this zs hone
  rw[hfl]at hl3'
  have hll:=cJ.length hl3'
  obtain⟨h1,h2⟩:=me hI.drew (el:=e) (cs:=zs.map .d) (fl:=[]) (arr:=#[]++l'.toArray++Builtin.zeroCells zv.cells (cap-(0+zs.length))) (SP:=SP) (by
   rw[qU]
   simp[hll,List.take_append_of_le_length]
   exact hl3') hone (by simp[hll]) (t:=none) (by simp[jE]) (fun _ e=>by cases e) (oN _ _) (0,0) (.inl rfl)
  rw[Nat.zero_add]at hrun hgl
  refine⟨_,_,_,hrun,?_,(St1.drew hI).trans (by simpa using h1) (.inl rfl)⟩
  simp only[RV]
  exact⟨_,_,rfl,hgl,fun _=>⟨_,h2,rfl⟩⟩
theorem oZ{fl:Fl}{t z:Nat}(h:tok fl t=some z):(t,z)∈fl:=by
 unfold tok at h
 obtain⟨x,hx,rfl⟩:=Option.map_eq_some_iff.1 h
 have h1:=List.find?_some hx
 have h2:=List.mem_of_find?_eq_some hx
 have:x.1=t:=by simpa using h1
 subst this;exact h2
theorem Gw(hI:Inv w G S){id off z:Nat}{S':List Ob}(h:mL S (.p id off)=some (z,S')){b:Nat}(ho:G.own b=some (.obj id)){v:Value}(hv:w.cell? ⟨b,off,none⟩=some v):
  Inv w G S'/\Ext w G S w G S'/\(z≠2000000->dS w G (.cell id off) z v)/\Src S' (.cell id off):=by
 unfold mL at h
 simp only at h
 split at h
 rotate_left
 ·simp at h
 rename_i cs fl hob
 split at h
 rotate_left
 ·simp at h
 rename_i sz htok
 injection h with h;injection h with h1 h2;subst h1;subst h2
 obtain⟨hFb,o',go,hs',hgo,hor⟩:=hI.ob _ _ ho
 rw[hob]at hs';injection hs' with hs';subst hs'
 cases go<;>simp only[fA]at hor
 rename_i arr el fz
 obtain⟨hlen,hcells,hflags⟩:=hor
 have hlt:=cA hob
 refine⟨⟨hI.fz,fun b' id' h'=>?_,hI.inj,hI.tk,fun b' id' o' h'=>by rw[cx];exact hI.cl _ _ _ h',fun id' cs' fl' h'=>?_,hI.tb⟩,⟨rfl,rfl,rfl,Nat.le_refl _,fun _ _ _ h=>h,fun _ _ h=>h,fun _ _ _=>⟨rfl,rfl,fun _=>rfl⟩,fun _ _ h _=>h,fun id' _ hn=>bK (fun e=>hn b (e▸ho)),by rw[cx];exact Nat.le_refl _⟩,?_,?_⟩
 ·obtain⟨h1,o1,go1,h2,h3,h4⟩:=hI.ob _ _ h'
  by_cases e:id'=id
  ·subst e
   have:=hI.inj _ _ _ h' ho;subst this
   rw[hgo]at h3;injection h3 with h3;subst h3
   rw[hob]at h2;injection h2 with h2;subst h2
   refine⟨h1,_,_,bX hlt,hgo,?_⟩
   simp only[fA]
   exact⟨hlen,hcells,fun o1 z1 hm=>hflags o1 z1 (dX.1 hm).1⟩
  ·exact⟨h1,o1,go1,by rw[bK e];exact h2,h3,h4⟩
 ·by_cases e:id'=id
  ·subst e;rw[bX hlt]at h';injection h' with h';injection h' with h1 h2;subst h1;exact hI.rf _ _ _ hob
  ·rw[bK e]at h';exact hI.rf _ _ _ h'
 ·intro hz
  have hF:=hflags _ _ (oZ htok)
  unfold k5 at hF
  rw[if_neg hz]at hF
  obtain⟨u,hu,ht⟩:=hF
  have:w.cell? ⟨b,off,none⟩=arr[off]?:=by simp[World.cell?,hgo]
  rw[hv,hu]at this;injection this with this;subst this
  exact ht
 ·refine .inr ⟨id,off,rfl,fun cs' fl' z' h'=>?_⟩
  rw[bX hlt]at h';injection h' with h';injection h' with h1 h2;subst h2
  intro hm
  exact(dX.1 hm).2 rfl
theorem DD(hI:Inv w G S)(t d:Nat):St1 w G S w ⟨G.F,iJ G.own (.slot t) (.slot d)⟩ S (some t) SP/\(∀sz v,dS w G (.slot t) sz v->dS w ⟨G.F,iJ G.own (.slot t) (.slot d)⟩ (.slot d) sz v):=by
 have hobj:∀b id,iJ G.own (.slot t) (.slot d) b=some (.obj id)->G.own b=some (.obj id):=by
  intro b id h
  rcases fZ h with⟨e,_⟩|h
  ·cases e
  ·exact h
 have hle:Le G ⟨G.F,iJ G.own (.slot t) (.slot d)⟩:=⟨fun _ _ _ h=>h,fun b id h=>dK h (by simp)⟩
 refine⟨⟨⟨hI.fz,fun b id h=>?_,fun b b' id h h'=>hI.inj _ _ _ (hobj _ _ h) (hobj _ _ h'),fun b ℓ h=>?_,fun b id o h=>?_,hI.rf,hI.tb_of fun c _ h0=>⟨rfl,kF h0⟩⟩,⟨rfl,rfl,rfl,Nat.le_refl _,fun _ _ _ h=>h,hle.obj,fun b _ h=>⟨?_,rfl,fun _=>rfl⟩,fun b id h _=>hobj _ _ h,fun _ _ _=>rfl,Nat.le_refl _⟩,fun q' sz v hq h=>?_,fun _ _ _ _ _=>rfl⟩,fun sz v h=>?_⟩
 ·obtain⟨h1,o,go,h2,h3,h4⟩:=hI.ob _ _ (hobj _ _ h)
  exact⟨h1,o,go,h2,h3,h4.same hle fun off blk hk=>⟨dK hk (by simp),rfl,fun _=>rfl⟩⟩
 ·rcases fZ h with⟨_,h⟩|h<;>exact hI.tk _ _ h
 ·rcases fZ h with⟨e,_⟩|h
  ·cases e
  ·exact hI.cl _ _ _ h
 ·rcases h with h|h
  ·rw[h];exact kF h
  ·rw[h];exact dK h (by simp)
 ·exact h.same fun blk hb=>⟨dK hb (by intro e;injection e with e;exact hq (by rw[e])),rfl,fun _=>rfl⟩
 ·rcases h with h|⟨blk,ho,ht⟩
  ·exact .inl h
  ·exact .inr ⟨blk,nI ho,ht⟩
end
end Go.Dn
namespace Go.Dn
set_option linter.unusedVariables false
set_option linter.unusedSimpArgs false
def fE(w:World)(G:Sg)(a:Act)(fl:Fl):Prop:=∀q z,(q,z)∈fl->a.tmps.getD q undef=undef\/dS w G (.slot q) z (a.tmps.getD q undef)
theorem sM(a:Act)(d:Nat)(x:Value)(q:Nat):(a.put (some d) x).tmps.getD q undef=if q=d then(if d<a.tmps.size then x else undef)else a.tmps.getD q undef:=by
 simp only[Act.put,Array.getD_eq_getD_getElem?,Array.getElem?_setIfInBounds]
 by_cases e:d=q
 ·subst e
  by_cases h:d<a.tmps.size
  ·simp[h]
  ·simp[h,Array.getElem?_eq_none (Nat.le_of_not_lt h)]
 ·rw[if_neg e,if_neg (Ne.symm e)]
theorem FL(a:Act)(x:Value):a.put none x=a:=rfl
theorem fE.put{w w':World}{G G':Sg}{a:Act}{fl:Fl}{dst:Option Nat}{x:Value}{q:Option Nat}(h:fE w G a fl)(ht:∀q' sz v,some q'≠q->dS w G (.slot q') sz v->dS w' G' (.slot q') sz v)(hq:∀y z,q=some y->(y,z)∉fl):
  fE w' G' (a.put dst x) (match dst with|some d=>cZ fl d|none=>fl):=by
 intro q' z hm
 have hm':(q',z)∈fl/\(a.put dst x).tmps.getD q' undef=a.tmps.getD q' undef:=by
  cases dst with
  |none=>exact⟨hm,rfl⟩
  |some d=>
   obtain⟨h1,h2⟩:=dX.1 hm
   exact⟨h1,by rw[sM,if_neg h2]⟩
 rw[hm'.2]
 rcases h q' z hm'.1 with h|h
 ·exact .inl h
 ·exact .inr (ht _ _ _ (fun e=>hq q' z e.symm hm'.1) h)
theorem fE.add{w:World}{G:Sg}{a:Act}{fl:Fl}{d:Nat}{x:Value}{z:Nat}(h:fE w G (a.put (some d) x) fl)(ht:x=undef\/dS w G (.slot d) z x):fE w G (a.put (some d) x) ((d,z)::fl):=by
 intro q' z' hm
 rcases List.mem_cons.1 hm with e|hm
 ·injection e with e1 e2;subst e1;subst e2
  rw[sM,if_pos rfl]
  split
  ·exact ht
  ·exact .inl rfl
 ·exact h q' z' hm
theorem fE.sub{w:World}{G:Sg}{a:Act}{fl fl':Fl}(h:fE w G a fl)(hs:∀x∈fl',x∈fl):fE w G a fl':=fun q z hm=>h q z (hs _ hm)
theorem gI{fl:Fl}{t:Nat}:∀x∈cZ fl t,x∈fl:=fun x h=>(dX (o:=x.1) (z:=x.2)).1 h |>.1
theorem mV{fl:Fl}{t z:Nat}:(t,z)∉cZ fl t:=fun h=>(dX.1 h).2 rfl
theorem mU{fl:Fl}{s t:Nat}:∀x∈cZ (cZ fl s) t,x∈cZ (cZ fl t) s:=by
 intro x h
 obtain⟨h1,h2⟩:=(dX (o:=x.1) (z:=x.2)).1 h
 obtain⟨h3,h4⟩:=dX.1 h1
 exact dX.2 ⟨dX.2 ⟨h3,h2⟩,h4⟩
section
variable {P : Program} {aE : Pol} {w : World} {G : Sg} {S : List Ob}
structure Eff (P:Program) (aE:Pol) (w:World) (G:Sg) (S:List Ob) (a:Act) (k r i:Nat) (ops:List Oper) (vals:List V) (fl:Fl) (o:Oper) (v:V) (S':List Ob) (x:Value) (w':World) (G':Sg):Prop where
 run:(execOp a.eval o).run P w = .ok (.value x) w'\/(execOp a.eval o).run P w = .ok .skip w'/\x=undef
 rv:RV G' v x
 inv:Inv w' G' S'
 ext:Ext w G S w' G' S'
 tok:fE w' G' (a.put o.dst x) (bI P aE k r i ops fl o)
 sp:∀id off,cL P vals id off 1 o=true->∀b,G.own b=some (.obj id)->w'.cell? ⟨b,off,none⟩=w.cell? ⟨b,off,none⟩
structure NoTok (o:Oper):Prop where
 h1:∀x,o.op ≠ .assign x
 h2:∀t a x,o.op ≠ .store t a x
 h3:∀t n c,o.op ≠ .makeSlice t n c
 h4:∀c,o.op = .call c->c.callee ≠ .builtin .append
theorem gP{k r i:Nat}{ops:List Oper}{fl:Fl}{o:Oper}(h:NoTok o):bI P aE k r i ops fl o=(match o.dst with|some d=>cZ fl d|none=>fl):=by
 unfold bI
 simp only
 split
 ·rfl
 ·split
  ·rename_i e _;exact absurd e (h.h1 _)
  ·rename_i e _;exact absurd e (h.h1 _)
  ·rename_i e;exact absurd e (h.h2 _ _ _)
  ·rename_i e _;exact absurd e (h.h3 _ _ _)
  ·rename_i e _
   split
   ·rename_i e2;exact absurd e2 (h.h4 _ e)
   ·rfl
  ·rfl
theorem Eff.mk'{a:Act}{k r i:Nat}{ops:List Oper}{vals:List V}{fl:Fl}{o:Oper}{v:V}{S':List Ob}{x:Value}{w':World}{G':Sg}(htk:fE w G a fl)(h:NoTok o)
  (hrun:(execOp a.eval o).run P w = .ok (.value x) w'\/(execOp a.eval o).run P w = .ok .skip w'/\x=undef) (hrv:RV G' v x) (hst:St1 w G S w' G' S' none fun id off=>cL P vals id off 1 o=true):
  Eff P aE w G S a k r i ops vals fl o v S' x w' G':=
 ⟨hrun,hrv,hst.inv,hst.ext,by rw[gP h];exact htk.put hst.tok (by simp),hst.sp⟩
def Ec(aE:Pol)(w:World)(G:Sg)(a:Act)(vals:List V)(ops:List Oper)(o:Oper)(k r i:Nat):Prop:=
 ∀c x,o.op = .call c->c.callee = .builtin .append->c.args.toList.head?=some x->
  (aE.app k r i=2->∀q,ld ops x=some q->a.eval x=undef\/a.eval x=a.tmps.getD q undef)/\
  (aE.app k r i=3->∀q id off,iz ops x=some q->vals.getD q .u = .p id off->a.eval x=undef\/∃b,G.own b=some (.obj id)/\w.cell? ⟨b,off,none⟩=some (a.eval x))
theorem zF{c:Call}(h:Cn P c=true):rz P c.argTypes:=by
 intro u hu
 unfold Cn at h
 rw[hu]at h
 simp only at h
 split at h
 ·rename_i e he;exact⟨_,he,by simp⟩
 ·rename_i he;exact⟨_,he,by simp⟩
 ·simp at h
theorem qJ{t e:TypeId}(h:jS P t=some e):P.underlying t=some (.slice e):=by
 unfold jS at h;split at h<;>simp_all
theorem mM{G:Sg}{full:Bool}{xs:List D}{v:Value}(h:RV G (.d (.l full xs)) v):v≠undef:=by
 simp only[RV,RD]at h
 obtain⟨_,_,_,_,rfl,_⟩:=h
 simp[undef]
theorem wL{G:Sg}{x:V}{v:Value}(h:RV G x v)(h1:x.one=true):v≠undef:=by
 have:=RV.one' h h1
 intro e;subst e;simp[undef,Value.oneCell']at this
theorem Bs{a:V}{z:Nat}{S1:List Ob}(h:mL S a=some (z,S1))(sz:Nat)(y:V):view S sz y=view S1 sz y:=by
 unfold mL at h
 split at h
 rotate_left
 ·simp at h
 split at h
 rotate_left
 ·simp at h
 rename_i id off _ cs fl hob
 split at h
 rotate_left
 ·simp at h
 injection h with h;injection h with _ h;subst h
 rename_i off0 _ _ _ _ _
 cases y with
 |m id' off' len'=>
  simp only[view]
  by_cases e:id'=id
  ·subst e;rw[bX (cA hob),hob]
  ·rw[bK e]
 |d x=>cases x<;>rfl
 |_=>rfl
theorem oF{a:V}{z:Nat}{S1:List Ob}(h:mL S a=some (z,S1)){sz:Nat}{y:V}:dw S sz y=dw S1 sz y:=by
 unfold dw
 split
 ·rfl
 ·exact Bs h sz _
theorem An{f:Task->Option Out}{k r i:Nat}{ops:List Oper}{vals:List V}{fl:Fl}{a:Act}{o:Oper}{c:Call}{v:V}{S':List Ob}(hI:Inv w G S)(hf:Fr G vals a)(htk:fE w G a fl)(hgd:jh aE k r i o=true)(hsteal:Ec aE w G a vals ops o k r i)
    (hop:o.op = .call c) (hcal:c.callee = .builtin .append) (h:aC f (dU P aE k r i ops vals fl S o)=some (v,S')):∃x w' G',Eff P aE w G S a k r i ops vals fl o v S' x w' G':=by
  unfold dU at h
  simp only[hop,hcal]at h
  split at h
  rotate_left
  · simp[aC]at h
  rename_i x y t hargs ht
  simp only[aV,Option.bind_eq_some_iff,bA]at h
  obtain⟨e,he,sz,hsz,bx,hbx,vy,hvy,h⟩:=h
  split at h
  rotate_left
  · simp at h
  rename_i hc
  simp only[Bool.and_eq_true,decide_eq_true_eq]at hc
  obtain⟨⟨⟨htl,hz⟩,hds⟩,hsm⟩:=hc
  obtain⟨d,hd⟩:=Option.isSome_iff_exists.1 hds
  have hu:=qJ he
  have hxr:=ca hf hbx
  have hyr:=ca hf hvy
  have hrun:∀{z:Value} {w':World},(Builtin.append_ c.argTypes o.type #[a.eval x,a.eval y]).run P w = .ok z w'->(execOp a.eval o).run P w = .ok (.value z) w':=by
    intro z w' h
    have ha:c.args.map a.eval=#[a.eval x,a.eval y]:=by
      apply Array.ext'
      rw[Array.toList_map,hargs];rfl
    simp[execOp,hop,resolve,hcal,invoke,builtin,ha,h]
  have hst:=hsteal c x hop hcal (by rw[hargs];rfl)
  have gen:∀(full0:Bool) (S1:List Ob) (ℓ:Option Loc) (hI1:Inv w G S1) (hE1:Ext w G S w G S1) (fr:Bool) (zc:Nat),zc%1000000=sz->(∀t,tg zc=some t->e=t)->(fr=true->zc=sz)->eV S1 sz (((P.info? e).map (·.bytes)).getD 5000) fr bx vy=some v->dw S sz vy=dw S1 sz vy->
      (fr=false->∃ℓ0,ℓ=some ℓ0/\dS w G ℓ0 zc (a.eval x))->(∀ℓ0,ℓ=some ℓ0->Src S1 ℓ0)->(∀q,gA ℓ=some q->∃d z,o.dst=some d/\tok fl q=some z/\True)->S'=S1->
      (bI P aE k r i ops fl o=(match o.dst with|some d=>(match gA ℓ with|some q=>(d,zc)::cZ (cZ fl d) q|none=>(d,zc)::cZ fl d)|none=>fl))->∃x w' G',Eff P aE w G S a k r i ops vals fl o v S' x w' G':=by
    intro full0 S1 ℓ hI1 hE1 fr zc hzc hte hz0 ha hta htok hsrc hq hS' hfl
    unfold eV at ha
    split at ha
    rotate_left
    · simp at ha
    rename_i full xs
    split at ha
    rotate_left
    · simp at ha
    rename_i zs hzs
    split at ha
    rotate_left
    · simp at ha
    rename_i hcond
    obtain⟨g1,g2,g3,g4,g5,g6⟩:=hcond
    injection ha with ha
    obtain⟨x',w',G',p1,p2,p3,p4⟩:=CA (P:=P) (SP:=fun id off=>cL P vals id off 1 o=true) (ty:=o.type) (d:=o.dst.getD 0) hI1 hsm hzc hte ht (zF htl) hu hsz hz g5 hxr hyr hzs g2 g3 g6 (ℓ:=ℓ) (fun hff=>by
      cases fr with
      | true => rcases hff with hff | hff
                · rw[g1 rfl]at hff;cases hff
                · exact absurd (hz0 rfl) hff
      |false=>exact htok rfl) g4 hsrc
    refine⟨x',w',G',.inl (hrun p1),by rw[<-ha];exact p2,by rw[hS'];exact p3.inv,by rw[hS'];exact hE1.trans p3.ext,?_,p3.sp⟩
    rw[hfl]
    cases hd:o.dst with
    |none=>
      simp only
      have:gA ℓ=none:=by
        cases hsl:gA ℓ with
        |none=>rfl
        |some q=>obtain⟨d,z,h1,_⟩:=hq q hsl;rw[hd]at h1;cases h1
      have:=htk.put (dst:=none) (x:=x') p3.tok (by rw[this];simp)
      exact this
    |some d=>
      rw[hd]at p4
      simp only[Option.getD_some]at p4
      simp only
      cases hsl:gA ℓ with
      |none=>
        rw[hsl]at p3
        exact(htk.put (dst:=some d) (x:=x') p3.tok (by simp)).add (.inr p4)
      |some q=>
        rw[hsl]at p3
        have h1:fE w G a (cZ fl q):=htk.sub gI
        exact((h1.put (dst:=some d) (x:=x') p3.tok (by intro y z e;injection e with e;subst e;exact mV)).sub mU).add (.inr p4)
  have hgn:aE.app k r i≠1->o.guard=none:=by
    intro hne
    unfold jh at hgd
    cases hg:o.guard with
    |none=>rfl
    |some g=>
      rw[hg]at hgd;simp only[hop,hcal]at hgd
      exact absurd (by simpa using hgd) hne
  split at h
  · rename_i happ
    simp only[aV,Option.bind_eq_some_iff,aC,Option.some.injEq,Prod.mk.injEq]at h
    obtain⟨v',hv',rfl,rfl⟩:=h
    refine gen true S none hI (Ext.refl _ _ _) true sz (Nat.mod_eq_of_lt hsm) (fun t h=>by simp[tg]at h;omega) (fun _=>rfl) hv' rfl (by simp) (by simp) (by simp[gA]) rfl ?_
    unfold bI
    simp only[hgn (by omega),hop,hcal,hargs,ht,Option.bind_some,he,hsz,happ,gA,hd]
    simp
  · rename_i happ
    simp only[bA,aV]at h
    split at h
    rotate_left
    · simp at h
    rename_i hs1
    simp only[Option.bind_eq_some_iff,aC,Option.some.injEq]at h
    obtain⟨r',hr',e'⟩:=h
    have hsz1:sz=1:=by simpa using hs1
    subst hsz1
    obtain⟨x',w',G',p1,p2,p3⟩:=z7 (P:=P) (SP:=fun id off=>cL P vals id off 1 o=true) (ty:=o.type) hI ht (zF htl) hu hsz hz hxr hyr hr'
    obtain⟨rfl,rfl⟩:=Prod.mk.inj e'
    refine⟨x',w',G',.inl (hrun p1),p2,p3.inv,p3.ext,?_,p3.sp⟩
    have:bI P aE k r i ops fl o=(match o.dst with|some d=>cZ fl d|none=>fl):=by
      unfold bI
      cases o.dst<;>simp[hop,hcal,hargs,ht,he,hsz,happ]
    rw[this]
    exact htk.put p3.tok (by simp)
  · rename_i happ
    simp only[bA,aV,Option.bind_eq_some_iff,aC]at h
    obtain⟨q,hq,h⟩:=h
    split at h
    rotate_left
    · simp at h
    rename_i htq
    simp only[decide_eq_true_eq]at htq
    simp only[Option.bind_eq_some_iff,Option.some.injEq,Prod.mk.injEq]at h
    obtain⟨v',hv',rfl,rfl⟩:=h
    have hlist:∃full xs,bx = .d (.l full xs):=by
      unfold eV at hv';split at hv'
      · exact⟨_,_,rfl⟩
      · simp at hv'
    obtain⟨full,xs,rfl⟩:=hlist
    have hval:=(hst.1 happ q hq).resolve_left (mM hxr)
    · refine gen true S (some (.slot q)) hI (Ext.refl _ _ _) false sz (Nat.mod_eq_of_lt hsm) (fun t h => by simp [tg] at h; omega) (fun e => by cases e) hv' rfl (fun _ => ⟨_, rfl, ?_⟩) (fun ℓ0 e => by injection e with e; subst e; exact .inl ⟨_, rfl⟩) (fun q' hq' => by simp [gA] at hq'; subst hq'; exact ⟨d, sz, hd, htq, trivial⟩) rfl ?_
      · rcases htk q sz (oZ htq) with h' | h'
        · rw[<-hval]at h';exact absurd h' (mM hxr)
        · rw[hval];exact h'
      · unfold bI
        simp only[hgn (by omega),hop,hcal,hargs,ht,Option.bind_some,he,hsz,happ,gA,hd,hq]
        simp
  · rename_i happ
    simp only[bA,aV,Option.bind_eq_some_iff,aC]at h
    obtain⟨q,hq,⟨z,S1⟩,hun,h⟩:=h
    split at h
    rotate_left
    · simp at h
    rename_i hzs
    simp only[Bool.and_eq_true,decide_eq_true_eq]at hzs
    obtain⟨hzs,hst1⟩:=hzs
    have hzall:z%1000000=sz/\z≠2000000/\∀t,tg z=some t->e=t:=by
      unfold LZ at hst1
      unfold Ig at hzs
      split at hzs
      · rename_i t0 ht0
        refine⟨by omega,by omega,fun t h=>?_⟩
        rw[ht0]at hst1
        have:e=t0:=by simpa using hst1
        simp only[tg]at h
        rw[if_pos (by omega)]at h
        injection h with h
        have h2:t0=t:=by omega
        exact this.trans h2
      · exact⟨by omega,by omega,fun t h=>by simp only[tg]at h;rw[if_neg (by omega)]at h;cases h⟩
    simp only[Option.bind_eq_some_iff,Option.some.injEq,Prod.mk.injEq]at h
    obtain⟨v',hv',rfl,rfl⟩:=h
    obtain⟨id,off,hva⟩:∃id off,vals.getD q .u = .p id off:=by
      unfold mL at hun;split at hun
      · rename_i e;exact⟨_,_,e⟩
      · simp at hun
    have hlist:∃full xs,bx = .d (.l full xs):=by
      unfold eV at hv';split at hv'
      · exact⟨_,_,rfl⟩
      · simp at hv'
    obtain⟨full,xs,rfl⟩:=hlist
    obtain⟨b,hb,hcell⟩:=(hst.2 happ q id off hq hva).resolve_left (mM hxr)
    rw[hva]at hun
    obtain⟨q1,q2,q3,q4⟩:=Gw hI hun hb hcell
    refine gen true S1 (some (.cell id off)) q1 q2 false z hzall.1 hzall.2.2 (fun e=>by cases e) (by unfold eV at hv' ⊢;rw[<-oF hun];exact hv') (oF hun) (fun _=>⟨_,rfl,q3 hzall.2.1⟩) (fun ℓ0 e=>by injection e with e;subst e;exact q4) (by simp[gA]) rfl ?_
    unfold bI
    simp only[hgn (by omega),hop,hcal,hargs,ht,Option.bind_some,he,hsz,happ,gA,hd]
    simp[hzs]
  · simp[aC]at h
theorem AO{agg:Bool}{n:Nat}{fl:Fl}{tk:Option Nat}{a v:V}{S':List Ob}{x:Value}(h:gR S agg n fl tk a v=some S')(hv:RV G v x):x≠undef:=by
 unfold gR at h
 split at h
 rotate_left
 ·simp at h
 split at h
 rotate_left
 ·simp at h
 split at h
 ·split at h
  rotate_left
  ·simp at h
  simp only[RV,RD]at hv
  obtain⟨vs,rfl,_⟩:=hv
  simp[undef]
 ·split at h
  rotate_left
  ·simp at h
  rename_i hc
  exact wL hv hc.1
theorem oT{vals:List V}{o:Oper}{t:TypeId}{ad x:Operand}{va:V}{sz:Nat}(hop:o.op = .store t ad x)(hva:ev vals ad=some va)(hsz:bH P t=some sz){id off:Nat}(h:cL P vals id off 1 o=true):
  ∀id' off',va = .p id' off'->id≠id'\/off<off'\/off'+sz<=off:=by
 intro id' off' e
 subst e
 unfold cL at h
 simp only[hop,hva,hsz]at h
 simp at h
 omega
def Jw(o:Oper):Prop:=∀c f,o.op = .call c->c.callee ≠ .value f
theorem I9{f:Task->Option Out}{k r i:Nat}{ops:List Oper}{vals:List V}{fl:Fl}{a:Act}{o:Oper}{v:V}{S':List Ob}(hI:Inv w G S)(hf:Fr G vals a)(htk:fE w G a fl)(hgd:jh aE k r i o=true)(hsteal:Ec aE w G a vals ops o k r i)
  (hnc:Jw o) (h:aC f (dU P aE k r i ops vals fl S o)=some (v,S')):∃x w' G',Eff P aE w G S a k r i ops vals fl o v S' x w' G':=by
 have h0:=h
 unfold dU at h
 split at h
 ·-- box
  rename_i t x hop
  simp only[aV,Option.bind_eq_some_iff,aC,Option.some.injEq]at h
  obtain⟨sz,hsz,vx,hvx,r',hr',e⟩:=h
  obtain⟨rfl,rfl⟩:=Prod.mk.inj e
  obtain⟨x',w',G',p1,p2,p3⟩:=IU (P:=P) (t:=t) hI (ca hf hvx) hr'
  exact⟨x',w',G',.mk' htk ⟨by simp[hop],by simp[hop],by simp[hop],by simp[hop]⟩ (.inl (by simp[execOp,hop,p1])) p2 p3⟩
 ·-- store
  rename_i t ad x hop
  simp only[aV,Option.bind_eq_some_iff,aC,Option.some.injEq,Prod.mk.injEq]at h
  obtain⟨g,hg,sz,hsz,va,hva,vx,hvx,S1,hS1,rfl,rfl⟩:=h
  have htk':∀y z,x = .tmp y->tok fl y=some z->dS w G (.slot y) z (a.eval x)\/a.eval x=undef:=by
   intro y z e h1
   subst e
   rcases htk y z (oZ h1)with h|h
   ·exact .inr h
   ·exact .inl h
  have hne:=AO hS1 (ca hf hvx)
  by_cases hyes:∃y,x = .tmp y/\o.guard=none
  ·obtain⟨y,rfl,hgn⟩:=hyes
   simp only[hgn]at hS1
   obtain⟨w',G',p1,p2⟩:=zq (P:=P) (w:=w) (G:=G) (q:=some y) hI hsz (ca hf hva) (ca hf hvx) (fun z hz=>⟨y,rfl,(htk' y z rfl hz).resolve_right hne⟩) hS1
   refine⟨undef,w',G',.inr ⟨by simp[execOp,hop,p1],rfl⟩,by simp only[RV],p2.inv,p2.ext,?_,fun id off hs=>p2.sp id off (oT hop hva hsz hs)⟩
   have h1:fE w G a (cZ fl y):=htk.sub gI
   have h2:=h1.put (dst:=o.dst) (x:=undef) p2.tok (by intro y' z e;injection e with e;subst e;exact mV)
   unfold bI
   simp only[hgn,hop]
   cases hd:o.dst with
   |none=>rw[hd]at h2;simpa using h2
   |some d=>rw[hd]at h2;exact h2.sub mU
  ·have htk0:∀z,(match x,o.guard with | .tmp y,none=>tok fl y|_,_=>none)≠some z:=by
    intro z hz
    split at hz
    ·rename_i hgn;exact hyes ⟨_,rfl,hgn⟩
    ·cases hz
   obtain⟨w',G',p1,p2⟩:=zq (P:=P) (w:=w) (G:=G) (q:=none) hI hsz (ca hf hva) (ca hf hvx) (fun z hz=>absurd hz (htk0 z)) hS1
   refine⟨undef,w',G',.inr ⟨by simp[execOp,hop,p1],rfl⟩,by simp only[RV],p2.inv,p2.ext,?_,fun id off hs=>p2.sp id off (oT hop hva hsz hs)⟩
   have h2:=htk.put (dst:=o.dst) (x:=undef) p2.tok (by simp)
   have:bI P aE k r i ops fl o=(match o.dst with|some d=>cZ fl d|none=>fl):=by
    unfold bI
    simp only
    split
    ·rfl
    ·rename_i hgs
     have hgn:o.guard=none:=by cases hg:o.guard<;>simp[hg]at hgs⊢
     cases x with
     |tmp y=>exact absurd ⟨y,rfl,hgn⟩ hyes
     |_=>cases o.dst<;>simp[hop]
   rw[this];exact h2
 ·-- a map
  rename_i t n hop
  split at h
  ·simp only[aC,Option.some.injEq]at h
   obtain⟨rfl,rfl⟩:=Prod.mk.inj h
   obtain⟨x',w',G',p1,p2,p3⟩:=AL (P:=P) (SP:=fun id off=>cL P vals id off 1 o=true) (t:=t) hI
   exact⟨x',w',G',.mk' htk ⟨by simp[hop],by simp[hop],by simp[hop],by simp[hop]⟩ (.inl (by simp[execOp,hop,p1])) p2 p3⟩
  ·simp[aC]at h
 ·-- a make
  rename_i t n c hop
  simp only[aV,Option.bind_eq_some_iff,bA]at h
  obtain⟨e,he,z,hz,h⟩:=h
  have hu:=qJ he
  split at h
  rotate_left
  ·simp at h
  rename_i hc
  simp only[Bool.and_eq_true,decide_eq_true_eq]at hc
  split at h
  ·rename_i zd happ
   simp only[aV,Option.bind_eq_some_iff,aC,Option.some.injEq,Prod.mk.injEq]at h
   obtain⟨vn,hvn,vc,hvc,v',hv',rfl,rfl⟩:=h
   obtain⟨x',w',G',p1,p2,p3,p4⟩:=Fb (P:=P) (SP:=fun id off=>cL P vals id off 1 o=true) (d:=o.dst.getD 0) hI hu hz hc.1 hc.2 (ca hf hvn) (ca hf hvc) hv'
   refine⟨x',w',G',.inl (by simp[execOp,hop,p1]),p2,p3.inv,p3.ext,?_,p3.sp⟩
   have h2:=htk.put (dst:=o.dst) (x:=x') p3.tok (by simp)
   unfold bI
   simp only
   split
   ·exact h2
   ·cases hd:o.dst with
    |none=>rw[hd]at h2;simpa[hop]using h2
    |some d=>
     rw[hd]at h2 p4
     simp only[hop,happ,if_true,he,Option.bind_some,hc.2]
     exact h2.add (.inr p4)
  ·rename_i zd happ
   simp only[aV,Option.bind_eq_some_iff,aC,Option.some.injEq]at h
   obtain⟨vn,hvn,vc,hvc,r',hr',e'⟩:=h
   obtain⟨rfl,rfl⟩:=Prod.mk.inj e'
   obtain⟨x',w',G',p1,p2,p3⟩:=Fc (P:=P) (SP:=fun id off=>cL P vals id off 1 o=true) hI hu hz hc.1 hc.2 (ca hf hvn) (ca hf hvc) hr'
   refine⟨x',w',G',.inl (by simp[execOp,hop,p1]),p2,p3.inv,p3.ext,?_,p3.sp⟩
   have h2:=htk.put (dst:=o.dst) (x:=x') p3.tok (by simp)
   have:bI P aE k r i ops fl o=(match o.dst with|some d=>cZ fl d|none=>fl):=by
    unfold bI
    cases o.dst<;>simp[hop,happ]
   rw[this];exact h2
  ·simp[aC]at h
 ·-- a text's runes
  rename_i t x hop
  split at h
  ·rename_i hu
   simp only[aV,Option.bind_eq_some_iff]at h
   obtain⟨vx,hvx,h⟩:=h
   split at h
   ·rename_i b
    simp only[aC,Option.some.injEq]at h
    obtain⟨rfl,rfl⟩:=Prod.mk.inj h
    have hx:=ca hf hvx
    simp only[RV,RD]at hx
    obtain⟨x',w',G',p1,p2,p3⟩:=FM (P:=P) (SP:=fun id off=>cL P vals id off 1 o=true) (s:=b) hI hu
    exact⟨x',w',G',.mk' htk ⟨by simp[hop],by simp[hop],by simp[hop],by simp[hop]⟩ (.inl (by simp[execOp,hop,hx,p1])) p2 p3⟩
   ·simp[aC]at h
  ·simp[aC]at h
 ·-- the next rune
  rename_i it hop
  simp only[aV,Option.bind_eq_some_iff,aC,Option.some.injEq]at h
  obtain⟨vx,hvx,r',hr',e'⟩:=h
  obtain⟨rfl,rfl⟩:=Prod.mk.inj e'
  obtain⟨x',w',G',p1,p2,p3⟩:=HE (P:=P) (SP:=fun id off=>cL P vals id off 1 o=true) (ty:=o.type) (q:=none) hI (ca hf hvx) hr'
  exact⟨x',w',G',.mk' htk ⟨by simp[hop],by simp[hop],by simp[hop],by simp[hop]⟩ (.inl (by simp[execOp,hop,p1])) p2 p3⟩
 ·-- an entry of a map
  rename_i t m kk x hop
  split at h
  ·rename_i kt e hu
   simp only[aV,Option.bind_eq_some_iff,bA]at h
   obtain⟨vm,hvm,vk,hvk,vx,hvx,kd,hkd,h⟩:=h
   split at h
   rotate_left
   ·simp at h
   rename_i hfit
   simp only[aC,Option.bind_eq_some_iff,Option.some.injEq,Prod.mk.injEq]at h
   obtain⟨S1,hS1,rfl,rfl⟩:=h
   have hk:=ca hf hvk
   rw[wZ hkd]at hk hS1
   simp only[RV]at hk
   obtain⟨w',G',p1,p3⟩:=wC (P:=P) (SP:=fun id off=>cL P vals id off 1 o=true) (q:=none) hI hu (ca hf hvm) hk (ca hf hvx) hfit hS1
   exact⟨undef,w',G',.mk' htk ⟨by simp[hop],by simp[hop],by simp[hop],by simp[hop]⟩ (.inr ⟨by simp[execOp,hop,p1],rfl⟩) (by simp only[RV]) p3⟩
  ·simp[aC]at h
 ·-- a text as bytes
  rename_i s d x hop
  split at h
  ·rename_i e hs hd
   split at h
   ·rename_i he
    simp only[aV,Option.bind_eq_some_iff]at h
    obtain⟨vx,hvx,h⟩:=h
    split at h
    ·rename_i b
     have hx:=ca hf hvx
     simp only[RV,RD]at hx
     simp only[bA]at h
     split at h
     rotate_left
     ·simp at h
     split at h
     ·simp only[aC,Option.some.injEq]at h
      obtain⟨rfl,rfl⟩:=Prod.mk.inj h
      obtain⟨x',w',G',p1,p2,p3⟩:=CK (P:=P) (SP:=fun id off=>cL P vals id off 1 o=true) (b:=b) hI hs hd he
      exact⟨x',w',G',.mk' htk ⟨by simp[hop],by simp[hop],by simp[hop],by simp[hop]⟩ (.inl (by simp[execOp,hop,hx,p1])) p2 p3⟩
     ·simp only[aC,Option.some.injEq]at h
      obtain⟨rfl,rfl⟩:=Prod.mk.inj h
      obtain⟨x',w',G',p1,p2,p3⟩:=CL (P:=P) (SP:=fun id off=>cL P vals id off 1 o=true) (b:=b) hI hs hd he
      exact⟨x',w',G',.mk' htk ⟨by simp[hop],by simp[hop],by simp[hop],by simp[hop]⟩ (.inl (by simp[execOp,hop,hx,p1])) p2 p3⟩
     ·simp[aC]at h
    ·simp[aC]at h
   ·simp[aC]at h
  ·simp[aC]at h
 ·-- an append
  rename_i c hop
  split at h
  ·rename_i hcal;exact An hI hf htk hgd hsteal hop hcal h0
  ·rename_i fv hcal;exact absurd hcal (hnc c fv hop)
  ·simp[aC]at h
 ·simp[aC]at h
end
end Go.Dn
namespace Go.Dn
set_option linter.unusedVariables false
set_option linter.unusedSimpArgs false
mutual
theorem RV.lift{A B:Sg}{n:Nat}(hF:GG A.F B.F)(ho:∀b i,i<n->A.own b=some (.obj i)->B.own b=some (.obj i)):∀(x:V) (v:Value),bz n x=true->RV A x v->RV B x v
 | .d x,_,_,hx=>by simp only[RV]at hx⊢;exact RD.mono hF x _ hx
 | .m ..,_,hr,hx=>by
  simp only[RV]at hx⊢
  simp[bz]at hr
  obtain⟨a,c,e,hl,hb⟩:=hx
  exact⟨a,c,e,hl,fun hp=>by obtain⟨blk,h1,ha⟩:=hb hp;exact⟨blk,ho _ _ hr h1,ha⟩⟩
 | .p ..,_,hr,hx=>by simp only[RV]at hx⊢;simp[bz]at hr;obtain⟨blk,h1,e⟩:=hx;exact⟨blk,ho _ _ hr h1,e⟩
 | .np,_,_,hx=>by simpa only[RV]using hx
 | .e xs _ _,_,_,hx=>by
  simp only[RV]at hx⊢
  obtain⟨blk,o,sz,e,hs,hr⟩:=hx
  exact⟨blk,o,sz,e,hs,bu.mono hF _ _ xs hr⟩
 | .mp _,_,hr,hx=>by simp only[RV]at hx⊢;simp[bz]at hr;obtain⟨blk,h1,e⟩:=hx;exact⟨blk,ho _ _ hr h1,e⟩
 | .nmp,_,_,hx=>by simpa only[RV]using hx
 | .f _ caps,_,hr,hx=>by simp only[RV]at hx⊢;simp only[bz]at hr;obtain⟨vs,e,hv⟩:=hx;exact⟨vs,e,cK.lift hF ho caps _ hr hv⟩
 | .nf,_,_,hx=>by simpa only[RV]using hx
 | .t xs,_,hr,hx=>by simp only[RV]at hx⊢;simp only[bz]at hr;obtain⟨vs,e,hv⟩:=hx;exact⟨vs,e,cK.lift hF ho xs _ hr hv⟩
 | .ifc _ x,_,hr,hx=>by simp only[RV]at hx⊢;simp only[bz]at hr;obtain⟨y,e,hv⟩:=hx;exact⟨y,e,RV.lift hF ho x y hr hv⟩
 | .nifc,_,_,hx=>by simpa only[RV]using hx
 | .it _,_,hr,hx=>by simp only[RV]at hx⊢;simp[bz]at hr;obtain⟨blk,h1,e⟩:=hx;exact⟨blk,ho _ _ hr h1,e⟩
 | .u,_,_,_=>by simp only[RV]
theorem cK.lift{A B:Sg}{n:Nat}(hF:GG A.F B.F)(ho:∀b i,i<n->A.own b=some (.obj i)->B.own b=some (.obj i)):∀(xs:List V) (vs:List Value),bg n xs=true->cK A xs vs->cK B xs vs
 | [],_,_,hx=>by simpa only[cK]using hx
 |c::cs,_,hr,hx=>by
  simp only[cK]at hx⊢
  simp only[bg,Bool.and_eq_true]at hr
  obtain⟨v,r,e,h1,h2⟩:=hx
  exact⟨v,r,e,RV.lift hF ho c v hr.1 h1,cK.lift hF ho cs r hr.2 h2⟩
end
mutual
theorem nH:∀(x:V) (n:Nat),bz n x=true↔mj x<=n
 | .d _,_=>by simp[bz,mj]
 | .m id _ _,_=>by simp[bz,mj];omega
 | .p id _,_=>by simp[bz,mj];omega
 | .np,_=>by simp[bz,mj]
 | .e _ _ _,_=>by simp[bz,mj]
 | .mp id,_=>by simp[bz,mj];omega
 | .nmp,_=>by simp[bz,mj]
 | .f _ caps,n=>by simp only[bz,mj];exact eA caps n
 | .nf,_=>by simp[bz,mj]
 | .t vs,n=>by simp only[bz,mj];exact eA vs n
 | .ifc _ x,n=>by simp only[bz,mj];exact nH x n
 | .nifc,_=>by simp[bz,mj]
 | .it id,_=>by simp[bz,mj];omega
 | .u,_=>by simp[bz,mj]
theorem eA:∀(xs:List V) (n:Nat),bg n xs=true↔iV xs<=n
 | [],_=>by simp[bg,iV]
 |x::xs,n=>by simp only[bg,iV,Bool.and_eq_true,nH x n,eA xs n];omega
end
theorem gp:∀{A B:List Ob} {id:Nat},id<B.length->bE (A++B) id=bE B id
 | [],_,_,_=>rfl
 |a::A,B,id,h=>by
  simp only[List.cons_append,bE,List.length_append]
  rw[if_neg (by omega)]
  exact gp h
theorem lJ:∀{A B B':List Ob} {id:Nat},B.length=B'.length->B.length<=id->bE (A++B) id=bE (A++B') id
 | [],B,B',id,h,hid=>by
  have:∀{S:List Ob},S.length<=id->bE S id=none:=by
   intro S hS
   cases hx:bE S id with
   |none=>rfl
   |some o=>have:=cA hx;omega
  rw[List.nil_append,List.nil_append,this hid,this (by omega)]
 |a::A,B,B',id,h,hid=>by
  simp only[List.cons_append,bE,List.length_append,h]
  split
  ·rfl
  ·exact lJ h hid
theorem Gn(rb:Nat)(S:List Ob):jW rb S++kX rb S=S:=List.take_append_drop ..
theorem dE{rb:Nat}{S:List Ob}(h:rb<=S.length):(kX rb S).length=rb:=by simp[kX];omega
theorem dq{rb:Nat}{S:List Ob}(h:rb<=S.length):(jW rb S).length=S.length-rb:=by simp[jW]
theorem eP{rb:Nat}{S:List Ob}(h:rb<=S.length){id:Nat}(hid:id<rb):bE (kX rb S) id=bE S id:=by
 have:=gp (A:=jW rb S) (B:=kX rb S) (id:=id) (by rw[dE h];exact hid)
 rw[Gn]at this;exact this.symm
theorem o0{rb:Nat}{S S':List Ob}(h:rb<=S.length)(hl:S'.length=rb){id:Nat}(hid:rb<=id):bE (jW rb S++S') id=bE S id:=by
 have:=lJ (A:=jW rb S) (B:=S') (B':=kX rb S) (id:=id) (by rw[dE h,hl]) (by omega)
 rw[Gn]at this;exact this
def qq(rb:Nat):Loc->Loc
 | .obj id=>if id<rb then .obj id else .ext
 | .cell id off=>if id<rb then .cell id off else .ext
 |_ => .ext
def dt(G:Sg)(rb:Nat):Sg:=⟨G.F,fun b=>(G.own b).map (qq rb)⟩
def xl(rb n:Nat):Loc->Loc
 | .obj id=>if id=rb then .obj n else .obj id
 | .cell id off=>if id=rb then .cell n off else .cell id off
 |ℓ=>ℓ
open Classical in
noncomputable def dI(G:Sg)(rb n:Nat)(G':Sg):Sg:=⟨G'.F,fun b=>if (dt G rb).own b=some .ext then G.own b else(G'.own b).map (xl rb n)⟩
section
variable {P : Program} {w : World} {G : Sg} {S : List Ob} {rb : Nat}
theorem cQ{b id:Nat}:(dt G rb).own b=some (.obj id)↔G.own b=some (.obj id)/\id<rb:=by
 simp only[dt]
 cases h:G.own b with
 |none=>simp
 |some ℓ=>
  cases ℓ<;>simp[qq]
  ·split<;>rename_i hh<;>simp<;>intro e<;>omega
  ·split<;>simp
theorem uF{b id off:Nat}:(dt G rb).own b=some (.cell id off)↔G.own b=some (.cell id off)/\id<rb:=by
 simp only[dt]
 cases h:G.own b with
 |none=>simp
 |some ℓ=>
  cases ℓ<;>simp[qq]
  ·split<;>simp
  ·split<;>rename_i hh<;>simp<;>intro e<;>omega
theorem C2{b q:Nat}:(dt G rb).own b≠some (.slot q):=by
 simp only[dt]
 cases h:G.own b with
 |none=>simp
 |some ℓ=>
  cases ℓ<;>simp[qq]
  ·split<;>simp
  ·split<;>simp
theorem C1{b:Nat}(h:G.own b=none):(dt G rb).own b=none:=by simp[dt,h]
theorem uG{b:Nat}{ℓ:Loc}(h:(dt G rb).own b=some ℓ):∃ℓ',G.own b=some ℓ':=by
 simp only[dt]at h
 cases h':G.own b with
 |none=>rw[h']at h;simp at h
 |some ℓ'=>exact⟨_,rfl⟩
theorem EZ(hI:Inv w G S)(hrb:rb<=S.length):Inv w (dt G rb) (kX rb S):={
 fz:=hI.fz
 ob b id h:=by
  obtain⟨h,hid⟩:=cQ.1 h
  obtain⟨h1,o,go,h2,h3,h4⟩:=hI.ob b id h
  refine⟨h1,o,go,by rw[eP hrb hid];exact h2,h3,?_⟩
  cases o with
  |cells cs fl=>
   have hrf:=hI.rf _ _ _ h2
   cases go<;>simp only[fA]at h4⊢
   obtain⟨p1,p2,p3⟩:=h4
   refine⟨p1,fun o c hc=>?_,fun o sz hm=>?_⟩
   ·obtain⟨v,hv,hr,hf,ho⟩:=p2 o c hc
    have hc':=cp.1 hrf c (List.mem_of_getElem? hc)
    exact⟨v,hv,RV.lift (A:=G) (B:=dt G rb) (n:=id+1) (fun _ _ _ h=>h) (fun b i hi h=>cQ.2 ⟨h,by omega⟩) c v hc' hr,hf,ho⟩
   ·exact(p3 o sz hm).map fun v hv ht=>⟨v,hv,ht.same fun blk hb=>⟨uF.2 ⟨hb,hid⟩,rfl,fun _=>rfl⟩⟩
  |map es=>cases go<;>simp only[fA]at h4⊢;exact h4
  |iter s pos=>cases go<;>simp only[fA]at h4⊢;exact h4
  |dead=>cases go<;>simp only[fA]at h4
 inj b b' id h h':=hI.inj _ _ _ (cQ.1 h).1 (cQ.1 h').1
 tk b ℓ h:=by obtain⟨ℓ',h'⟩:=uG h;exact hI.tk _ _ h'
 cl b id o h:=by rw[dE hrb];exact(uF.1 h).2
 rf id cs fl h:=by
  have:=cA h
  rw[dE hrb]at this
  rw[eP hrb this]at h
  exact hI.rf _ _ _ h
 tb:=hI.tb_of fun b _ h0=>⟨rfl,by simp[dt,h0]⟩ }
theorem D6{w':World}{G':Sg}{So S2:List Ob}(hI:Inv w G S)(hrb:rb<=S.length)(hI':Inv w' G' So)(hE:Ext w (dt G rb) (kX rb S) w' G' So)
  (hs:So.length=rb/\S2=jW rb S++So\/∃cs fl S',So = .cells cs fl::S'/\S'.length=rb/\bg rb cs=true/\S2 = .cells cs fl::(jW rb S++S')):
  Inv w' (dI G rb S.length G') S2/\Ext w G S w' (dI G rb S.length G') S2/\(∀q z v,dS w G (.slot q) z v->dS w' (dI G rb S.length G') (.slot q) z v)/\(∀id off,rb<=id->∀b,G.own b=some (.obj id)->w'.cell? ⟨b,off,none⟩=w.cell? ⟨b,off,none⟩)/\
   (∀x v,bz rb x=true->RV G' x v->RV (dI G rb S.length G') x v)/\(∀b,G'.own b=some (.obj rb)->(dI G rb S.length G').own b=some (.obj S.length)):=by
 have hsl:So.length<=rb+1:=by
  rcases hs with⟨h,_⟩|⟨cs,fl,S',rfl,h,_⟩
  ·omega
  ·simp only[List.length_cons];omega
 have hs2l:S.length<=S2.length:=by
  rcases hs with⟨h,rfl⟩|⟨cs,fl,S',rfl,h,_,rfl⟩
  ·simp[dq hrb,h];omega
  ·simp[dq hrb,h];omega
 have glo:∀id,id<rb->bE S2 id=bE So id:=by
  intro id hid
  rcases hs with⟨h,rfl⟩|⟨cs,fl,S',rfl,h,_,rfl⟩
  ·exact gp (by omega)
  ·rw[cz (by simp[dq hrb,h];omega),cz (by omega)]
   exact gp (by omega)
 have ghi:∀id,rb<=id->id<S.length->bE S2 id=bE S id:=by
  intro id hid hlt
  rcases hs with⟨h,rfl⟩|⟨cs,fl,S',rfl,h,_,rfl⟩
  ·exact o0 hrb h hid
  ·rw[cz (by simp[dq hrb,h];omega)]
   exact o0 hrb h hid
 have gnew:∀o,bE So rb=some o->∃cs fl,o = .cells cs fl/\bg rb cs=true/\bE S2 S.length=some o/\S2.length=S.length+1:=by
  intro o ho
  rcases hs with⟨h,rfl⟩|⟨cs,fl,S',rfl,h,hr,rfl⟩
  ·have:=cA ho;omega
  ·have:bE (.cells cs fl::S') rb=some (.cells cs fl):=by simp[bE,h]
   rw[this]at ho;injection ho with ho
   have hl:(jW rb S++S').length=S.length:=by simp[dq hrb,h];omega
   exact⟨cs,fl,ho.symm,hr,by rw[<-ho];simp only[bE];rw[if_pos hl.symm],by simp[hl]⟩
 have hlowl:=dE hrb
 have hidK:∀b,(dt G rb).own b=some .ext->G'.own b=some .ext/\w'.heap[b]?=w.heap[b]?/\(∀o,G'.F b o=G.F b o)/\(dI G rb S.length G').own b=G.own b:=by
  intro b hb
  obtain⟨ℓ,hℓ⟩:=uG hb
  obtain⟨h1,h2,h3⟩:=hE.keep b (hI.tk _ _ hℓ) (.inr hb)
  exact⟨by rw[h1];exact hb,h2,h3,by simp only[dI];rw[if_pos hb]⟩
 have hidO:∀b id,rb<=id->G.own b=some (.obj id)->(dt G rb).own b=some .ext:=by
  intro b id h1 h2;simp only[dt,h2,Option.map_some,qq];rw[if_neg (by omega)]
 have hidC:∀b id off,rb<=id->G.own b=some (.cell id off)->(dt G rb).own b=some .ext:=by
  intro b id off h1 h2;simp only[dt,h2,Option.map_some,qq];rw[if_neg (by omega)]
 have hidS:∀b q,G.own b=some (.slot q)->(dt G rb).own b=some .ext:=by
  intro b q h2;simp only[dt,h2,Option.map_some,qq]
 have seen:∀b ℓ,G'.own b=some ℓ->ℓ ≠ .ext->(dI G rb S.length G').own b=some (xl rb S.length ℓ):=by
  intro b ℓ h1 h2
  simp only[dI]
  rw[if_neg,h1];rfl
  intro hb
  have:=(hidK b hb).1
  rw[h1]at this;injection this with this;exact h2 this
 have cases2:∀b ℓ,(dI G rb S.length G').own b=some ℓ->((dt G rb).own b=some .ext/\G.own b=some ℓ)\/∃ℓ',G'.own b=some ℓ'/\ℓ=xl rb S.length ℓ'/\(dt G rb).own b≠some .ext:=by
  intro b ℓ h
  simp only[dI]at h
  split at h
  ·rename_i hb;exact .inl ⟨hb,h⟩
  ·rename_i hb
   obtain⟨ℓ',h1,h2⟩:=Option.map_eq_some_iff.1 h
   exact .inr ⟨ℓ',h1,h2.symm,hb⟩
 have hobj2:∀b id,(dI G rb S.length G').own b=some (.obj id)->((dt G rb).own b=some .ext/\G.own b=some (.obj id)/\rb<=id/\id<S.length)\/(∃id',G'.own b=some (.obj id')/\id'<=rb/\(id'<rb/\id=id'\/id'=rb/\id=S.length)):=by
  intro b id h
  rcases cases2 b _ h with⟨h1,h2⟩|⟨ℓ',h1,h2,_⟩
  ·refine .inl ⟨h1,h2,?_,?_⟩
   ·rcases Nat.lt_or_ge id rb with hlt|hge
    ·have:=(cQ (G:=G) (rb:=rb) (b:=b) (id:=id)).2 ⟨h2,hlt⟩
     rw[h1]at this;cases this
    ·exact hge
   ·obtain⟨_,o,_,ho,_⟩:=hI.ob _ _ h2;exact cA ho
  ·cases ℓ' with
   |obj id'=>
    have hlt:id'<So.length:=by obtain⟨_,o,_,ho,_⟩:=hI'.ob _ _ h1;exact cA ho
    refine .inr ⟨id',h1,by omega,?_⟩
    simp only[xl]at h2
    split at h2
    ·injection h2 with h2;rename_i e;exact .inr ⟨e,h2⟩
    ·injection h2 with h2;rename_i e;exact .inl ⟨by omega,h2⟩
   |cell id' off'=>simp only[xl]at h2;split at h2<;>cases h2
   |slot q=>simp[xl]at h2
   |ext=>simp[xl]at h2
 have hle:Le G (dI G rb S.length G'):=by
  refine⟨hE.F,fun b id h=>?_⟩
  rcases Nat.lt_or_ge id rb with hlt|hge
  ·have:=seen b _ (hE.obj _ _ (cQ.2 ⟨h,hlt⟩)) (by simp)
   rw[this];simp only[xl];rw[if_neg (by omega)]
  ·rw[(hidK b (hidO b id hge h)).2.2.2];exact h
 have hlift:∀x v,bz rb x=true->RV G' x v->RV (dI G rb S.length G') x v:=fun x v hr hx=>
  RV.lift (A:=G') (B:=dI G rb S.length G') (n:=rb) (fun _ _ _ h=>h) (fun b i hi h=>by rw[seen b _ h (by simp)];simp only[xl];rw[if_neg (by omega)]) x v hr hx
 refine⟨⟨hI'.fz,fun b id h=>?_,fun b b' id h h'=>?_,fun b ℓ h=>?_,fun b id o h=>?_,fun id cs fl h=>?_,fun b arr hb=>⟨(hI'.tb b arr hb).1,by simp only[dI];rw[if_neg (by simp[dt,(hI.tb b arr hb).2]),(hI'.tb b arr hb).2];rfl⟩⟩,⟨hE.os,hE.tape,hE.output,hE.size,hE.F,hle.obj,fun b hb h=>?_,fun b id h hid=>?_,fun id hid hn=>?_,hs2l⟩,fun q z v ht=>?_,fun id off hid b hb=>?_,hlift,fun b h=>?_⟩
 ·rcases hobj2 b id h with⟨h1,h2,h3,h4⟩|⟨id',h1,h2,h3⟩
  ·obtain⟨k1,k2,k3,k4⟩:=hidK b h1
   obtain⟨p1,o,go,p2,p3,p4⟩:=hI.ob _ _ h2
   refine⟨fun o=>(k3 o).trans (p1 o),o,go,by rw[ghi _ h3 h4];exact p2,by rw[k2];exact p3,p4.same hle fun off blk hk=>?_⟩
   obtain⟨j1,j2,j3,j4⟩:=hidK blk (hidC _ _ _ h3 hk)
   exact⟨by rw[j4];exact hk,j2,j3⟩
  ·obtain⟨p1,o,go,p2,p3,p4⟩:=hI'.ob _ _ h1
   have hup:xl rb S.length (.obj id') = .obj id:=by
    simp only[xl]
    rcases h3 with⟨e1,e2⟩|⟨e1,e2⟩
    ·rw[if_neg (by omega),e2]
    ·rw[if_pos e1,e2]
   have hupc:∀off,xl rb S.length (.cell id' off) = .cell id off:=by
    intro off;simp only[xl]
    rcases h3 with⟨e1,e2⟩|⟨e1,e2⟩
    ·rw[if_neg (by omega),e2]
    ·rw[if_pos e1,e2]
   have hog:bE S2 id=some o:=by
    rcases h3 with⟨e1,e2⟩|⟨e1,e2⟩
    ·subst e2;rw[glo _ e1];exact p2
    ·subst e2;subst e1;obtain⟨_,_,_,_,hg,_⟩:=gnew o p2;exact hg
   refine⟨p1,o,go,hog,p3,?_⟩
   cases o with
   |cells cs fl=>
    have hrf:bg rb cs=true:=by
     rcases h3 with⟨e1,e2⟩|⟨e1,e2⟩
     ·exact cq (by omega) _ (hI'.rf _ _ _ p2)
     ·subst e1;obtain⟨_,_,e,hr,_⟩:=gnew _ p2;injection e with e _;subst e;exact hr
    cases go<;>simp only[fA]at p4⊢
    obtain⟨q1,q2,q3⟩:=p4
    refine⟨q1,fun o c hc=>?_,fun o sz hm=>?_⟩
    ·obtain⟨v,hv,hr,hf,ho⟩:=q2 o c hc
     exact⟨v,hv,hlift c v (cp.1 hrf c (List.mem_of_getElem? hc)) hr,hf,ho⟩
    ·refine(q3 o sz hm).map fun v hv ht=>⟨v,hv,?_⟩
     rcases ht with ht|⟨blk,hb,ht⟩
     ·exact .inl ht
     ·exact .inr ⟨blk,by rw[seen blk _ hb (by simp),hupc],ht⟩
   |map es=>cases go<;>simp only[fA]at p4⊢;exact p4
   |iter s pos=>cases go<;>simp only[fA]at p4⊢;exact p4
   |dead=>cases go<;>simp only[fA]at p4
 ·rcases hobj2 b id h with⟨h1,h2,h3,h4⟩|⟨i1,h1,h2,h3⟩<;>rcases hobj2 b' id h' with⟨k1,k2,k3,k4⟩|⟨i2,k1,k2,k3⟩
  ·exact hI.inj _ _ _ h2 k2
  ·omega
  ·omega
  ·have:i1=i2:=by omega
   subst this;exact hI'.inj _ _ _ h1 k1
 ·rcases cases2 b _ h with⟨_,h2⟩|⟨ℓ',h1,_,_⟩
  ·exact Nat.lt_of_lt_of_le (hI.tk _ _ h2) hE.size
  ·exact hI'.tk _ _ h1
 ·rcases cases2 b _ h with⟨_,h2⟩|⟨ℓ',h1,h2,_⟩
  ·exact Nat.lt_of_lt_of_le (hI.cl _ _ _ h2) hs2l
  ·cases ℓ' with
   |obj id'=>simp only[xl]at h2;split at h2<;>cases h2
   |cell id' off'=>
    have hlt:=hI'.cl _ _ _ h1
    simp only[xl]at h2
    split at h2
    ·injection h2 with h2 _
     have e:id'=rb:=by assumption
     obtain⟨o',ho'⟩:=kT hlt
     rw[e]at ho'
     obtain⟨_,_,_,_,_,hl⟩:=gnew o' ho'
     omega
    ·injection h2 with h2 _;omega
   |slot q=>simp[xl]at h2
   |ext=>simp[xl]at h2
 ·rcases Nat.lt_or_ge id rb with h1|h1
  ·rw[glo _ h1]at h;exact hI'.rf _ _ _ h
  ·rcases Nat.lt_or_ge id S.length with h2|h2
   ·rw[ghi _ h1 h2]at h;exact hI.rf _ _ _ h
   ·have hlt:=cA h
    rcases hs with⟨e,rfl⟩|⟨cs',fl',S',rfl,e,hr,rfl⟩
    ·simp[dq hrb,e]at hlt;omega
    ·have hl:(jW rb S++S').length=S.length:=by simp[dq hrb,e];omega
     have:id=S.length:=by simp only[List.length_cons,hl]at hlt;omega
     subst this
     simp only[bE,hl,if_true]at h
     injection h with h;injection h with h _;subst h
     exact cq (by omega) _ hr
 ·rcases h with h|h
  ·have hn:=C1 (rb:=rb) h
   obtain⟨k1,k2,k3⟩:=hE.keep b hb (.inl hn)
   refine⟨?_,k2,k3⟩
   simp only[dI]
   rw[if_neg (by rw[hn];simp),k1,hn,h];rfl
  ·have hx:(dt G rb).own b=some .ext:=by simp[dt,h,qq]
   obtain⟨k1,k2,k3,k4⟩:=hidK b hx
   exact⟨k4,k2,k3⟩
 ·rcases hobj2 b id h with⟨_,h2,_,_⟩|⟨id',h1,h2,h3⟩
  ·exact h2
  ·have:id'<rb/\id=id':=by omega
   obtain⟨e1,rfl⟩:=this
   exact(cQ.1 (hE.newo _ _ h1 (by omega))).1
 ·rcases Nat.lt_or_ge id rb with h1|h1
  ·rw[glo _ h1,hE.ph id (by omega) (fun b hb=>hn b (cQ.1 hb).1),eP hrb h1]
  ·exact ghi _ h1 hid
 ·exact ht.same fun blk hb=>by
   obtain⟨k1,k2,k3,k4⟩:=hidK blk (hidS _ _ hb)
   exact⟨by rw[k4];exact hb,k2,k3⟩
 ·exact cell?_of_heap (hidK b (hidO b id hid hb)).2.1 off
 ·rw[seen b _ h (by simp)];simp[xl]
end
end Go.Dn
namespace Go.Dn
set_option linter.unusedVariables false
set_option linter.unusedSimpArgs false
section
variable {P : Program} {aE : Pol} {w : World} {G : Sg} {S : List Ob}
structure EffR (P:Program) (aE:Pol) (w:World) (G:Sg) (S:List Ob) (a:Act) (k r i:Nat) (ops:List Oper) (vals:List V) (fl:Fl) (o:Oper) (v:V) (S':List Ob) (x:Value) (w':World) (G':Sg):Prop where
 rv:RV G' v x
 inv:Inv w' G' S'
 ext:Ext w G S w' G' S'
 tok:fE w' G' (a.put o.dst x) (bI P aE k r i ops fl o)
 sp:∀id off,cL P vals id off 1 o=true->∀b,G.own b=some (.obj id)->w'.cell? ⟨b,off,none⟩=w.cell? ⟨b,off,none⟩
def zY(P:Program)(o:Oper)(a:Act)(w:World)(R:Value->World->Prop):Prop:=
 ∀(next:Act->World->Prop) (Q:Exit->Act->World->Prop),(∀x w',R x w'->next (a.put o.dst x) w')->o.wp P a w next Q
theorem Eff.does{a:Act}{k r i:Nat}{ops:List Oper}{vals:List V}{fl:Fl}{o:Oper}{v:V}{S':List Ob}{x:Value}{w':World}{G':Sg}(h:Eff P aE w G S a k r i ops vals fl o v S' x w' G'):
  zY P o a w fun x w'=>∃G',EffR P aE w G S a k r i ops vals fl o v S' x w' G':=by
 intro next Q hn
 have:=hn x w' ⟨G',h.rv,h.inv,h.ext,h.tok,h.sp⟩
 unfold Oper.wp
 rcases h.run with e|⟨e,rfl⟩
 ·rw[e];exact this
 ·rw[e];exact this
def fJ(P:Program)(k:Nat)(vs:Array Value)(w:World)(R:Value->World->Prop):Prop:=
 ∀(o:Oper) (a:Act) (next:Act->World->Prop) (Q:Exit->Act->World->Prop),(∀x w',R x w'->next (a.put o.dst x) w')->o.upon P a next Q ((callFunc k vs).run P w)
theorem fJ.of_calls {k : Nat} {vs : Array Value} {R : Value → World → Prop} {fn : Func} (hf : P.funcs[k]? = some fn) (hb : fn.body.isSome = true) (hn : fn.name ≠ "runtime.NumGoroutine")
  (h:Calls P k vs w fun e w'=>∃x,e = .returned x/\R x w'):fJ P k vs w R:=by
 intro o a next Q hnx
 have:(callFunc k vs).run P w = .ok (.enter k vs) w:=by
  obtain⟨c,hc⟩:=Option.isSome_iff_exists.1 hb
  simp[callFunc,hf,hn,hc]
 rw[this]
 simp only[Oper.upon]
 refine Calls.mono h fun e w' he=>?_
 obtain⟨x,rfl,hr⟩:=he
 exact hnx x w' hr
def bQ(P:Program)(k:Nat)(args:List V)(S:List Ob)(o:Out):Prop:=
 ∀(w:World) (G:Sg) (vs:Array Value),Inv w G S->cK G args vs.toList->(∀b q,G.own b≠some (.slot q))->fJ P k vs w fun x w'=>∃G',RV G' o.1 x/\Inv w' G' o.2/\Ext w G S w' G' o.2
def ja(P:Program)(f:Task->Option Out):Prop:=∀k args S o,f (.call k args S)=some o->bQ P k args S o
theorem lB{rb:Nat}{o r:Out}(h:kP rb S o=some r):
  (o.2.length=rb/\r.2=jW rb S++o.2\/∃cs fl S',o.2 = .cells cs fl::S'/\S'.length=rb/\bg rb cs=true/\r.2 = .cells cs fl::(jW rb S++S'))/\
  (bz rb o.1=true/\r.1=o.1\/(∃off,o.1 = .p rb off/\r.1 = .p S.length off)\/∃off len,o.1 = .m rb off len/\r.1 = .m S.length off len):=by
 unfold kP at h
 split at h
 ·rename_i hl
  split at h
  ·rename_i hb
   injection h with h;subst h
   exact⟨.inl ⟨hl,rfl⟩,.inl ⟨(nH _ _).2 hb,rfl⟩⟩
  ·simp at h
 ·split at h
  ·rename_i cs fl S' id off e2 e1
   split at h
   ·rename_i hc
    injection h with h;subst h
    obtain⟨rfl,h1,h2⟩:=hc
    exact⟨.inr ⟨cs,fl,S',e2,h1,h2,rfl⟩,.inr (.inl ⟨off,e1,rfl⟩)⟩
   ·simp at h
  ·rename_i cs fl S' id off len e2 e1
   split at h
   ·rename_i hc
    injection h with h;subst h
    obtain⟨rfl,h1,h2⟩:=hc
    exact⟨.inr ⟨cs,fl,S',e2,h1,h2,rfl⟩,.inr (.inr ⟨off,len,e1,rfl⟩)⟩
   ·simp at h
  ·simp at h
theorem CG{f:Task->Option Out}(hF:ja P f){k r i:Nat}{ops:List Oper}{vals:List V}{fl:Fl}{a:Act}{o:Oper}{c:Call}{fv:Operand}{v:V}{S':List Ob}(hI:Inv w G S)(hf:Fr G vals a)(htk:fE w G a fl)
  (hop:o.op = .call c) (hcal:c.callee = .value fv) (h:aC f (dU P aE k r i ops vals fl S o)=some (v,S')):
  zY P o a w fun x w'=>∃G',EffR P aE w G S a k r i ops vals fl o v S' x w' G':=by
 unfold dU at h
 simp only[hop,hcal,aV,Option.bind_eq_some_iff]at h
 obtain⟨args,hargs,vf,hvf,h⟩:=h
 split at h
 rotate_left
 ·simp[aC]at h
 rename_i g caps
 simp only[bA]at h
 split at h
 rotate_left
 ·simp at h
 rename_i hrb
 simp only[decide_eq_true_eq]at hrb
 rw[ee]at h
 obtain⟨out,hout,h⟩:=Option.bind_eq_some_iff.1 h
 simp only[aV,Option.bind_eq_some_iff,aC,Option.some.injEq]at h
 obtain⟨r2,hj,e⟩:=h
 subst e
 have hfr:=ca hf hvf
 simp only[RV]at hfr
 obtain⟨cv,hcv,hcr⟩:=hfr
 have har:=iF hf hargs
 intro next Q hn
 have hex:execOp a.eval o=callFunc g (c.args.map a.eval++cv):=by
  simp[execOp,hop,resolve,hcal,hcv,Deferred.ofValue,invoke]
 unfold Oper.wp
 rw[hex]
 have hall:cK G (args++caps) (c.args.map a.eval++cv).toList:=by
  have:∀{xs ys:List V} {us vs:List Value},cK G xs us->cK G ys vs->cK G (xs++ys) (us++vs):=by
   intro xs
   induction xs with
   |nil=>intro ys us vs h1 h2;simp only[cK]at h1;subst h1;exact h2
   |cons x xs ih=>
    intro ys us vs h1 h2
    simp only[cK]at h1
    obtain⟨u,r,rfl,h3,h4⟩:=h1
    simp only[List.cons_append,cK]
    exact⟨u,_,rfl,h3,ih h4 h2⟩
  rw[Array.toList_append,Array.toList_map]
  exact this har hcr
 have hrefs:bg (iV (args++caps)) (args++caps)=true:=(eA _ _).2 (Nat.le_refl _)
 have hall':cK (dt G (iV (args++caps))) (args++caps) (c.args.map a.eval++cv).toList:=
  cK.lift (A:=G) (B:=dt G (iV (args++caps))) (n:=iV (args++caps)) (fun _ _ _ h=>h) (fun b i hi h=>cQ.2 ⟨h,hi⟩) _ _ hrefs hall
 refine hF g _ _ _ hout w (dt G (iV (args++caps))) _ (EZ hI hrb) hall' (fun b q=>C2) o a next Q ?_
 rintro x w' ⟨G',hr1,hi1,he1⟩
 obtain⟨sh1,sh2⟩:=lB hj
 simp only at sh1 sh2
 obtain⟨u1,u2,u3,u4,u5,u6⟩:=D6 hI hrb hi1 he1 sh1
 refine hn x w' ⟨_,?_,u1,u2,?_,?_⟩
 ·rcases sh2 with⟨h1,h2⟩|⟨off,h1,h2⟩|⟨off,len,h1,h2⟩
  ·rw[h2];exact u5 _ _ h1 hr1
  ·rw[h1]at hr1;rw[h2]
   simp only[RV]at hr1⊢
   obtain⟨blk,h3,h4⟩:=hr1
   exact⟨blk,u6 _ h3,h4⟩
  ·rw[h1]at hr1;rw[h2]
   simp only[RV]at hr1⊢
   obtain⟨A,C,h3,h4,h5⟩:=hr1
   exact⟨A,C,h3,h4,fun hp=>by obtain⟨blk,h6,h7⟩:=h5 hp;exact⟨blk,u6 _ h6,h7⟩⟩
 ·rw[gP ⟨by simp[hop],by simp[hop],by simp[hop],by intro c' e;rw[hop]at e;injection e with e;subst e;rw[hcal];simp⟩]
  exact htk.put (fun q' sz v _ h=>u3 _ _ _ h) (q:=none) (by simp)
 ·intro id off hs b hb
  refine u4 id off ?_ b hb
  unfold cL at hs
  simp only[hop,hcal,hargs,hvf,bz,Bool.and_eq_true]at hs
  have h1:bg id (args++caps)=true:=by
   have:∀{xs ys:List V},bg id xs=true->bg id ys=true->bg id (xs++ys)=true:=by
    intro xs ys h1 h2
    rw[cp]at h1 h2⊢
    intro c hc
    rcases List.mem_append.1 hc with h|h
    ·exact h1 c h
    ·exact h2 c h
   exact this hs.1 hs.2
  exact(eA _ _).1 h1
theorem AX{vals:List V}{a:Act}{o:Oper}{v:V}(hI:Inv w G S)(hf:Fr G vals a)(h:cR P vals S o=some v):
  zY P o a w fun x w'=>(execOp a.eval o).run P w = .ok (.value x) w'/\(∀id off b,G.own b=some (.obj id)->w'.cell? ⟨b,off,none⟩=w.cell? ⟨b,off,none⟩)/\∃G',RV G' v x/\Inv w' G' S/\Ext w G S w' G' S/\(∀q sz v,dS w G (.slot q) sz v->dS w' G' (.slot q) sz v):=by
 obtain⟨x,w',G',p1,p2,p3,p4⟩:=B9 hI hf h
 intro next Q hn
 unfold Oper.wp
 rw[p1]
 exact hn x w' ⟨p1,fun id off b hb=>cell?_of_heap (p3.heap _ (hI.tk _ _ hb)) off,G',p2,p4,Ext.of_grow p3,fun q' sz v ht=>
  ht.same fun blk hb=>⟨by rw[p3.own];exact hb,p3.heap _ (hI.tk _ _ hb),fun o=>p3.old _ _ (hI.tk _ _ hb)⟩⟩
theorem tM{ty:TypeId}{b off:Nat}{x y:Value}{w':World}(hag:jx P ty=some false)(hc:w.cell? ⟨b,off,none⟩=some y)(h:(Instr.loadAt ty (.pointer (some ⟨b,off,none⟩))).run P w = .ok x w'):y=x:=by
 simp[Instr.loadAt,Instr.sureAddr,loadVar,eZ hag,hc]at h
 exact h.1
theorem Ac(hI:Inv w G S){n id off b:Nat}{v:V}(h:et false n S (.p id off)=some v)(ho:G.own b=some (.obj id)):∃y,w.cell? ⟨b,off,none⟩=some y:=by
 unfold et at h
 simp only at h
 split at h
 rotate_left
 ·simp at h
 rename_i cs fl hob
 obtain⟨_,o',go,hs',hgo,hor⟩:=hI.ob _ _ ho
 rw[hob]at hs';injection hs' with hs';subst hs'
 cases go<;>simp only[fA]at hor
 obtain⟨y,hy,_⟩:=hor.2.1 off v (by simpa using h)
 exact⟨y,by simp[World.cell?,hgo,hy]⟩
theorem Dx{k r i:Nat}{ops:List Oper}{vals:List V}{fl:Fl}{a:Act}{o:Oper}{v:V}(hI:Inv w G S)(hf:Fr G vals a)(htk:fE w G a fl)(hne:dR P o=false)(h:cR P vals S o=some v):
  zY P o a w fun x w'=>(execOp a.eval o).run P w = .ok (.value x) w'/\(∀id off b,G.own b=some (.obj id)->w'.cell? ⟨b,off,none⟩=w.cell? ⟨b,off,none⟩)/\∃G',EffR P aE w G S a k r i ops vals fl o v S x w' G':=by
 obtain⟨x,w',G',p1,p2,p3,p4⟩:=B9 hI hf h
 have hext:Ext w G S w' G' S:=Ext.of_grow p3
 have htok:∀q' sz v,dS w G (.slot q') sz v->dS w' G' (.slot q') sz v:=fun q' sz v ht=>
  ht.same fun blk hb=>⟨by rw[p3.own];exact hb,p3.heap _ (hI.tk _ _ hb),fun o=>p3.old _ _ (hI.tk _ _ hb)⟩
 have hsp:∀id off,∀b,G.own b=some (.obj id)->w'.cell? ⟨b,off,none⟩=w.cell? ⟨b,off,none⟩:=fun id off b hb=>cell?_of_heap (p3.heap _ (hI.tk _ _ hb)) off
 have hdone:∀G2,RV G2 v x->Inv w' G2 S->Ext w G S w' G2 S->fE w' G2 (a.put o.dst x) (bI P aE k r i ops fl o)->zY P o a w fun x w'=>(execOp a.eval o).run P w = .ok (.value x) w'/\(∀id off b,G.own b=some (.obj id)->w'.cell? ⟨b,off,none⟩=w.cell? ⟨b,off,none⟩)/\∃G',EffR P aE w G S a k r i ops vals fl o v S x w' G':=by
  intro G2 h1 h2 h3 h4 next Q hn
  unfold Oper.wp
  rw[p1]
  exact hn x w' ⟨p1,fun id off b hb=>hsp id off b hb,G2,h1,h2,h3,h4,fun id off _ b hb=>hsp id off b hb⟩
 have hplain:bI P aE k r i ops fl o=(match o.dst with|some d=>cZ fl d|none=>fl)->zY P o a w fun x w'=>(execOp a.eval o).run P w = .ok (.value x) w'/\(∀id off b,G.own b=some (.obj id)->w'.cell? ⟨b,off,none⟩=w.cell? ⟨b,off,none⟩)/\∃G',EffR P aE w G S a k r i ops vals fl o v S x w' G':=by
  intro e
  refine hdone G' p2 p4 hext ?_
  rw[e]
  exact htk.put (q:=none) (fun q' sz v _ h=>htok q' sz v h) (by simp)
 by_cases hg:o.guard.isSome=true
 ·refine hplain ?_
  unfold bI;simp only[hg,if_true];cases o.dst<;>rfl
 have hgn:o.guard=none:=by cases hx:o.guard<;>simp[hx]at hg⊢
 cases hop:o.op with
 |assign y=>
  cases hd:o.dst with
  |none=>exact hplain (by unfold bI;cases y<;>simp[hgn,hop,hd])
  |some d=>
   have hxe:x=a.eval y/\w'=w:=by
    have:(execOp a.eval o).run P w = .ok (.value (a.eval y)) w:=by simp[execOp,hop]
    rw[this]at p1;injection p1 with p1 p1';injection p1 with p1;exact⟨p1.symm,p1'.symm⟩
   cases y with
   |tmp t=>
    cases ht:tok fl t with
    |none=>exact hplain (by unfold bI;simp[hgn,hop,hd,ht])
    |some z=>
     obtain⟨rfl,rfl⟩:=hxe
     obtain⟨q1,q2⟩:=DD (SP:=fun _ _=>True) p4 t d
     refine hdone _ (RV.mono q1.ext.le _ _ p2) q1.inv (hext.trans q1.ext) ?_
     have:bI P aE k r i ops fl o=(d,z)::cZ (cZ fl d) t:=by unfold bI;simp[hgn,hop,hd,ht]
     rw[this]
     have h1:fE w' G a (cZ fl t):=htk.sub gI
     have h2:=(h1.put (dst:=some d) (x:=a.eval (.tmp t)) (G':=⟨G'.F,iJ G'.own (.slot t) (.slot d)⟩) (w':=w') (q:=some t) (fun q' sz v hq h=>q1.tok q' sz v hq (htok q' sz v h)) (by intro y z e;injection e with e;subst e;exact mV)).sub mU
     rw[hd]
     refine h2.add ?_
     rcases htk t z (oZ ht)with h|h
     ·exact .inl h
     ·exact .inr (q2 _ _ (htok _ _ _ h))
   |const c=>
    by_cases hc:c = .slice none 0 0
    ·subst hc
     cases hz:(jS P o.type).bind (bH P) with
     |none=>exact hplain (by unfold bI;simp[hgn,hop,hd,hz])
     |some z=>
      refine hdone G' p2 p4 hext ?_
      have:bI P aE k r i ops fl o=(d,z)::cZ fl d:=by unfold bI;simp[hgn,hop,hd,hz]
      rw[this]
      have h2:=htk.put (dst:=some d) (x:=x) (q:=none) (fun q' sz v _ h=>htok q' sz v h) (by simp)
      rw[hd]
      exact h2.add (.inr (.inl ⟨none,0,⟨hxe.1,fun _=>rfl⟩⟩))
    ·refine hplain ?_
     unfold bI
     simp only[hgn,hop,hd]
     split<;>simp_all
   |func g=>exact hplain (by unfold bI;simp[hgn,hop,hd])
   |global g=>exact hplain (by unfold bI;simp[hgn,hop,hd])
 |call c=>
  refine hplain (gP ⟨by simp[hop],by simp[hop],by simp[hop],fun c' e hc=>?_⟩)
  rw[hop]at e;injection e with e;subst e
  simp[dR,hop,hc]at hne
 |store t ad y=>simp[dR,hop]at hne
 |makeSlice t n c=>simp[dR,hop]at hne
 |_=>exact hplain (gP ⟨by simp[hop],by simp[hop],by simp[hop],by simp[hop]⟩)
end
end Go.Dn
namespace Go.Dn
set_option linter.unusedVariables false
set_option linter.unusedSimpArgs false
section
variable {P : Program} {aE : Pol}
def tz(vals vals':List V)(o:Oper):Prop:=∀x∈o.op.operands.toList,ev vals x=ev vals' x
theorem mapM_congr{vals vals':List V}:∀{xs:List Operand},(∀x∈xs,ev vals x=ev vals' x)->xs.mapM (ev vals)=xs.mapM (ev vals')
 | [],_=>rfl
 |x::xs,h=>by
  rw[List.mapM_cons,List.mapM_cons,h x (by simp),mapM_congr fun y hy=>h y (by simp[hy])]
theorem tQ{vals vals':List V}{x:Option Operand}(h:∀y,x=some y->ev vals y=ev vals' y):tx vals x=tx vals' x:=by
 cases x with
 |none=>rfl
 |some y=>simp only[tx,h y rfl]
theorem AZ{vals vals':List V}{S:List Ob}{o:Oper}(h:tz vals vals' o):cR P vals S o=cR P vals' S o:=by
 unfold tz at h
 unfold cR
 cases hop:o.op<;>rw[hop]at h<;>simp only[Op.operands]at h<;>simp only
 case build t parts=>
  have:parts.toList.map (fun p=>partOf P (match P.underlying t with|some (.struct fs)=>fs|_=>#[]) vals p)=parts.toList.map (fun p=>partOf P (match P.underlying t with|some (.struct fs)=>fs|_=>#[]) vals' p):=
   List.map_congr_left fun p hp=>by
    unfold partOf
    split
    ·rw[h p.2 (by simpa using List.mem_map_of_mem (f:=fun x:Nat×Operand=>x.2) hp)]
    ·rfl
  split
  ·rename_i fs z hu _
   simp only[hu]at this
   simp only[this]
  ·rfl
 case buildSlice t n parts=>
  have:(parts.toList.map fun p=>(p.1,ev vals p.2))=parts.toList.map fun p=>(p.1,ev vals' p.2):=
   List.map_congr_left fun p hp=>by rw[h p.2 (by simpa using List.mem_map_of_mem (f:=fun x:Nat×Operand=>x.2) hp)]
  simp only[this]
 case makeFunc fn first captured=>
  split
  ·rw[mapM_congr fun x hx=>h x (by simp;right;simpa using hx)]
  ·rfl
 case slice t x lo hi mx=>
  have hx:=h x (by simp)
  have hl:tx vals lo=tx vals' lo:=tQ fun y e=>h y (by subst e;simp)
  have hh:tx vals hi=tx vals' hi:=tQ fun y e=>h y (by subst e;simp)
  simp only[hx,hl,hh]
 case call c=>
  have ha:∀x∈c.args.toList,ev vals x=ev vals' x:=fun x hx=>h x (by simp[Call.operands];right;simpa using hx)
  split
  ·split
   ·rename_i h0 h1
    rw[ha _ (List.mem_of_getElem? (by simpa using h1))]
   ·rfl
  ·rw[mapM_congr ha]
  ·rw[mapM_congr ha]
  ·rfl
 all_goals (first|rfl|(simp at h;simp only[h];done)|(simp at h;obtain⟨h1,h2⟩:=h;simp only[h1,h2];done)|(simp at h;obtain⟨h1,h2,h3⟩:=h;simp only[h1,h2,h3];done)|skip)
theorem xO{vals vals':List V}{k r i:Nat}{ops:List Oper}{fl:Fl}{S:List Ob}{o:Oper}(h:tz vals vals' o)
  (hq:∀c x q,o.op = .call c->c.callee = .builtin .append->aE.app k r i=3->c.args.toList.head?=some x->iz ops x=some q->vals.getD q .u=vals'.getD q .u):dU P aE k r i ops vals fl S o=dU P aE k r i ops vals' fl S o:=by
 unfold tz at h
 unfold dU
 cases hop:o.op<;>rw[hop]at h<;>simp only[Op.operands]at h<;>try simp only
 case next it b=>
  simp at h
  cases b<;>simp only[h]
 case call c=>
  have ha:∀x∈c.args.toList,ev vals x=ev vals' x:=fun x hx=>h x (by simp[Call.operands];right;simpa using hx)
  split
  ·rename_i hcal
   split
   ·rename_i x y t hargs ht
    have hx:=ha x (by rw[hargs];simp)
    have hy:=ha y (by rw[hargs];simp)
    simp only[hx,hy]
    congr 1;funext e;congr 1;funext sz;congr 1;funext bx;congr 1;funext vy
    congr 1
    split<;>try rfl
    rename_i happ
    cases hb:iz ops x with
    |none=>rfl
    |some q=>
     simp only[ob]
     rw[hq c x q hop hcal happ (by rw[hargs];rfl) hb]
   ·rfl
  ·rename_i f hcal
   rw[mapM_congr ha,h f (by simp[Call.operands,hcal])]
  ·rfl
 all_goals (first|rfl|(simp at h;simp only[h];done)|(simp at h;obtain⟨h1,h2⟩:=h;simp only[h1,h2];done)|(simp at h;obtain⟨h1,h2,h3⟩:=h;simp only[h1,h2,h3];done)|skip)
theorem yS{vals:List V}{S S':List Ob}{o:Oper}(h:reads P o=false):cR P vals S o=cR P vals S' o:=by
 unfold cR
 cases hop:o.op<;>simp only[reads,hop]at h<;>try rfl
 case load=>simp at h
 case lookup=>simp at h
 case convert s d x=>
  simp only
  split
  ·rename_i s' d' hs hd
   rw[hs,hd]at h
   split
   ·simp at h
   ·rfl
  ·rfl
 case call c=>
  simp only
  split
  ·rename_i hcal
   split
   ·rename_i t x ht hx
    rw[ht]at h
    simp only[hcal,Option.bind_some]at h
    split
    ·rename_i d hu
     rw[hu]at h
     have:∀v,yI d S v=yI d S' v:=by
      intro v
      cases d<;>first|(simp at h;done)|(cases v<;>first|rfl|(rename_i x;cases x<;>rfl))
     simp only[this]
    ·rfl
   ·rfl
  ·rfl
  ·rfl
  ·rfl
def kY(S:List Ob)(id off n:Nat):Option (List V):=
 match bE S id with
 |some (.cells cs _)=>if off+n<=cs.length then some ((cs.drop off).take n)else none
 |_=>none
theorem C9{S S':List Ob}{ag:Bool}{n id off:Nat}(h:kY S id off n=kY S' id off n)(hn:ag=true\/n=1):et ag n S (.p id off)=et ag n S' (.p id off):=by
 have key:∀T:List Ob,et ag n T (.p id off)=(match kY T id off n with|some l=>(if ag then(ti l).map (fun ds => .d (.g ds))else l[0]?)|none=>none):=by
  intro T
  unfold kY
  simp only[et]
  split
  ·rename_i cs fl ho
   simp only[ho]
   cases ag with
   |true=>
    simp only[if_true]
    by_cases hle:off+n<=cs.length
    ·simp[hle]
    ·simp[hle]
   |false=>
    have hn1:n=1:=by simpa using hn
    subst hn1
    simp only[Bool.false_eq_true,if_false]
    by_cases hle:off+1<=cs.length
    ·simp only[hle,if_true]
     rw[List.getElem?_take_of_lt (by omega),List.getElem?_drop,Nat.add_zero]
    ·simp only[hle,if_false]
     exact List.getElem?_eq_none (by omega)
  ·rename_i hno
   split
   ·rename_i l hl
    split at hl
    ·rename_i cs fl ho;exact absurd ho (hno cs fl)
    ·simp at hl
   ·rfl
 rw[key S,key S',h]
theorem jJ{S:List Ob}{x:Ob}{id off n:Nat}(h:id<S.length):kY (x::S) id off n=kY S id off n:=by
 unfold kY;rw[cz h]
theorem qF{f:Task->Option Out}{k r i:Nat}{ops:List Oper}{vals:List V}{fl:Fl}{S S':List Ob}{o:Oper}{v:V}{id off n:Nat}(h:aC f (dU P aE k r i ops vals fl S o)=some (v,S'))(hs:cL P vals id off n o=true)(hid:id<S.length):
  kY S' id off n=kY S id off n:=by
 unfold dU at h
 split at h
 ·-- box
  simp only[aV,Option.bind_eq_some_iff,aC,Option.some.injEq]at h
  obtain⟨sz,hsz,vx,hvx,r',hr',e⟩:=h
  subst e
  have hn:∀{t cs fl},hO S t fl cs=some (v,S')->kY S' id off n=kY S id off n:=by
   intro t cs fl h
   unfold hO at h
   split at h
   ·simp at h;rw[<-h.2];exact jJ hid
   ·simp at h
  unfold kS at hr'
  split at hr'
  ·split at hr'
   ·exact hn hr'
   ·simp at hr'
  ·split at hr'
   ·exact hn hr'
   ·simp at hr'
 ·-- store
  rename_i t ad x hop
  simp only[aV,Option.bind_eq_some_iff,aC,Option.some.injEq,Prod.mk.injEq]at h
  obtain⟨g,hg,sz,hsz,va,hva,vx,hvx,S1,hS1,rfl,rfl⟩:=h
  unfold cL at hs
  simp only[hop,hva,hsz]at hs
  unfold gR at hS1
  split at hS1
  rotate_left
  ·simp at hS1
  rename_i id' off'
  simp only[Bool.or_eq_true,bne_iff_ne,decide_eq_true_eq]at hs
  split at hS1
  rotate_left
  ·simp at hS1
  rename_i cs fl0 hob
  have hset:∀(cs':List V) (fl':Fl),cs'.length=cs.length->(id=id'->(cs'.drop off).take n=(cs.drop off).take n)->kY (oset S id' (.cells cs' fl')) id off n=kY S id off n:=by
   intro cs' fl' hl he
   unfold kY
   by_cases e:id=id'
   ·subst e;rw[bX hid,hob];simp only[hl,he rfl]
   ·rw[bK e]
  split at hS1
  ·split at hS1
   rotate_left
   ·simp at hS1
   rename_i ds
   split at hS1
   rotate_left
   ·simp at hS1
   rename_i hc
   obtain⟨h1,h2,_,_⟩:=hc
   injection hS1 with hS1;subst hS1
   refine hset _ _ (by simp[tH];omega) fun e=>?_
   apply List.ext_getElem?
   intro j
   rcases Nat.lt_or_ge j n with hj|hj
   ·rw[List.getElem?_take_of_lt hj,List.getElem?_take_of_lt hj,List.getElem?_drop,List.getElem?_drop]
    have hne:¬(off'<=off+j/\off+j<off'+sz):=by
     rcases hs with(hs|hs)|hs
     ·exact absurd e hs
     ·omega
     ·omega
    unfold tH
    rcases Nat.lt_or_ge (off+j) off' with h3|h3
    ·rw[List.append_assoc,List.getElem?_append_left (by simp;omega),List.getElem?_take_of_lt h3]
    ·rw[List.getElem?_append_right (by simp;omega),List.getElem?_drop]
     congr 1;simp;omega
   ·rw[List.getElem?_eq_none (by simp;omega),List.getElem?_eq_none (by simp;omega)]
  ·split at hS1
   rotate_left
   ·simp at hS1
   rename_i hc
   obtain⟨_,rfl,h2,_⟩:=hc
   injection hS1 with hS1;subst hS1
   refine hset _ _ (by simp) fun e=>?_
   apply List.ext_getElem?
   intro j
   rcases Nat.lt_or_ge j n with hj|hj
   ·rw[List.getElem?_take_of_lt hj,List.getElem?_take_of_lt hj,List.getElem?_drop,List.getElem?_drop]
    rw[List.getElem?_set_ne]
    rcases hs with(hs|hs)|hs
    ·exact absurd e hs
    ·omega
    ·omega
   ·rw[List.getElem?_eq_none (by simp;omega),List.getElem?_eq_none (by simp;omega)]
 ·-- a map
  split at h
  ·simp only[aC,Option.some.injEq]at h
   obtain⟨rfl,rfl⟩:=Prod.mk.inj h
   exact jJ hid
  ·simp[aC]at h
 ·-- a make
  simp only[aV,Option.bind_eq_some_iff,bA]at h
  obtain⟨e,he,z,hz,h⟩:=h
  split at h
  rotate_left
  ·simp at h
  split at h
  ·simp only[aV,Option.bind_eq_some_iff,aC,Option.some.injEq,Prod.mk.injEq]at h
   obtain⟨vn,hvn,vc,hvc,v',hv',rfl,rfl⟩:=h
   rfl
  ·simp only[aV,Option.bind_eq_some_iff,aC,Option.some.injEq]at h
   obtain⟨vn,hvn,vc,hvc,r',hr',e'⟩:=h
   subst e'
   unfold kA at hr'
   split at hr'
   ·split at hr'
    ·simp at hr';rw[<-hr'.2];exact jJ hid
    ·simp at hr'
   ·simp at hr'
  ·simp[aC]at h
 ·-- a text's runes
  split at h
  ·simp only[aV,Option.bind_eq_some_iff]at h
   obtain⟨vx,hvx,h⟩:=h
   split at h
   ·simp only[aC,Option.some.injEq]at h
    obtain⟨rfl,rfl⟩:=Prod.mk.inj h
    exact jJ hid
   ·simp[aC]at h
  ·simp[aC]at h
 ·-- the next rune
  simp only[aV,Option.bind_eq_some_iff,aC,Option.some.injEq]at h
  obtain⟨va,hva,r',hr',e⟩:=h
  subst e
  unfold kl at hr'
  split at hr'
  rotate_left
  ·simp at hr'
  rename_i id'
  split at hr'
  rotate_left
  ·simp at hr'
  rename_i s pos hob
  split at hr'
  ·simp only[Option.some.injEq,Prod.mk.injEq]at hr'
   rw[<-hr'.2]
   unfold kY
   by_cases e:id=id'
   ·subst e;rw[bX hid,hob]
   ·rw[bK e]
  ·simp only[Option.some.injEq,Prod.mk.injEq]at hr'
   rw[<-hr'.2]
 ·-- an entry of a map
  split at h
  rotate_left
  ·simp[aC]at h
  simp only[aV,bA,Option.bind_eq_some_iff]at h
  obtain⟨vm,hvm,vk,hvk,vx,hvx,kd,hkd,h⟩:=h
  split at h
  rotate_left
  ·simp at h
  simp only[Option.bind_eq_some_iff,aC,Option.some.injEq,Prod.mk.injEq]at h
  obtain⟨S1,hS1,rfl,rfl⟩:=h
  unfold eX at hS1
  split at hS1
  rotate_left
  ·simp at hS1
  rename_i id' kd xd
  split at hS1
  rotate_left
  ·simp at hS1
  rename_i es hob
  split at hS1
  rotate_left
  ·simp at hS1
  injection hS1 with hS1;subst hS1
  unfold kY
  by_cases e:id=id'
  ·subst e;rw[bX hid,hob]
  ·rw[bK e]
 ·rename_i hop;simp[cL,hop]at hs
 ·-- a call
  rename_i c hop
  split at h
  ·rename_i hcal
   split at h
   rotate_left
   ·simp[aC]at h
   simp only[aV,Option.bind_eq_some_iff,bA]at h
   obtain⟨e,he,sz,hsz,bx,hbx,vy,hvy,h⟩:=h
   split at h
   rotate_left
   ·simp at h
   split at h
   ·simp only[aV,Option.bind_eq_some_iff,aC,Option.some.injEq,Prod.mk.injEq]at h
    obtain⟨v',hv',rfl,rfl⟩:=h;rfl
   ·simp only[bA,aV]at h
    split at h
    rotate_left
    ·simp at h
    simp only[Option.bind_eq_some_iff,aC,Option.some.injEq]at h
    obtain⟨r',hr',e'⟩:=h
    subst e'
    unfold gL at hr'
    split at hr'
    ·split at hr'
     ·split at hr'
      ·simp at hr';rw[<-hr'.2];exact jJ hid
      ·simp at hr'
     ·simp at hr'
    ·simp at hr'
   ·simp only[bA,aV,Option.bind_eq_some_iff,aC]at h
    obtain⟨q,hq,h⟩:=h
    split at h
    rotate_left
    ·simp at h
    simp only[Option.bind_eq_some_iff,Option.some.injEq,Prod.mk.injEq]at h
    obtain⟨v',hv',rfl,rfl⟩:=h;rfl
   ·simp only[bA,aV,Option.bind_eq_some_iff,aC]at h
    obtain⟨q,hq,⟨z,S1⟩,hun,h⟩:=h
    split at h
    rotate_left
    ·simp at h
    simp only[Option.bind_eq_some_iff,Option.some.injEq,Prod.mk.injEq]at h
    obtain⟨v',hv',rfl,rfl⟩:=h
    unfold mL at hun
    split at hun
    rotate_left
    ·simp at hun
    split at hun
    rotate_left
    ·simp at hun
    rename_i id' off' _ _ cs fl1 hob
    split at hun
    rotate_left
    ·simp at hun
    injection hun with hun;injection hun with _ hun;subst hun
    unfold kY
    by_cases e:id=id'
    ·subst e;rw[bX hid,hob]
    ·rw[bK e]
   ·simp[aC]at h
  ·rename_i fv hcal
   simp only[aV,Option.bind_eq_some_iff]at h
   obtain⟨args,hargs,vf,hvf,h⟩:=h
   split at h
   rotate_left
   ·simp[aC]at h
   rename_i g caps
   simp only[bA]at h
   split at h
   rotate_left
   ·simp at h
   rename_i hrb
   simp only[decide_eq_true_eq]at hrb
   rw[ee]at h
   obtain⟨out,hout,h⟩:=Option.bind_eq_some_iff.1 h
   simp only[aV,Option.bind_eq_some_iff,aC,Option.some.injEq]at h
   obtain⟨r2,hj,e⟩:=h
   subst e
   obtain⟨sh1,_⟩:=lB hj
   unfold cL at hs
   simp only[hop,hcal,hargs,hvf,bz,Bool.and_eq_true]at hs
   have h1:iV (args++caps)<=id:=by
    refine(eA _ _).1 ?_
    have h2:=hs.1
    have h3:=hs.2
    rw[cp]at h2 h3⊢
    intro c hc
    rcases List.mem_append.1 hc with h|h
    ·exact h2 c h
    ·exact h3 c h
   have hg:bE S' id=bE S id:=by
    rcases sh1 with⟨h3,h4⟩|⟨cs,fl',S1,h3,h4,_,h5⟩
    ·simp only at h4;rw[h4];exact o0 hrb h3 h1
    ·simp only at h5
     rw[h5,cz (by simp[dq hrb,h4];omega)]
     exact o0 hrb h4 h1
   unfold kY;rw[hg]
  ·simp[aC]at h
 ·simp[aC]at h
end
end Go.Dn
namespace Go.Dn
set_option linter.unusedVariables false
set_option linter.unusedSimpArgs false
section
variable {P : Program} {aE : Pol}
inductive OpStep (P:Program) (aE:Pol) (f:Task->Option Out) (k r i:Nat) (ops:List Oper) (o:Oper) (id:Nat) (vals:List V) (fl:Fl) (S:List Ob):V->List Ob->Prop where
 |alloc (h:bN o=true):OpStep P aE f k r i ops o id vals fl S (mN o id) S
 |pure {v:V} (h:bN o=false) (hg:jh aE k r i o=true) (he:dR P o=false) (hp:u7 P ops vals S o=some v):OpStep P aE f k r i ops o id vals fl S v S
 |eff {v:V} {S':List Ob} (h:bN o=false) (hg:jh aE k r i o=true) (he:dR P o=true) (hp:aC f (jf P aE k r i ops vals fl S o)=some (v,S')):OpStep P aE f k r i ops o id vals fl S v S'
structure Trace (P:Program) (aE:Pol) (f:Task->Option Out) (k r:Nat) (ops rest:List Oper) (i:Nat) (vs:Nat->List V) (fls:Nat->Fl) (Ss:Nat->List Ob) (ids:Nat->Nat) (rv:Nat->V):Prop where
 step:∀j o,rest[j]?=some o->OpStep P aE f k r (i+j) ops o (ids j) (vs j) (fls j) (Ss j) (rv j) (Ss (j+1))
 vs:∀j o,rest[j]?=some o->vs (j+1)=nF o.dst (rv j) (vs j)
 fls:∀j o,rest[j]?=some o->fls (j+1)=bI P aE k r (i+j) ops (fls j) o
 ids:∀j o,rest[j]?=some o->ids (j+1)=if bN o=true then ids j+1 else ids j
def shift{α:Type}(a:α)(g:Nat->α):Nat->α
 |0=>a
 |n+1=>g n
theorem zL{f:Task->Option Out}{k r:Nat}{ops:List Oper}{K:List V->Fl->List Ob->Tr}{res:Out}:∀(rest:List Oper) (i id:Nat) (vals:List V) (fl:Fl) (S:List Ob),aC f (gO P aE k r ops rest i id vals fl S K)=some res->
  ∃vs fls Ss ids rv,vs 0=vals/\fls 0=fl/\Ss 0=S/\ids 0=id/\Trace P aE f k r ops rest i vs fls Ss ids rv/\aC f (K (vs rest.length) (fls rest.length) (Ss rest.length))=some res
 | [],i,id,vals,fl,S,h=>⟨fun _=>vals,fun _=>fl,fun _=>S,fun _=>id,fun _ => .u,rfl,rfl,rfl,rfl,⟨by simp,by simp,by simp,by simp⟩,h⟩
 |o::os,i,id,vals,fl,S,h=>by
  have key:∀(v:V) (S':List Ob),OpStep P aE f k r i ops o id vals fl S v S'->aC f (gO P aE k r ops os (i+1) (if bN o=true then id+1 else id) (nF o.dst v vals) (bI P aE k r i ops fl o) S' K)=some res->
    ∃vs fls Ss ids rv,vs 0=vals/\fls 0=fl/\Ss 0=S/\ids 0=id/\Trace P aE f k r ops (o::os) i vs fls Ss ids rv/\aC f (K (vs (o::os).length) (fls (o::os).length) (Ss (o::os).length))=some res:=by
   intro v S' hs hr
   obtain⟨vs,fls,Ss,ids,rv,h1,h2,h3,h4,h5,h6⟩:=zL os _ _ _ _ _ hr
   refine⟨shift vals vs,shift fl fls,shift S Ss,shift id ids,shift v rv,rfl,rfl,rfl,rfl,⟨?_,?_,?_,?_⟩,h6⟩
   ·intro j o' hj
    cases j with
    |zero=>simp at hj;subst hj;simp only[shift,Nat.add_zero,h3];exact hs
    |succ j=>have:=h5.step j o' (by simpa using hj);rw[Nat.add_assoc,Nat.add_comm 1 j]at this;exact this
   ·intro j o' hj
    cases j with
    |zero=>simp at hj;subst hj;simp only[shift,h1]
    |succ j=>exact h5.vs j o' (by simpa using hj)
   ·intro j o' hj
    cases j with
    |zero=>simp at hj;subst hj;simp only[shift,Nat.add_zero,h2]
    |succ j=>have:=h5.fls j o' (by simpa using hj);rw[Nat.add_assoc,Nat.add_comm 1 j]at this;exact this
   ·intro j o' hj
    cases j with
    |zero=>simp at hj;subst hj;simp only[shift,h4]
    |succ j=>exact h5.ids j o' (by simpa using hj)
  simp only[gO]at h
  split at h
  ·rename_i ha
   exact key _ _ (.alloc ha) (by rw[if_pos ha];exact h)
  ·rename_i ha
   split at h
   ·simp[aC]at h
   ·rename_i hg
    split at h
    ·rename_i he
     rw[aV]at h
     obtain⟨v,hv,h⟩:=Option.bind_eq_some_iff.1 h
     exact key v S (.pure ha hg he hv) (by rw[if_neg (by simp[ha])];exact h)
    ·rename_i he
     rw[lA]at h
     obtain⟨⟨v,S'⟩,hv,h⟩:=Option.bind_eq_some_iff.1 h
     exact key v S' (.eff ha hg he hv) (by rw[if_neg (by simp[ha])];exact h)
def tX(ops:List Oper)(j:Nat):Nat:=((ops.take j).filter bN).length
theorem oe(ops:List Oper):tX ops 0=0:=by simp[tX]
theorem od{ops:List Oper}{j:Nat}{o:Oper}(h:ops[j]?=some o):tX ops (j+1)=if bN o=true then tX ops j+1 else tX ops j:=by
 unfold tX
 rw[List.take_add_one,h]
 simp[List.filter_append]
 cases ha:bN o<;>simp[List.filter,ha]
theorem rF{ops:List Oper}{i j:Nat}(h:i<=j):tX ops i<=tX ops j:=by
 unfold tX
 have:ops.take i=(ops.take j).take i:=by rw[List.take_take,Nat.min_eq_left h]
 rw[this]
 exact(List.Sublist.filter _ (List.take_sublist _ _)).length_le
inductive NewAt (P:Program) (all:List Oper) (vals:List V) (o:Oper):Ob->Prop where
 |var {t:TypeId} {z:List V} {fl:Fl} (hop:o.op = .alloc t) (hz:eN P t=some z) (h1:z.all V.one=true) (hf:jE (some t) z fl=true):NewAt P all vals o (.cells z fl)
 |map {t:TypeId} (hop:o.op = .makeMap t none):NewAt P all vals o (.map [])
 |box {t:TypeId} {q sz:Nat} {cs:List V} {fl:Fl} (hop:o.op = .box t (.tmp q)) (hgu:o.guard=none) (hq:∀e∈all,e.dst≠some q) (hb:jy sz (vals.getD q .u)=some cs) (h1:cs.all V.one=true) (hf:jE (some t) cs fl=true):NewAt P all vals o (.cells cs fl)
theorem gG{w:World}{G:Sg}{k r:Nat}{all:List Oper}{vals:List V}:∀(ops:List Oper) (i:Nat) (S S1:List Ob),iy P aE k r all vals ops i S=some S1->Inv w G S->
  Inv w G S1/\Ext w G S w G S1/\S1.length=S.length+tX ops ops.length/\(∀id,id<S.length->bE S1 id=bE S id)/\
   ∀j o,ops[j]?=some o->bN o=true->∃x,NewAt P all vals o x/\bE S1 (S.length+tX ops j)=some x
 | [],i,S,S1,h,hI=>by
  simp[iy]at h;subst h
  exact⟨hI,Ext.refl _ _ _,by simp[tX],fun _ _=>rfl,by simp⟩
 |o::os,i,S,S1,h,hI=>by
  have hc0:∀j,tX (o::os) (j+1)=(if bN o=true then 1 else 0)+tX os j:=by
   intro j;unfold tX
   rw[List.take_succ_cons]
   cases ha:bN o<;>simp[List.filter,ha]
   omega
  have hskip:bN o=false->iy P aE k r all vals os (i+1) S=some S1->Inv w G S1/\Ext w G S w G S1/\S1.length=S.length+tX (o::os) (o::os).length/\(∀id,id<S.length->bE S1 id=bE S id)/\
   ∀j o',(o::os)[j]?=some o'->bN o'=true->∃x,NewAt P all vals o' x/\bE S1 (S.length+tX (o::os) j)=some x:=by
   intro ha hr
   obtain⟨h1,h2,h3,h4,h5⟩:=gG os (i+1) S S1 hr hI
   refine⟨h1,h2,by rw[List.length_cons,hc0,h3,ha];simp,h4,fun j o' hj ho'=>?_⟩
   cases j with
   |zero=>simp at hj;subst hj;rw[ha]at ho';cases ho'
   |succ j=>
    obtain⟨x,p1,p5⟩:=h5 j o' (by simpa using hj) ho'
    exact⟨x,p1,by rw[hc0,ha];simpa using p5⟩
  simp only[iy]at h
  split at h
  ·rename_i t hop hgu
   have ha:bN o=true:=by simp[bN,hop,hgu]
   split at h
   rotate_left
   ·simp at h
   rename_i z hz
   split at h
   rotate_left
   ·simp at h
   rename_i w1 hw1
   unfold hO at hw1
   split at hw1
   rotate_left
   ·simp at hw1
   rename_i hcond
   obtain⟨c1,c2,c3⟩:=hcond
   injection hw1 with hw1;subst hw1
   obtain⟨h1,h2,h3,h4,h5⟩:=gG os (i+1) _ S1 h (hI.phantom _ (by intro cs fl e;injection e with e _;subst e;exact cq (by omega) _ c3))
   simp only[List.length_cons]at h3 h4 h5
   refine⟨h1,(Ext.phantom _).trans h2,by rw[List.length_cons,hc0,h3,ha];simp;omega,fun id hid=>by rw[h4 id (by omega),cz hid],fun j o' hj ho'=>?_⟩
   cases j with
   |zero=>
    simp at hj;subst hj
    refine⟨_,.var hop hz c2 c1,?_⟩
    rw[oe,Nat.add_zero,h4 _ (by omega)]
    simp[bE]
   |succ j=>
    obtain⟨x,p1,p5⟩:=h5 j o' (by simpa using hj) ho'
    refine⟨x,p1,?_⟩
    rw[hc0,ha,if_pos rfl,<-Nat.add_assoc];exact p5
  ·rename_i t hop hgu
   have ha:bN o=true:=by simp[bN,hop,hgu]
   obtain⟨h1,h2,h3,h4,h5⟩:=gG os (i+1) _ S1 h (hI.phantom _ (by intro cs fl e;cases e))
   simp only[List.length_cons]at h3 h4 h5
   refine⟨h1,(Ext.phantom _).trans h2,by rw[List.length_cons,hc0,h3,ha];simp;omega,fun id hid=>by rw[h4 id (by omega),cz hid],fun j o' hj ho'=>?_⟩
   cases j with
   |zero=>
    simp at hj;subst hj
    refine⟨_,.map hop,?_⟩
    rw[oe,Nat.add_zero,h4 _ (by omega)]
    simp[bE]
   |succ j=>
    obtain⟨x,p1,p5⟩:=h5 j o' (by simpa using hj) ho'
    refine⟨x,p1,?_⟩
    rw[hc0,ha,if_pos rfl,<-Nat.add_assoc];exact p5
  ·rename_i t q hop hgu
   split at h
   ·rename_i hae
    have ha:bN o=true:=by simp[bN,hop,hgu,hae]
    split at h
    rotate_left
    ·simp at h
    rename_i hall
    split at h
    rotate_left
    ·simp at h
    rename_i sz hsz
    split at h
    rotate_left
    ·simp at h
    rename_i w1 hw1
    rw[Fy]at hw1
    obtain⟨z,hz,hw1⟩:=Option.bind_eq_some_iff.1 hw1
    unfold hO at hw1
    split at hw1
    rotate_left
    ·simp at hw1
    rename_i hcond
    obtain⟨c1,c2,c3⟩:=hcond
    injection hw1 with hw1;subst hw1
    obtain⟨h1,h2,h3,h4,h5⟩:=gG os (i+1) _ S1 h (hI.phantom _ (by intro cs fl e;injection e with e _;subst e;exact cq (by omega) _ c3))
    simp only[List.length_cons]at h3 h4 h5
    refine⟨h1,(Ext.phantom _).trans h2,by rw[List.length_cons,hc0,h3,ha];simp;omega,fun id hid=>by rw[h4 id (by omega),cz hid],fun j o' hj ho'=>?_⟩
    cases j with
    |zero=>
     simp at hj;subst hj
     refine⟨_,.box hop hgu (fun e he hd=>?_) hz c2 c1,?_⟩
     ·have:=List.all_eq_true.1 hall e he
      rw[hd]at this;simp at this
     rw[oe,Nat.add_zero,h4 _ (by omega)]
     simp[bE]
    |succ j=>
     obtain⟨x,p1,p5⟩:=h5 j o' (by simpa using hj) ho'
     refine⟨x,p1,?_⟩
     rw[hc0,ha,if_pos rfl,<-Nat.add_assoc];exact p5
   ·rename_i hae
    exact hskip (by simp[bN,hop,hgu,hae]) h
  ·rename_i hno hno2 hno3
   refine hskip ?_ h
   unfold bN
   split
   ·rename_i t h1 h2;exact absurd h2 (hno t h1)
   ·rename_i t h1 h2;exact absurd h2 (hno2 t h1)
   ·rename_i t q h1 h2;exact absurd h2 (hno3 t q h1)
   ·rfl
theorem Fe{acc:List Nat}{o:Oper}{i:Nat}(h:(mask acc o).testBit i=true):∃e∈o.after.toList,Region.binds .any e=true/\(e.on=i\/(acc.getD e.on 0).testBit i=true):=by
 unfold mask at h
 have key:∀(l:List Edge) (s:Nat),(l.foldl (fun s e=>if Region.binds .any e then s ||| 2^e.on ||| acc.getD e.on 0 else s) s).testBit i=true->s.testBit i=true\/∃e∈l,Region.binds .any e=true/\(e.on=i\/(acc.getD e.on 0).testBit i=true):=by
  intro l
  induction l with
  |nil=>intro s h;exact .inl h
  |cons e l ih=>
   intro s h
   rw[List.foldl_cons]at h
   rcases ih _ h with h|⟨e',h1,h2⟩
   ·split at h
    ·rename_i hb
     rw[Nat.testBit_or,Nat.testBit_or,Nat.testBit_two_pow]at h
     simp only[Bool.or_eq_true,decide_eq_true_eq]at h
     rcases h with(h|h)|h
     ·exact .inl h
     ·exact .inr ⟨e,by simp,hb,.inl h⟩
     ·exact .inr ⟨e,by simp,hb,.inr h⟩
    ·exact .inl h
   ·exact .inr ⟨e',by simp[h1],h2⟩
 rcases key _ _ h with h|h
 ·simp at h
 ·exact h
theorem jc:∀(os:List Oper) (acc:List Nat),(eH os acc).length=acc.length+os.length
 | [],acc=>by simp[eH]
 |o::os,acc=>by simp only[eH,jc os,List.length_append,List.length_cons,List.length_nil];omega
theorem pn:∀(os:List Oper) (acc:List Nat) (j:Nat),j<acc.length->(eH os acc).getD j 0=acc.getD j 0
 | [],acc,j,_=>rfl
 |o::os,acc,j,h=>by
  simp only[eH]
  rw[pn os _ j (by simp;omega)]
  simp[List.getElem?_append_left h]
theorem xu:∀(os:List Oper) (acc:List Nat) (j:Nat) (o:Oper),os[j]?=some o->(eH os acc).getD (acc.length+j) 0=mask ((eH os acc).take (acc.length+j)) o
 | [],acc,j,o,h=>by simp at h
 |o'::os,acc,0,o,h=>by
  simp at h;subst h
  simp only[eH,Nat.add_zero]
  rw[pn os _ _ (by simp)]
  have:(eH os (acc++[mask acc o'])).take acc.length=acc:=by
   apply List.ext_getElem?
   intro j
   rcases Nat.lt_or_ge j acc.length with hj|hj
   ·rw[List.getElem?_take_of_lt hj]
    have h1:=pn os (acc++[mask acc o']) j (by simp;omega)
    have h2:j<(eH os (acc++[mask acc o'])).length:=by rw[jc];simp;omega
    rw[List.getElem?_eq_getElem h2,List.getElem?_eq_getElem hj]
    simp only[List.getD_eq_getElem?_getD,List.getElem?_eq_getElem h2,Option.getD_some,List.getElem?_append_left hj,List.getElem?_eq_getElem hj]at h1
    rw[h1]
   ·rw[List.getElem?_eq_none (by simp;omega),List.getElem?_eq_none hj]
  rw[this]
  simp
 |o'::os,acc,j+1,o,h=>by
  have:=xu os (acc++[mask acc o']) j o (by simpa using h)
  simp only[List.length_append,List.length_cons,List.length_nil]at this
  simp only[eH]
  rw[show acc.length+(j+1)=acc.length+(0+1)+j by omega]
  exact this
def j9(ops:List Oper)(L:Nat->Prop):Prop:=∀j o,ops[j]?=some o->L j->∀e∈o.after.toList,Region.binds .any e=true->L e.on
theorem gH{ops:List Oper}{L:Nat->Prop}(hc:j9 ops L):∀(j:Nat) (o:Oper),ops[j]?=some o->(∀e∈o.after.toList,Region.binds .any e=true->L e.on)->∀i,((eH ops []).getD j 0).testBit i=true->L i:=by
 intro j
 induction j using Nat.strongRecOn with
 |_ j ih=>
  intro o ho hd i hi
  have hg:=xu ops [] j o ho
  simp only[List.length_nil,Nat.zero_add]at hg
  rw[hg]at hi
  obtain⟨e,he,hb,h⟩:=Fe hi
  have hL:=hd e he hb
  rcases h with h|h
  ·exact h▸hL
  ·rcases Nat.lt_or_ge e.on j with hlt|hge
   ·have h1:((eH ops []).take j).getD e.on 0=(eH ops []).getD e.on 0:=by
     simp[List.getElem?_take_of_lt hlt]
    rw[h1]at h
    cases ho':ops[e.on]? with
    |none=>
     have:(eH ops []).getD e.on 0=0:=by
      rw[List.getD_eq_getElem?_getD,List.getElem?_eq_none]
      ·rfl
      ·rw[jc];simp;exact List.getElem?_eq_none_iff.1 ho'
     rw[this]at h;simp at h
    |some o'=>exact ih e.on hlt o' ho' (hc e.on o' ho' hL) i h
   ·have:((eH ops []).take j).getD e.on 0=0:=by
     rw[List.getD_eq_getElem?_getD,List.getElem?_eq_none]
     ·rfl
     ·simp;omega
    rw[this]at h;simp at h
end
end Go.Dn
