/- token: words as texts: a word's text is that word again. -/
import Derived.Test.YtbjllhjbhdjfjaaGreatDoorP6
import Derived.Test.YtbjllhjbhdjfjaaGreatDoorP8
import Derived.Test.YtbjllhjbhdjfjaaGreatDoorP9
import Derived.Test.YtbjllhjbhdjfjaaGreatDoorP4
import Derived.KernelRfl
set_option linter.unusedVariables false
set_option linter.unusedSimpArgs false
set_option linter.unusedSectionVars false
namespace Go.Dn.Dec
open Go.IntKind (i64 u64 u8 u16 i32 u32)
set_option exponentiation.threshold 5000000
def MW(w:mP):Prop:=(∃c q,w=c::q/\jK c=true)/\(∀c∈w,dC c=true)/\w.length<=120/\w.getLast?≠some 46/\og w=false
def I7(d:Nat):Prop:=d<2^64/\d / 2^52%2048≠2047
def Wd(s:mP):Prop:=s.contains 10=false/\(s.contains 34=false\/s.contains 39=false)
def zt(t:Tok):Prop:=
 (∃w a,t=⟨1,w,0,0,a⟩/\MW w)\/(∃n a,t=⟨2,[],n,0,a⟩/\-9223372036854775808<=n/\n<=9223372036854775807)\/(∃d a,t=⟨3,[],0,d,a⟩/\I7 d)\/(∃s a,t=⟨4,s,0,0,a⟩/\Wd s)\/∃c a,t=⟨5,[c],0,0,a⟩/\eB.contains c=true
theorem RL{c:UInt8}(h:wL c=true)(f k:Nat)(q:mP):eV (f+1) (c::q) k=eV f q (k+1):=by simp only[eV];rw[if_pos h]
def Lx(s:mP):Prop:=∀(f a:Nat) (l:List Tok),s.length<f->(rr f s a l).2=(0,0)
theorem iU:∀(f:Nat) (r:mP) (k:Nat),eV f r k=(k+(eV f r 0).1,(eV f r 0).2)
 |0,r,k=>rfl
 |f+1,[],k=>rfl
 |f+1,c::q,k=>by
  simp only[eV];split
  ·rw[iU f q (k+1),iU f q (0+1)];simp;omega
  ·split
   ·rw[iU f _ (k+_),iU f _ (0+_)];simp;omega
   ·split
    ·split
     ·rfl
     ·rename_i n _;rw[iU f _ (k+(2+n)),iU f _ (0+(2+n))];simp;omega
    ·rfl
theorem TH{c:UInt8}(h:wL c=true)(f:Nat)(s:mP)(a:Nat)(l:List Tok):rr (f+1) (c::s) a l=rr (f+1) s (a+1) l:=by
 have hs:eV (c::s).length (c::s) 0=((eV s.length s 0).1+1,(eV s.length s 0).2):=by rw[List.length_cons,RL h,iU,Nat.add_comm]
 simp only[rr];rw[hs]
 cases hk:eV s.length s 0 with
 |mk k b=>
  cases b with
  |false=>simp only;congr 2;omega
  |true=>
   simp only;have e1:a+(c::s).length=a+1+s.length:=by simp;omega
   have e2:(c::s).drop (k+1)=s.drop k:=rfl;have e3:a+(k+1)=a+1+k:=by omega
   rw[e1,e2,e3];by_cases hl:s.length<=k
   ·rw[if_pos hl,if_pos (by simp;omega)]
   ·rw[if_neg hl,if_neg (by simp;omega)]
    cases fg (s.drop k) (a+1+k) with
    |inr x=>rfl
    |inl x=>
     obtain⟨t,n⟩:=x;simp only;have e4:(c::s).drop (k+1+n)=s.drop (k+n):=by rw[show k+1+n=(k+n)+1 by omega];rfl
     rw[e4]
theorem Lx.nil:Lx []:=by
 intro f a l hf;obtain⟨g,rfl⟩:∃g,f=g+1:=⟨f-1,by omega⟩
 rfl
theorem Lx.sp{c:UInt8}{s:mP}(h:wL c=true)(hs:Lx s):Lx (c::s):=by
 intro f a l hf;obtain⟨g,rfl⟩:∃g,f=g+1:=⟨f-1,by omega⟩
 rw[TH h];exact hs _ _ _ (by simp at hf;omega)
def Ug(u:mP):Prop:=∀s,Lx s->Lx (u++s)
theorem Ug.nil:Ug []:=λ s h=>h
theorem Pj(neg:Bool)(v:Nat)(h:v<2047*2^52):I7 (ox neg v):=by
 unfold ox I7;split
 ·have e:v ||| 2^63=1*2^63+v:=by rw[Nat.or_comm];have:=Nat.shiftLeft_add_eq_or_of_lt (a:=1) (b:=v) (i:=63) (by omega);rw[Nat.shiftLeft_eq,Nat.one_mul]at this;rw[Nat.one_mul];exact this.symm
  rw[e];omega
 ·omega
theorem L2{s:mP}(h:(dp s).2=0):I7 (dp s).1:=by
 unfold dp at h⊢;split at h
 ·cases h
 rename_i h1;rw[if_neg h1];split at h
 ·cases h
 rename_i h2;rw[if_neg h2];split at h
 ·cases h
 rename_i h3;rw[if_neg h3];have hy:∀(m:Int) (x:Nat),0<(iA m x).2:=by
  intro m x;unfold iA;split
  ·exact Nat.one_pos
  ·exact Nat.pow_pos (by decide)
 generalize hr:iA ((k8 (splitB s).1).1-(splitB s).1.part.length) (cI ((splitB s).1.whole++(splitB s).1.part))=r at h⊢;obtain⟨v,_,hv⟩:=nz r.1 r.2 (by rw[<-hr];exact hy _ _);dsimp only at h⊢;rw[hv]at h⊢;unfold xK at h⊢;split at h
 ·rename_i hlt;rw[if_pos hlt];exact Pj _ _ hlt
 ·cases h
theorem mu{r:mP}{n a m:Nat}{t t':Tok}(h:oB r n a t = .inl (t',m)):t'=t:=by
 unfold oB at h;split at h
 ·injection h with h;injection h with h;exact h.symm
 ·split at h
  ·cases h
  ·injection h with h;injection h with h;exact h.symm
theorem N0{r:mP}{a n:Nat}{t:Tok}(h:v8 r a = .inl (t,n)):zt t:=by
 unfold v8 at h;dsimp only at h;split at h
 ·cases h
 split at h
 ·cases h
 rename_i h2;have:=mu h;subst this;refine .inr (.inl ⟨_,_,rfl,by omega,by omega⟩)
theorem I1{b:Bool}{v:Nat}(h:¬(eD b v).2=false):-9223372036854775808<=(eD b v).1/\(eD b v).1<=9223372036854775807:=by
 unfold eD at h⊢;split at h
 ·rename_i hb;rw[if_pos hb];simp only[decide_eq_false_iff_not,Decidable.not_not]at h;omega
 ·rename_i hb;rw[if_neg hb];simp only[decide_eq_false_iff_not,Decidable.not_not]at h;omega
theorem OE{r:mP}{a n:Nat}{t:Tok}(h:nQ r a = .inl (t,n)):zt t:=by
 unfold nQ at h;dsimp only at h;split at h
 ·exact N0 h
 split at h
 ·cases h
 split at h
 ·split at h
  ·cases h
  split at h
  ·cases h
  rename_i h4;have:=mu h;subst this;exact .inr (.inl ⟨_,_,rfl,I1 h4⟩)
 ·split at h
  ·cases h
  rename_i h4;have:=mu h;subst this;exact .inr (.inr (.inl ⟨_,_,rfl,L2 (by omega)⟩))
theorem IM{p:UInt8->Bool}:∀{l:mP} {c:UInt8},c∈l.takeWhile p->p c=true
 |a::l,c,h=>by
  rw[List.takeWhile_cons]at h;split at h
  ·rename_i ha;rcases List.mem_cons.1 h with rfl|h
   ·exact ha
   ·exact IM h
  ·cases h
theorem MC{q:UInt8}(hq:q=34\/q=39){r:mP}{a n:Nat}{t:Tok}(h:oy q r a = .inl (t,n)):zt t:=by
 unfold oy at h;dsimp only at h;split at h
 ·cases h
 rename_i h1;injection h with h;injection h with h
 subst h;have hc:(r.takeWhile (· != q)).contains q=false:=by
  cases e:(r.takeWhile (· != q)).contains q with
  |false=>rfl
  |true=>
   have:=IM (List.contains_iff_mem.1 e);simp at this
 refine .inr (.inr (.inr (.inl ⟨_,_,rfl,?_,?_⟩)))
 ·cases e:(r.takeWhile (· != q)).contains 10 with
  |false=>rfl
  |true=>exact absurd (.inr e) h1
 ·rcases hq with rfl|rfl
  ·exact .inl hc
  ·exact .inr hc
theorem LV{c:UInt8}{q:mP}(hc:jK c=true){a n:Nat}{t:Tok}(h:qA (c::q) a = .inl (t,n)):zt t:=by
 unfold qA at h;dsimp only at h;split at h
 ·cases h
 rename_i h1;split at h
 ·cases h
 rename_i h2;injection h with h;injection h with h
 subst h;have hn:dC c=true:=by unfold dC;rw[hc];rfl
 refine .inl ⟨_,_,rfl,⟨c,q.takeWhile dC,by rw[List.takeWhile_cons,if_pos hn],hc⟩,λ c hc=>IM hc,by omega,λ h=>h2 (.inl h),?_⟩
 cases e:og ((c::q).takeWhile dC) with
 |false=>rfl
 |true=>exact absurd (.inr e) h2
theorem MQ{r:mP}{a n:Nat}{t:Tok}(h:fg r a = .inl (t,n)):zt t:=by
 unfold fg at h;split at h
 ·cases h
 rename_i c q;split at h
 ·rename_i hc;exact LV hc h
 split at h
 ·exact OE h
 split at h
 ·rename_i hq;exact MC hq h
 split at h
 ·rename_i hs;injection h with h;injection h with h
  subst h;exact .inr (.inr (.inr (.inr ⟨c,a,rfl,hs⟩)))
 ·cases h
theorem Rj{r:mP}{a n:Nat}{t:Tok}(h:nQ r a = .inl (t,n)):t.text=[]:=by
 unfold nQ at h;dsimp only at h;split at h
 ·unfold v8 at h;dsimp only at h;split at h
  ·cases h
  split at h
  ·cases h
  rw[mu h]
 split at h
 ·cases h
 split at h
 ·split at h
  ·cases h
  split at h
  ·cases h
  rw[mu h]
 ·split at h
  ·cases h
  rw[mu h]
theorem P2{r:mP}{a n:Nat}{t:Tok}(h:fg r a = .inl (t,n)):t.text.length<=r.length:=by
 unfold fg at h;split at h
 ·cases h
 rename_i c q;split at h
 ·unfold qA at h;dsimp only at h;split at h
  ·cases h
  split at h
  ·cases h
  injection h with h;injection h with h
  subst h;exact gB _ _
 split at h
 ·rw[Rj h];exact Nat.zero_le _
 split at h
 ·unfold oy at h;dsimp only at h;split at h
  ·cases h
  injection h with h;injection h with h
  subst h;exact Nat.le_trans (gB _ _) (Nat.le_succ _)
 split at h
 ·injection h with h;injection h with h
  subst h;exact Nat.succ_le_succ (Nat.zero_le _)
 ·cases h
theorem AX(N:Nat):∀(f:Nat) (r:mP) (a:Nat) (l:List Tok),r.length<=N->(∀t∈l,zt t/\t.text.length<=N)->∀t∈(rr f r a l).1,(zt t/\t.text.length<=N)\/t.kind=6
 |0,_,_,_,_,_,t,ht=>by cases ht
 |f+1,r,a,l,hr,hl,t,ht=>by
  simp only[rr]at ht;split at ht
  ·cases ht
  rename_i k hk;split at ht
  ·rcases List.mem_append.1 ht with ht|ht
   ·exact .inl (hl t ht)
   ·rw[List.mem_singleton.1 ht];exact .inr rfl
  ·split at ht
   ·cases ht
   ·rename_i t' n hw;refine AX N f _ _ _ (by rw[List.length_drop];omega) ?_ t ht;intro x hx;rcases List.mem_append.1 hx with hx|hx
    ·exact hl x hx
    ·rw[List.mem_singleton.1 hx];have:=P2 hw;rw[List.length_drop]at this;exact⟨MQ hw,by omega⟩
theorem EY(s:mP):(∃W e,lexB s=(W++[⟨6,[],0,0,e⟩],0,0)/\∀t∈W,zt t/\t.text.length<=2000)\/∃e w,lexB s=([],e,w)/\e≠0:=by
 rcases ru s with⟨l,hg,h⟩|⟨e,w,h,he,_⟩
 ·refine .inl ⟨l,_,h,λ t ht=>?_⟩;have h1:t∈(lexB s).1:=by rw[h];exact List.mem_append_left _ ht
  unfold lexB at h1;split at h1
  ·cases h1
  ·rcases AX 2000 _ _ _ _ (by omega) (λ t h=>by cases h) t h1 with h2|h2
   ·exact h2
   ·exact absurd h2 (hg.1 t ht).1
 ·exact .inr ⟨e,w,h,he⟩
end Go.Dn.Dec
namespace Go.Dn.Dec.Pa
open Go.IntKind (i64 u64 u8 u16 i32 u32)
open Go.Proofs
set_option maxRecDepth 100000
abbrev GJ:List V:=(pB true [] true [] true [])
theorem Ty{l:List D}(h:∀y∈l,y.width=12):bw 12 l=true:=by
 cases l with
 |nil=>rfl
 |cons y l=>exact beq_iff_eq.2 (h y (by simp))
section
variable {b : Bool} {W : List Tok} (hW : Wds W)
theorem K0(s:PS):∃(kd:Int) (nm ty:mP) (ck cn cu:Int) (cs:mP) (cb:Bool) (cl:List D) (fb:Bool) (fl:List D) (mb:Bool) (ml:List D) (ex:mP) (tb:Bool) (tl:List D),(iO W s).1=dD kd nm ty ck cn cu cs cb cl fb fl mb ml ex tb tl:=by
 unfold iO
 cases h:mB W s with
 |none=>exact⟨_,_,_,_,_,_,_,_,_,_,_,_,_,_,_,_,rfl⟩
 |some x=>
  unfold mB at h
  repeat' split at h
  all_goals first
   |(cases h;done)
   |(injection h with h;subst h;exact⟨_,_,_,_,_,_,_,_,_,_,_,_,_,_,_,_,rfl⟩)
include hW in
theorem Am(il sl:List D):∀(f:Nat) (L:List D) {s:PS},s.i<W.length->1<=f->(s.e=0->W.length<s.i+f)->(s.e=0->L.length<=s.i)->L.length<=100000->(∀y∈L,y.width=12)->
  RQ (.at_ 16 0 (fw 319) ub [] (fO il sl L::qO b W s GJ))=
   some (if (eI W f L s).2.e≠0 then(.t [.d (EJ true [] true [] true []),vi (eI W f L s).2.e,vi (eI W f L s).2.a],[]) else(.t [.d (EJ il.isEmpty il sl.isEmpty sl (eI W f L s).1.isEmpty (eI W f L s).1),vi 0,vi 0],[]))
 |0,L,s,hs,hf,_,_,_,_=>by omega
 |f+1,L,s,hs,hf,hm,hl,hl2,hw=>by
  have hlen:=hW.len;have at255:∀(L:List D) (s:PS),RQ (.at_ 16 0 (fw 255) ub [] (fO il sl L::qO b W s GJ))=
    some (if s.e≠0 then(.t [.d (EJ true [] true [] true []),vi s.e,vi s.a],[]) else(.t [.d (EJ il.isEmpty il sl.isEmpty sl L.isEmpty L),vi 0,vi 0],[])):=by
   intro L s;rw[RQ];refine(L7 ..).trans ?_;refine(sR (j:=2) (n:=s.e) rfl).trans ?_;by_cases h:s.e=0
   ·rw[dN h,if_neg (λ x=>x h)];rfl
   ·rw[ep h,if_pos h];refine(sR (j:=2) (n:=s.e) rfl).trans ?_;refine(sR (j:=3) (n:=s.a) rfl).trans ?_;rfl
  have fail:∀(c:Int) {s:PS},s.i<W.length->RQ (.call 40 [.p 1 0,vi c] (qO b W s GJ))=some (.t [],qO b W (dA W c s) GJ):=λ c s hs=>sV (jr hs c) GJ rfl rfl (by decide) (by decide) (by decide);have go:s.e=0->(bD W s).kind≠6->¬(L.length=30/\sn W s=true)->RQ (.at_ 16 0 (fw 12863) (Rp false) [] (fO il sl L::qO b W s GJ))=
    some (if (eI W (f+1) L s).2.e≠0 then(.t [.d (EJ true [] true [] true []),vi (eI W (f+1) L s).2.e,vi (eI W (f+1) L s).2.a],[]) else(.t [.d (EJ il.isEmpty il sl.isEmpty sl (eI W (f+1) L s).1.isEmpty (eI W (f+1) L s).1),vi 0,vi 0],[])):=by
   intro he hk h3;have h0:=hm he;have h1:=hl he;have a:=B9 hW hs;rw[show eI W (f+1) L s=eI W f (L++[(iO W s).1]) (xg W s) by rw[eI,if_pos ⟨he,hk⟩,if_neg h3]];have hdef:=sV (U3 (b:=b) hW hs) GJ rfl rfl (by decide) (by decide) (by decide);obtain⟨kd,nm,ty,ck,cn,cu,cs,cb,cl,fb,fl,mb,ml,ex,tb,tl,e⟩:=K0 (W:=W) s;have ih:=Am il sl f (L++[(iO W s).1]) a.lt (by omega) (λ x=>by have:=a.ad x;omega) (λ x=>by have:=a.ad x;simp;omega) (by simp;omega) (Iu hw (by rw[e];rfl));rw[e]at hdef ih⊢;have next:∀t:PS,t=xg W s->RQ (.at_ 16 0 (fw 31295) Rd [] (.cells (nY kd nm ty ck cn cu cs cb cl fb fl mb ml ex tb tl) []::fO il sl L::qO b W t GJ))=RQ (.at_ 16 0 (fw 319) ub [] (fO il sl (L++[dD kd nm ty ck cn cu cs cb cl fb fl mb ml ex tb tl])::qO b W (xg W s) GJ)):=by intro t ht;rw[ht,RQ];refine(FF ..).trans ?_;refine(qm (Ty hw)).trans ?_;refine(qm (show (L.isEmpty||dK [dD kd nm ty ck cn cu cs cb cl fb fl mb ml ex tb tl])=true by rw[show dK [dD kd nm ty ck cn cu cs cb cl fb fl mb ml ex tb tl]=true from rfl,Bool.or_true])).trans ?_;refine(aJ (by omega)).trans ?_;rw[show (L.isEmpty&&false)=(L++[dD kd nm ty ck cn cu cs cb cl fb fl mb ml ex tb tl]).isEmpty by rw[Jw,Bool.and_false]];exact dc
   rw[RQ];refine(vL ..).trans ?_;refine bo.trans ?_;refine(Vz hdef rfl rfl rfl).trans ?_;refine aN.trans ?_;have hd:=Nt hW hs
   cases hx:(iO W s).2.1 with
   |true=>
    rw[jF];exact dc.trans ((next _ (by rw[xg,if_pos hx])).trans ih)
   |false=>
    rw[iI];refine(Iw (fail 2 hd.1.lt) rfl rfl).trans ?_;exact dc.trans ((next _ (by rw[xg,if_neg (by rw[hx];decide)])).trans ih)
  have at3135:∀w:Bool,w=decide (s.e=0/\(bD W s).kind≠6)->RQ (.at_ 16 0 (fw 3135) (Ro w) [] (fO il sl L::qO b W s GJ))=
    some (if (eI W (f+1) L s).2.e≠0 then(.t [.d (EJ true [] true [] true []),vi (eI W (f+1) L s).2.e,vi (eI W (f+1) L s).2.a],[]) else(.t [.d (EJ il.isEmpty il sl.isEmpty sl (eI W (f+1) L s).1.isEmpty (eI W (f+1) L s).1),vi 0,vi 0],[])):=by
   intro w hw';rw[RQ];refine(Ic ..).trans ?_;rw[hw'];by_cases h:s.e=0/\(bD W s).kind≠6
   ·rw[bz h];by_cases h30:L.length=30
    ·rw[bK];refine(Da (sV (S9 hW hs) GJ rfl rfl (by decide) (by decide) (by decide)) rfl rfl).trans ?_;refine dc.trans ?_
     cases hb:sn W s with
     |true=>
      rw[show eI W (f+1) L s=(L,dA W 4 s) by rw[eI,if_pos h,if_pos ⟨h30,hb⟩],RQ];refine(vL ..).trans ?_;refine bF.trans ?_;refine(Iw (fail 4 hs) rfl rfl).trans ?_;exact dc.trans (at255 L _)
     |false=>exact go h.1 h.2 (λ x=>by rw[hb]at x;cases x.2)
    ·rw[bu];exact dc.trans (go h.1 h.2 λ x=>h30 x.1)
   ·rw[bn h,show eI W (f+1) L s=(L,s) by rw[eI,if_neg h]]
    exact dc.trans (at255 L s)
  rw[RQ];refine(L8 ..).trans ?_;refine(sR (j:=2) (n:=s.e) rfl).trans ?_;by_cases he:s.e=0
  ·rw[bK he];refine(Vy (sV (jc hs) GJ rfl rfl (by decide) (by decide) (by decide)) rfl rfl rfl).trans ?_;refine bS.trans ?_;refine dc.trans ?_;refine at3135 _ ?_;by_cases hk:(bD W s).kind=6
   ·rw[show (((bD W s).kind:Int) != 6)=false by rw[hk];rfl,decide_eq_false (λ x=>x.2 hk)]
   ·rw[show (((bD W s).kind:Int) != 6)=true from bne_iff_ne.2 (by omega),decide_eq_true ⟨he,hk⟩]
  ·rw[bu he];exact dc.trans (at3135 false (decide_eq_false λ x=>he x.1).symm)
end
def jx(s:mP):D×Int×Int:=
 if (lexB s).2.1≠0 then(EJ true [] true [] true [],(lexB s).2.1,(lexB s).2.2)else pv (lexB s).1
theorem JD{s:mP}(h:(lexB s).2.1=0):Wds (lexB s).1:=by
 rcases EY s with⟨W,e,h1,h2⟩|⟨e,w,h1,h2⟩
 ·have hl:=EX s;rw[h1]at hl⊢;simp only at hl⊢;refine⟨by simp,hl,λ i hi hk=>?_,λ t ht=>?_⟩
  ·rcases Nat.lt_or_ge i W.length with h|h
   ·simp;omega
   ·exfalso;have:i=W.length:=by simp at hi;omega
    subst this;apply hk;simp
  ·rcases List.mem_append.1 ht with h|h
   ·exact(h2 t h).2
   ·rw[List.mem_singleton.1 h];exact Nat.zero_le _
 ·rw[h1]at h;exact absurd h h2
theorem CS(s:mP):RQ (.call 16 [vs s] [])=some (.t [.d (jx s).1,vi (jx s).2.1,vi (jx s).2.2],[]):=by
 have hl:=W6 s;unfold lQ at hl;rw[RQ,Xx];refine(Ix hl).trans ?_;unfold jx;by_cases h:(lexB s).2.1=0
 ·rw[dN h,if_neg (λ x=>x h)];have hW:=JD h;generalize (lexB s).1=W at hW⊢;have h0:(s0).i<W.length:=hW.pos;have hh:=ue (b:=W.isEmpty) hW GJ [] (W.length+2) [] [] h0 (by omega) (λ _=>by omega) (by simp) (by simp) (λ _ h=>by cases h) (λ _ h=>by cases h);have hm:=sD hW (W.length+2) [] [] h0;have hd:=Am (b:=W.isEmpty) hW (iz W).1.1 (iz W).1.2 (W.length+2) [] hm.lt (by omega) (λ _=>by omega) (λ _=>by simp) (by simp) (λ _ h=>by cases h);have h37:RQ (.call 37 [.p 1 0,.p 2 0] (fO [] [] []::qO W.isEmpty W s0 GJ))=some (.t [],fO (iz W).1.1 (iz W).1.2 []::qO W.isEmpty W (iz W).2 GJ):=by rw[RQ];refine(Xz ..).trans ?_;exact dc.trans hh
  refine(cp h37).trans ?_;show aC RQ (aH true (aH ((Ve:Fl)==Ve) (aH true (aH true (aH true (aH true (aH true (.call (.at_ 16 0 (fw 319) ub [] (fO (iz W).1.1 (iz W).1.2 []::qO W.isEmpty W (iz W).2 GJ)) .ret))))))))=_;rw[aN,show ((Ve:Fl)==Ve)=true from rfl,aN,aN,aN,aN,aN,aN];refine dc.trans (hd.trans ?_);unfold pv;show some (if (mj W).2.e≠0 then _ else _)=_;split<;>rfl
 ·rw[ep h,if_pos h];rfl
structure Wdn (W:List Tok):Prop extends Wds W where
 int:∀t∈W,I8 t.n
 dbl:∀t∈W,t.d<2^64
theorem Q1{s:mP}(h:(lexB s).2.1=0):Wdn (lexB s).1:=by
 have hw:=JD h;rcases EY s with⟨W,e,h1,h2⟩|⟨e,w,h1,h2⟩
 ·rw[h1]at hw⊢;have z:I8 0:=⟨by decide,by decide⟩
  have key:∀t∈W++[(⟨6,[],0,0,e⟩:Tok)],I8 t.n/\t.d<2^64:=by
   intro t ht;rcases List.mem_append.1 ht with ht|ht
   ·rcases(h2 t ht).1 with⟨w,a,rfl,_⟩|⟨n,a,rfl,h3,h4⟩|⟨d,a,rfl,h3⟩|⟨q,a,rfl,_⟩|⟨c,a,rfl,_⟩
    ·exact⟨z,Nat.pow_pos (by decide)⟩
    ·exact⟨⟨h3,h4⟩,Nat.pow_pos (by decide)⟩
    ·exact⟨z,h3.1⟩
    ·exact⟨z,Nat.pow_pos (by decide)⟩
    ·exact⟨z,Nat.pow_pos (by decide)⟩
   ·rw[List.mem_singleton.1 ht];exact⟨z,Nat.pow_pos (by decide)⟩
  exact⟨hw,λ t ht=>(key t ht).1,λ t ht=>(key t ht).2⟩
 ·rw[h1]at h;exact absurd h h2
section
variable {W : List Tok} {s : PS}
theorem kF{ok:mP->Bool}(h:(bO W ok s).2.e=0):s.e=0/\(bD W s).kind=1/\ok (bD W s).text=true/\bO W ok s=((bD W s).text,bp s):=by
 unfold bO at h⊢;split at h
 ·rename_i hc;rw[if_pos hc];exact⟨hc.1,hc.2.1,hc.2.2,rfl⟩
 ·exact absurd h (iy 2 (by decide))
def Ln(s s':PS)(n:Nat):Prop:=n+3000*s.i<=3000*s'.i
end
section
variable {W : List Tok} (hW : Wdn W)
include hW in
theorem wB(s:PS):I8 (bD W s).n:=by
 unfold bD;rw[List.getD_eq_getElem?_getD]
 cases h:W[s.i]? with
 |none=>exact⟨by decide,by decide⟩
 |some t=>exact hW.int t (List.mem_of_getElem? h)
include hW in
theorem Rc(s:PS):(bD W s).d<2^64:=by
 unfold bD;rw[List.getD_eq_getElem?_getD]
 cases h:W[s.i]? with
 |none=>exact Nat.pow_pos (by decide)
 |some t=>exact hW.dbl t (List.mem_of_getElem? h)
include hW in
theorem Ks{sub:PS->Option (mP×PS)}(hsub:∀s x,s.i<W.length->sub s=some x->Ad W s x.2/\(x.2.e=0->Ln s x.2 (x.1.length+10))){s:PS}(hs:s.i<W.length)(h:(kH W sub s).2.e=0):Ln s (kH W sub s).2 ((kH W sub s).1.length+10):=by
 unfold kH at h⊢;split at h;rotate_left
 ·exact absurd h (iy 2 (by decide))
 rename_i h1;rw[if_pos h1];have hn:=bX hW.toWds hs (by rw[h1.2];decide);have ht:=ju hW.toWds hs;have nx:(bp s).i=s.i+1:=rfl;split at h
 ·rename_i h2;rw[if_pos h2];simp only[Ln,nx,List.length_cons,List.length_nil];omega
 rename_i h2;rw[if_neg h2];split at h
 ·rename_i h3;rw[if_pos h3];rw[(kF h).2.2.2];simp only[Ln,nx];omega
 rename_i h3;rw[if_neg h3];split at h;rotate_left
 ·rename_i h4;rw[if_neg h4];simp only[Ln,nx];omega
 rename_i h4;rw[if_pos h4];have h5:=hn.mv (bY hW.toWds [60] hn.lt).toMv;split at h
 ·exact absurd h (iy 6 (by decide))
 rename_i x hx;obtain⟨x1,x2⟩:=hsub _ _ h5.lt hx;split at h
 ·rename_i h6;rw[if_pos h6];have h7:=x1.mv (bY hW.toWds [44] x1.lt).toMv;split at h
  ·exact absurd h (iy 6 (by decide))
  rename_i y hy;dsimp only at h⊢;obtain⟨y1,y2⟩:=hsub _ _ h7.lt hy;have e1:=(bY hW.toWds [62] y1.lt).e h;have e2:=x2 ((bY hW.toWds [44] x1.lt).e (y1.e e1));have e3:=y2 e1;have l1:=h5.le;have l2:=(bY hW.toWds [44] x1.lt).le;have l3:=(bY hW.toWds [62] y1.lt).ad h;have l4:=qa (k:=13) (x:=x.1) (y:=y.1);simp only[Ln]at e2 e3⊢;omega
 ·rename_i h6;rw[if_neg h6];dsimp only at h⊢;have e2:=x2 ((bY hW.toWds [62] x1.lt).e h);have l1:=h5.le;have l3:=(bY hW.toWds [62] x1.lt).ad h;have l4:=qa (k:=gf (bD W s).text) (x:=x.1) (y:=[]);simp only[Ln,List.length_nil]at e2 l4⊢;omega
include hW in
theorem za:∀(n:Nat) {s:PS},s.i<W.length->(gC W n s).2.e=0->Ln s (gC W n s).2 ((gC W n s).1.length+10)
 |0,s,hs,h=>Ks hW (λ _ _ _ h=>by cases h) hs h
 |n+1,s,hs,h=>Ks hW (λ s x hs h=>by injection h with h;subst h;exact⟨iB hW.toWds n hs,za n hs⟩) hs h
theorem PO{sub:PS->Option (mP×PS)}{s:PS}(h:rO W s=false):(kH W sub s).2.e≠0:=by
 unfold rO at h;have h:=of_decide_eq_false h;unfold kH;split
 ·rename_i h1;split
  ·rename_i h2;exact absurd ⟨h1.2,.inr (.inl h2)⟩ h
  ·split
   ·intro e;have:=kF e;exact h ⟨h1.2,.inr (.inr this.2.2.1)⟩
   ·rename_i h3;exact absurd ⟨h1.2,.inl h3⟩ h
 ·exact iy 2 (by decide)
theorem Kt{n:Nat}{s:PS}(h:rO W s=false):(gC W n s).2.e≠0:=by cases n<;>exact PO h
end
def IL(l:List mP):Nat:=(l.map λ y=>y.length+10).sum
theorem y3(l:List mP)(x:mP):IL (l++[x])=IL l+(x.length+10):=by simp[IL]
theorem r6:∀l:List mP,(Lib.join l [44,32]).length<=IL l
 | []=>Nat.zero_le _
 |x::r=>by
  have:∀r:List mP,(Lib.joinTail [44,32] r).length<=IL r:=by
   intro r
   induction r with
   |nil=>simp[Lib.joinTail]
   |cons y r ih=>
    simp only[Lib.joinTail,List.flatMap_cons,List.length_append,IL,List.map_cons,List.sum_cons]at ih⊢;simp at ih⊢;omega
  have h:=this r;rw[Lib.join_cons,List.length_append];simp only[IL,List.map_cons,List.sum_cons]at h⊢;omega
theorem Bg:∀l:List mP,IL (cA l)<=IL l
 | []=>Nat.le_refl _
 | [x]=>Nat.zero_le _
 |x::y::r=>by
  have h:=Bg r;simp only[cA,IL,List.map_cons,List.sum_cons,List.length_append,List.length_cons,List.length_nil]at h⊢;omega
section
variable {W : List Tok} (hW : Wdn W)
theorem WY{n u:Int}{t:mP}{l:List D}:eA (Cs.D ⟨1,n,u,t,l⟩)=cZ n:=by simp[Cs.D,eA]
theorem WZ{n u:Int}{t:mP}{l:List D}:eA (Cs.D ⟨2,n,u,t,l⟩)=fY u.toNat:=by simp[Cs.D,eA]
theorem W0{n u:Int}{t:mP}{l:List D}:eA (Cs.D ⟨3,n,u,t,l⟩)=ia t:=by simp[Cs.D,eA]
theorem W1{n u:Int}{t:mP}{l:List D}:eA (Cs.D ⟨4,n,u,t,l⟩)=t:=by simp[Cs.D,eA]
theorem W2{n u:Int}{t:mP}{l:List D}:eA (Cs.D ⟨5,n,u,t,l⟩)=[91]++Lib.join (l.map eA) [44,32]++[93]:=by simp[Cs.D,eA,ir]
theorem W3{n u:Int}{t:mP}{l:List D}:eA (Cs.D ⟨6,n,u,t,l⟩)=[123]++Lib.join (cA (l.map eA)) [44,32]++[125]:=by simp[Cs.D,eA,ir]
def Cg(d:Nat)(s s':PS)(c:Cs):Prop:=WC d c.D/\c.k≠0/\Ln s s' ((eA c.D).length+10)
theorem Cs.kn{c:Cs}(h:c.k≠0):Kn c.D:=h
include hW in
theorem CA{cst:PS->Cs×PS}{d:Nat}(hc:∀s,s.i<W.length->Mv W s (cst s).2)(hg:∀s,s.i<W.length->s.e=0->(cst s).2.e=0->Cg d s (cst s).2 (cst s).1)(hb:∀s,s.e=0->vY W s=false->(cst s).2.e≠0)(mp:Bool):∀(f n:Nat) (L:List D) {s:PS},s.i<W.length->n<=40->L.length=(if mp=true then 2*n else n)->(∀y∈L,WC d y/\Kn y)->(dS W cst mp f n L s).2.e=0->
  (∀y∈(dS W cst mp f n L s).1,WC d y/\Kn y)/\(dS W cst mp f n L s).1.length<=80/\(mp=true->(dS W cst mp f n L s).1.length%2=0)/\IL ((dS W cst mp f n L s).1.map eA)+3000*s.i<=IL (L.map eA)+3000*(dS W cst mp f n L s).2.i
 |0,n,L,s,hs,hn,hl,hy,he=>⟨hy,by simp only[dS];split at hl<;>omega,λ h=>by simp only[dS];rw[if_pos h]at hl;omega,by simp only[dS];omega⟩
 |f+1,n,L,s,hs,hn,hl,hy,he=>by
  unfold dS at he⊢;by_cases h1:s.e=0/\¬gK W (kD mp) s;rotate_left
  ·rw[if_neg h1]at he⊢;exact⟨hy,by simp only;split at hl<;>omega,λ h=>by simp only;rw[if_pos h]at hl;omega,by simp only;omega⟩
  rw[if_pos h1]at he⊢;by_cases h2:n=40/\vY W s=true
  ·rw[if_pos h2]at he;exact absurd he (iy 4 (by decide))
  rw[if_neg h2]at he⊢;have m1:=hc s hs;have hlt:(cst s).2.e=0->n<40:=by
   intro e;rcases Nat.lt_or_ge n 40 with h|h
   ·exact h
   ·exfalso
    cases hbg:vY W s with
    |true=>exact h2 ⟨by omega,hbg⟩
    |false=>exact hb s h1.1 hbg e
  cases mp with
  |true=>
   rw[if_pos rfl]at he hl⊢;have m2:=bY hW.toWds [58] m1.lt;have m3:=hc _ m2.lt;have m4:=fA hW.toWds m3.lt;have em:=(kM hW.toWds hc true f (n+1) (L++[(cst s).1.D]++[(cst (cP W [58] (cst s).2)).1.D]) m4.lt).e he;have e3:=m4.e em;have e2:=m3.e e3;have e1:=m2.e e2;obtain⟨g1,g2,g3⟩:=hg s hs h1.1 e1;obtain⟨k1,k2,k3⟩:=hg _ m2.lt e2 e3;obtain⟨r1,r2,r3,r4⟩:=CA hc hg hb true f (n+1) (L++[(cst s).1.D]++[(cst (cP W [58] (cst s).2)).1.D]) m4.lt (by have:=hlt e1;omega) (by rw[if_pos rfl];simp;omega) (λ y h=>by
    rcases List.mem_append.1 h with h|h
    ·rcases List.mem_append.1 h with h|h
     ·exact hy y h
     ·rw[List.mem_singleton.1 h];exact⟨g1,Cs.kn g2⟩
    ·rw[List.mem_singleton.1 h];exact⟨k1,Cs.kn k2⟩) he
   refine⟨r1,r2,r3,?_⟩;rw[List.map_append,List.map_append,List.map_cons,List.map_nil,List.map_cons,List.map_nil,y3,y3]at r4;have l1:=m2.le;have l2:=m4.le;simp only[Ln]at g3 k3;omega
  |false=>
   rw[if_neg (by decide)]at he hl⊢;have m4:=fA hW.toWds m1.lt;have em:=(kM hW.toWds hc false f (n+1) (L++[(cst s).1.D]) m4.lt).e he;have e1:=m4.e em;obtain⟨g1,g2,g3⟩:=hg s hs h1.1 e1;obtain⟨r1,r2,r3,r4⟩:=CA hc hg hb false f (n+1) (L++[(cst s).1.D]) m4.lt (by have:=hlt e1;omega) (by rw[if_neg (by decide)];simp;omega) (λ y h=>by
    rcases List.mem_append.1 h with h|h
    ·exact hy y h
    ·rw[List.mem_singleton.1 h];exact⟨g1,Cs.kn g2⟩) he
   refine⟨r1,r2,r3,?_⟩;rw[List.map_append,List.map_cons,List.map_nil,y3]at r4;have l2:=m4.le;simp only[Ln]at g3;omega
theorem JA{k n u:Int}{t:mP}{d:Nat}(hn:I8 n)(hu:UO u)(ht:t.length<=2000)(hk:1<=k/\k<=5):WC (d+1) (Cs.D ⟨k,n,u,t,[]⟩):=
 ⟨k,n,u,t,true,[],rfl,hn,hu,ht,by simp,.inr (.inl hk),λ _ h=>by cases h⟩
theorem Qh:I8 0:=⟨by decide,by decide⟩
theorem I6:UO 0:=⟨by decide,by decide⟩
theorem GP{it:PS->Cs×PS}{s:PS}(he:s.e=0)(h:vY W s=false):(fW W it s).2.e≠0:=by
 unfold vY at h;unfold fW;rw[if_neg (λ x=>x he)];split at h
 ·cases h
 rename_i h1;rw[if_neg (λ x=>h1 (.inl x)),if_neg (λ x=>h1 (.inr (.inl x))),if_neg (λ x=>h1 (.inr (.inr x)))];split at h
 ·rename_i h2;rw[if_pos h2];rw[Bool.or_eq_false_iff]at h;rw[if_neg (of_decide_eq_false h.1)];intro e;have:=(kF e).2.2.1;rw[h.2]at this;cases this
 ·rename_i h2;rw[if_neg h2];have h3:=of_decide_eq_false h;rw[if_neg h3];exact iy 2 (by decide)
include hW in
theorem DQ{it:PS->Cs×PS}{d:Nat}(hit:∀s,s.i<W.length->s.e=0->(bD W s).kind≠6->(it s).2.e=0->Cg (d+1) s (it s).2 (it s).1){s:PS}(hs:s.i<W.length)(h0:s.e=0)(h:(fW W it s).2.e=0):Cg (d+1) s (fW W it s).2 (fW W it s).1:=by
 have ht:=ju hW.toWds hs;have nx:(bp s).i=s.i+1:=rfl;unfold fW at h⊢;rw[if_neg (λ x=>x h0)]at h⊢;by_cases h2:(bD W s).kind=2
 ·rw[if_pos h2];refine⟨JA (wB hW s) I6 (by simp) ⟨by decide,by decide⟩,by show (1:Int)≠0;decide,?_⟩;have:=jQ (wB hW s);simp only[Ln,nx,WY];omega
 rw[if_neg h2]at h⊢;by_cases h3:(bD W s).kind=3
 ·rw[if_pos h3];have hd:=Rc hW s;have hd':(2:Nat)^64=18446744073709551616:=by decide
  refine⟨JA Qh ⟨by omega,by omega⟩ (by simp) ⟨by decide,by decide⟩,by show (2:Int)≠0;decide,?_⟩;have:=uF _ hd;simp only[Ln,nx,WZ,Int.toNat_natCast];omega
 rw[if_neg h3]at h⊢;by_cases h4:(bD W s).kind=4
 ·rw[if_pos h4];refine⟨JA Qh I6 ht ⟨by decide,by decide⟩,by show (3:Int)≠0;decide,?_⟩;have:=uD (bD W s).text;simp only[Ln,nx,W0];omega
 rw[if_neg h4]at h⊢;have name:Cg (d+1) s (bp s) ⟨4,0,0,(bD W s).text,[]⟩:=by refine⟨JA Qh I6 ht ⟨by decide,by decide⟩,by show (4:Int)≠0;decide,?_⟩;simp only[Ln,nx,W1];omega
 by_cases h1:(bD W s).kind=1
 ·rw[if_pos h1]at h⊢;split at h
  ·rename_i h5;rw[if_pos h5];exact name
  ·rename_i h5;rw[if_neg h5];rw[(kF h).2.2.2];exact name
 rw[if_neg h1]at h⊢;by_cases h5:gK W [91] s\/gK W [123] s
 ·rw[if_pos h5]at h⊢;exact hit s hs h0 (by rcases h5 with h5|h5<;>exact cx h5 (by decide)) h
 ·rw[if_neg h5]at h;exact absurd h (iy 2 (by decide))
include hW in
theorem B7:∀(n:Nat) {s:PS},s.i<W.length->s.e=0->(jP W n s).2.e=0->Cg (n+1) s (jP W n s).2 (jP W n s).1
 |0,s,hs,h0,h=>DQ hW (d:=0) (λ s hs _ _ e=>absurd e (iy 6 (by decide))) hs h0 h
 |n+1,s,hs,h0,h=>DQ hW (d:=n+1) (λ s hs h0 hk e=>by
   have a1:=bX hW.toWds hs hk;have cm:∀s,s.i<W.length->Mv W s (jP W n s).2:=λ s hs=>(kc hW.toWds n hs).1;have em:=(kM hW.toWds cm (decide (gK W [123] s)) (W.length+2) 0 [] a1.lt)
   have e1:=(bY hW.toWds (kD (decide (gK W [123] s))) em.lt).e e;obtain⟨r1,r2,r3,r4⟩:=CA hW cm (λ s hs h0 e=>B7 n hs h0 e) (λ s h0 hb=>by cases n<;>exact GP h0 hb) (decide (gK W [123] s)) (W.length+2) 0 [] a1.lt (by omega) (by simp) (λ _ h=>by cases h) e1;have l1:=(bY hW.toWds (kD (decide (gK W [123] s))) em.lt).ad e;have nx:(bp s).i=s.i+1:=rfl;unfold iL;generalize dS W (jP W n) (decide (gK W [123] s)) (W.length+2) 0 [] (bp s)=R at *;have j1:=r6 (R.1.map eA);have j2:=r6 (cA (R.1.map eA));have j3:=Bg (R.1.map eA);have tn:IL (([]:List D).map eA)=0:=rfl;rw[tn]at r4;by_cases hp:gK W [123] s
   ·rw[if_pos hp];refine⟨⟨6,0,0,[],R.1.isEmpty,R.1,rfl,Qh,I6,by simp,by omega,.inr (.inr (r3 (decide_eq_true hp))),r1⟩,by show (6:Int)≠0;decide,?_⟩;simp only[Ln,W3,List.length_append,List.length_cons,List.length_nil];omega
   ·rw[if_neg hp];refine⟨⟨5,0,0,[],R.1.isEmpty,R.1,rfl,Qh,I6,by simp,by omega,.inr (.inl ⟨by decide,by decide⟩),r1⟩,by show (5:Int)≠0;decide,?_⟩;simp only[Ln,W2,List.length_append,List.length_cons,List.length_nil]
    omega) hs h0 h
end
def jL(m:D->Nat)(l:List D):Nat:=(l.map m).sum
theorem qb(m:D->Nat)(l:List D)(x:D):jL m (l++[x])=jL m l+m x:=by simp[jL]
theorem kX(f:D->mP)(m:D->Nat)(h:∀x,(f x).length<=m x):∀l:List D,(l.map f).flatten.length<=jL m l
 | []=>Nat.zero_le _
 |x::l=>by
  have:=kX f m h l;have:=h x;simp only[jL,List.map_cons,List.flatten_cons,List.length_append,List.sum_cons]at *;omega
abbrev mF(x:D):Nat:=(yu x).length+500
theorem FA(l:List D):(fC l).length<=jL mF l:=by
 have h1:=r6 (l.map yu);have h2:IL (l.map yu)<=jL mF l:=by
  clear h1
  induction l with
  |nil=>exact Nat.le_refl _
  |cons x l ih=>simp only[IL,jL,mF,List.map_cons,List.sum_cons]at ih⊢;omega
 unfold fC;omega
section
variable {W : List Tok} (hW : Wdn W)
theorem O7{P:D->Prop}{m:D->Nat}{en:mP}{beg:PS->Bool}{one:PS->D×PS}(hone:∀s,s.i<W.length->s.e=0->Ad W s (one s).2)
  (hg:∀s,s.i<W.length->s.e=0->(one s).2.e=0->P (one s).1/\m (one s).1+3000*s.i<=3000*(one s).2.i) (hb:∀s,s.i<W.length->s.e=0->beg s=false->(one s).2.e≠0):
  ∀(f:Nat) (L:List D) {s:PS},s.i<W.length->L.length<=30->(∀y∈L,P y)->(rK W en beg one f L s).2.e=0->
   (∀y∈(rK W en beg one f L s).1,P y)/\(rK W en beg one f L s).1.length<=30/\jL m (rK W en beg one f L s).1+3000*s.i<=jL m L+3000*(rK W en beg one f L s).2.i
 |0,L,s,hs,hl,hy,he=>⟨hy,hl,Nat.le_refl _⟩
 |f+1,L,s,hs,hl,hy,he=>by
  unfold rK at he⊢;by_cases h:s.e=0/\¬gK W en s
  ·rw[if_pos h]at he⊢;by_cases h2:L.length=30/\beg s=true
   ·rw[if_pos h2]at he;exact absurd he (iy 4 (by decide))
   ·rw[if_neg h2]at he⊢;have a:=hone s hs h.1;have e1:=(wI (en:=en) (beg:=beg) hone f (L++[(one s).1]) a.lt).e he;obtain⟨g1,g2⟩:=hg s hs h.1 e1;have hlt:L.length<30:=by
     rcases Nat.lt_or_ge L.length 30 with h3|h3
     ·exact h3
     ·exfalso
      cases hbg:beg s with
      |true=>exact h2 ⟨by omega,hbg⟩
      |false=>exact hb s hs h.1 hbg e1
    obtain⟨r1,r2,r3⟩:=O7 hone hg hb f (L++[(one s).1]) a.lt (by simp;omega) (λ y h=>by
     rcases List.mem_append.1 h with h|h
     ·exact hy y h
     ·rw[List.mem_singleton.1 h];exact g1) he
    refine⟨r1,r2,?_⟩;rw[qb]at r3;omega
  ·rw[if_neg h]at he⊢;exact⟨hy,hl,Nat.le_refl _⟩
include hW in
theorem Ik{P:D->Prop}{m:D->Nat}{en:mP}{beg:PS->Bool}{one:PS->D×PS}(hone:∀s,s.i<W.length->s.e=0->Ad W s (one s).2)
  (hg:∀s,s.i<W.length->s.e=0->(one s).2.e=0->P (one s).1/\m (one s).1+3000*s.i<=3000*(one s).2.i) (hb:∀s,s.i<W.length->s.e=0->beg s=false->(one s).2.e≠0)
  {s:PS} (hs:s.i<W.length) (he:(zP W en beg one s).2.e=0):
  (∀y∈(zP W en beg one s).1,P y)/\(zP W en beg one s).1.length<=30/\jL m (zP W en beg one s).1+3000*s.i<=3000*(zP W en beg one s).2.i:=by
 unfold zP at he⊢;have mv:=wI (en:=en) (beg:=beg) hone (W.length+2) [] hs;have nd:=bY hW.toWds en mv.lt;obtain⟨r1,r2,r3⟩:=O7 hone hg hb (W.length+2) [] hs (by simp) (λ _ h=>by cases h) (nd.e he);refine⟨r1,r2,?_⟩;have:=nd.le;have z:jL m []=0:=rfl;simp only;omega
include hW in
theorem Tt{s:PS}(hs:s.i<W.length)(he:(mE W s).2.e=0):WC 13 (mE W s).1.D/\(gK W [61] s->(mE W s).1.k≠0)/\(gK W [61] s->(eA (mE W s).1.D).length+10+3000*s.i<=3000*(mE W s).2.i)/\s.i<=(mE W s).2.i:=by
 have mv:=(wq hW.toWds hs).le;unfold mE at he mv⊢;by_cases h:gK W [61] s
 ·rw[if_pos h]at he mv⊢;have a:=bX hW.toWds hs (cx h (by decide));obtain⟨g1,g2,g3⟩:=B7 hW 12 a.lt (by show s.e=0;exact h.1) he;refine⟨g1,λ _=>g2,λ _=>?_,mv⟩;have nx:(bp s).i=s.i+1:=rfl;simp only[Ln,nx]at g3;omega
 ·rw[if_neg h]at he mv⊢;exact⟨⟨0,0,0,[],true,[],rfl,Qh,I6,by simp,by simp,.inl rfl,λ _ h=>by cases h⟩,λ x=>absurd x h,λ x=>absurd x h,mv⟩
theorem CU{h:Bool}{id r:Int}{t nm:mP}{hi:Bool}{c:Cs}:yu (fD h id r t nm hi c.k c.n c.u c.s c.l.isEmpty c.l)=(if h=true then cZ id++[58,32]else [])++(if r=1 then [114,101,113,117,105,114,101,100,32]else if r=2 then [111,112,116,105,111,110,97,108,32]else [])
      ++ t++[32]++nm++(if hi=true then [32,61,32]++eA c.D else []):=rfl
include hW in
theorem QP{s:PS}(hs:s.i<W.length)(he:(gi W s).2.e=0):WF (gi W s).1/\mF (gi W s).1+3000*s.i<=3000*(gi W s).2.i:=by
 unfold gi at he⊢;dsimp only at he⊢;have h1:=Cr hW.toWds hs;have h2:=Ct hW.toWds h1.lt;have h3:=iB hW.toWds 12 h2.lt;have h4:=cy hW.toWds aZ h3.lt;have h5:=wq hW.toWds h4.lt;have h6:=fA hW.toWds h5.lt;have e5:=h6.e he;have e4:=h5.e e5;have e3:=h4.e e4;have g1:=za hW 12 h2.lt e3;have ts:=mY hW.toWds (n:=12) (by decide) h2.lt;obtain⟨n1,n2,n3,n4⟩:=kF e4;have nl:=pf hW.toWds aZ h3.lt;obtain⟨c1,c2,c3,c4⟩:=Tt hW h4.lt e5;have ni:(bO W aZ (gC W 12 (zE W (qi W s))).2).2.i=(gC W 12 (zE W (qi W s))).2.i+1:=by rw[n4];rfl
 have l1:=h1.le;have l2:=h2.le;have l6:=h6.le;have hid:I8 (if (bD W s).kind=2 then(bD W s).n else 0):=by split;exact wB hW s;exact Qh
 generalize (gC W 12 (zE W (qi W s)))=T at *;generalize bO W aZ T.2=M at *;refine⟨⟨_,_,_,_,_,_,_,_,_,_,_,_,rfl,hid,ts,nl,λ h=>c2 (of_decide_eq_true h),c1.le (by decide)⟩,?_⟩;rw[mF,CU];simp only[List.length_append,List.length_cons,List.length_nil,Ln]at g1⊢;have i1:(if decide ((bD W s).kind=2)=true then cZ (if (bD W s).kind=2 then(bD W s).n else 0)++[58,32]else []).length<=102:=by
  have:=jQ hid;split
  ·simp only[List.length_append,List.length_cons,List.length_nil];omega
  ·simp
 have i2:(if NV W (qi W s)=1 then([114,101,113,117,105,114,101,100,32]:mP)else if NV W (qi W s)=2 then [111,112,116,105,111,110,97,108,32]else []).length<=9:=by
  repeat' split
  all_goals simp
 have i3:(if decide (gK W [61] M.2)=true then [32,61,32]++eA (mE W M.2).1.D else []).length+3000*M.2.i<=3+3000*(mE W M.2).2.i:=by
  split
  ·rename_i h;have:=c3 (of_decide_eq_true h);simp only[List.length_append,List.length_cons,List.length_nil];omega
  ·simp only[List.length_nil];omega
 omega
include hW in
theorem Lm{s:PS}(hs:s.i<W.length)(h:wY W s=false):(gi W s).2.e≠0:=by
 unfold wY at h;rw[Bool.or_eq_false_iff]at h;have h0:=of_decide_eq_false h.1;have f1:qi W s=s:=by unfold qi;rw[if_neg (λ x=>h0 (.inl x))]
 have f2:zE W s=s:=by unfold zE cS;rw[if_neg (λ x=>h0 (.inr (.inl x))),if_neg (λ x=>h0 (.inr (.inr x)))]
 have ht:=Kt (n:=12) h.2;unfold gi;dsimp only;rw[f1,f2];have h3:=iB hW.toWds 12 hs;have h4:=cy hW.toWds aZ h3.lt;have h5:=wq hW.toWds h4.lt;have h6:=fA hW.toWds h5.lt;exact λ e=>ht (h4.e (h5.e (h6.e e)))
include hW in
theorem xJ(en:mP){s:PS}(hs:s.i<W.length)(he:(dF W en s).2.e=0):
  (∀y∈(dF W en s).1,WF y)/\(dF W en s).1.length<=30/\jL mF (dF W en s).1+3000*s.i<=3000*(dF W en s).2.i:=
 Ik hW (λ s hs _=>xI hW.toWds hs) (λ s hs _ e=>QP hW hs e) (λ s hs _ e=>Lm hW hs e) hs he
abbrev mM(x:D):Nat:=(uB x).length
include hW in
theorem Om{s:PS}(hs:s.i<W.length)(he:(eX W s).2.e=0):WM (eX W s).1/\mM (eX W s).1+3000*s.i<=3000*(eX W s).2.i:=by
 unfold eX at he⊢;dsimp only at he⊢;have h1:=cy hW.toWds aZ hs;have h2:=CG hW.toWds h1.lt;have h3:=fA hW.toWds h2.lt;have e1:=h2.e (h3.e he);obtain⟨n1,n2,n3,n4⟩:=kF e1;have nl:=pf hW.toWds aZ hs;have ni:(bO W aZ s).2.i=s.i+1:=by rw[n4];rfl
 have l2:=h2.le;have l3:=h3.le;have hn:I8 (E2 W (bO W aZ s).2).2.1:=by
  unfold E2;split
  ·split
   ·exact wB hW _
   ·exact Qh
  ·exact Qh
 have hd:=jQ hn;refine⟨⟨_,_,_,rfl,nl,hn⟩,?_⟩;simp only[mM,mD,uB,List.length_append,List.length_cons,List.length_nil];have i1:(if (E2 W (bO W aZ s).2).1=true then [32,61,32]++cZ (E2 W (bO W aZ s).2).2.1 else []).length<=103:=by
  split
  ·simp only[List.length_append,List.length_cons,List.length_nil];omega
  ·simp
 omega
include hW in
theorem HO{s:PS}(hs:s.i<W.length)(h0:s.e=0)(h:DF W s=false):(eX W s).2.e≠0:=by unfold eX;dsimp only;have h1:=cy hW.toWds aZ hs;have h2:=CG hW.toWds h1.lt;have h3:=fA hW.toWds h2.lt;intro e;have:=kF (h2.e (h3.e e));exact of_decide_eq_false h ⟨this.2.1,this.2.2.1⟩
include hW in
theorem LJ{s:PS}(hs:s.i<W.length)(he:(gF W s).2.e=0):
  (∀y∈(gF W s).1,WM y)/\(gF W s).1.length<=30/\jL mM (gF W s).1+3000*s.i<=3000*(gF W s).2.i:=
 Ik hW (λ s hs _=>um hW.toWds hs) (λ s hs _ e=>Om hW hs e) (λ s hs h0 e=>HO hW hs h0 e) hs he
abbrev Vl(x:D):Nat:=(jh x).length
include hW in
theorem Um{s:PS}(hs:s.i<W.length)(he:(lu W s).2.e=0):
  (∀y∈(lu W s).1,WF y)/\(lu W s).1.length<=30/\jL mF (lu W s).1+3000*s.i<=3000*(lu W s).2.i:=by
 unfold lu at he⊢;split
 ·rename_i h;rw[if_pos h]at he;have a:=bX hW.toWds hs (cx h (by decide));have a2:=bY hW.toWds [40] a.lt;obtain⟨r1,r2,r3⟩:=xJ hW [41] a2.lt he;have:=a.le;have:=a2.le;exact⟨r1,r2,by omega⟩
 ·exact⟨λ _ h=>(by cases h),Nat.zero_le _,by simp[jL]⟩
include hW in
theorem On{s:PS}(hs:s.i<W.length)(he:(eY W s).2.e=0):KG (eY W s).1/\Vl (eY W s).1+3000*s.i<=3000*(eY W s).2.i:=by
 unfold eY at he⊢;dsimp only at he⊢;have h1:=te hW.toWds 1 eG (by decide) hs;have h2:=Ig hW.toWds h1.lt;have h3:=cy hW.toWds aZ h2.lt;have h4:=bY hW.toWds [40] h3.lt;have h5:=iX hW.toWds [41] h4.lt;have h6:=Dc hW.toWds h5.lt;have h7:=fA hW.toWds h6.lt;have e6:=h7.e he;have e5:=h6.e e6;have e3:=h4.e (h5.e e5);have e2:=h3.e e3;obtain⟨n1,n2,n3,n4⟩:=kF e3;have nl:=pf hW.toWds aZ h2.lt;have ni:(bO W aZ (lH W (cS W 1 eG s)).2).2.i=(lH W (cS W 1 eG s)).2.i+1:=by rw[n4];rfl
 have rg:(lH W (cS W 1 eG s)).1.length+10+3000*(cS W 1 eG s).i<=3000*(lH W (cS W 1 eG s)).2.i/\(lH W (cS W 1 eG s)).1.length<=100000000:=by
  unfold lH at e2⊢;split
  ·simp only[bp,List.length_cons,List.length_nil];omega
  ·rename_i h;rw[if_neg h]at e2;exact⟨za hW 12 h1.lt e2,mY hW.toWds (by decide) h1.lt⟩
 obtain⟨a1,a2,a3⟩:=xJ hW [41] h4.lt e5;obtain⟨t1,t2,t3⟩:=Um hW h5.lt e6;have l1:=h1.le;have l4:=h4.le;have l7:=h7.le;refine⟨⟨_,_,_,_,_,_,_,rfl,nl,rg.2,by omega,by omega,a1,t1⟩,?_⟩;have k1:=FA (dF W [41] (cP W [40] (bO W aZ (lH W (cS W 1 eG s)).2).2)).1;have k2:=FA (lu W (dF W [41] (cP W [40] (bO W aZ (lH W (cS W 1 eG s)).2).2)).2).1;generalize lu W (dF W [41] (cP W [40] (bO W aZ (lH W (cS W 1 eG s)).2).2)).2=TT at *;generalize dF W [41] (cP W [40] (bO W aZ (lH W (cS W 1 eG s)).2).2)=AA at *;generalize bO W aZ (lH W (cS W 1 eG s)).2=MM at *;generalize lH W (cS W 1 eG s)=RR at *;have i1:(if decide (cj W eG s)=true then([111,110,101,119,97,121,32]:mP)else []).length<=7:=by split<;>simp
 have i2:(if TT.1=[] then([]:mP)else [32,116,104,114,111,119,115,32,40]++fC TT.1++[41]).length<=jL mF TT.1+10:=by
  split
  ·simp
  ·simp only[List.length_append,List.length_cons,List.length_nil];omega
 simp only[Vl,TN,jh,List.length_append,List.length_cons,List.length_nil];omega
include hW in
theorem HP{s:PS}(hs:s.i<W.length)(h0:s.e=0)(h:qp W s=false):(eY W s).2.e≠0:=by
 unfold qp at h;rw[Bool.or_eq_false_iff]at h;have hn:=of_decide_eq_false h.1;have f1:cS W 1 eG s=s:=by unfold cS;rw[if_neg (λ x=>hn (.inl x))]
 have f2:lH W s=gC W 12 s:=by unfold lH;rw[if_neg (λ x=>hn (.inr x))]
 have ht:=Kt (n:=12) h.2;unfold eY;dsimp only;rw[f1,f2];have h2:=iB hW.toWds 12 hs;have h3:=cy hW.toWds aZ h2.lt;have h4:=bY hW.toWds [40] h3.lt;have h5:=iX hW.toWds [41] h4.lt;have h6:=Dc hW.toWds h5.lt;have h7:=fA hW.toWds h6.lt;exact λ e=>ht (h3.e (h4.e (h5.e (h6.e (h7.e e)))))
include hW in
theorem LL{s:PS}(hs:s.i<W.length)(he:(eU W s).2.e=0):
  (∀y∈(eU W s).1,KG y)/\(eU W s).1.length<=30/\jL Vl (eU W s).1+3000*s.i<=3000*(eU W s).2.i:=
 Ik hW (λ s hs _=>uo hW.toWds hs) (λ s hs _ e=>On hW hs e) (λ s hs h0 e=>HP hW hs h0 e) hs he
end
theorem V6:WC uY (cD 0 0 0 [] true []):=⟨0,0,0,[],true,[],rfl,Qh,I6,by simp,by simp,.inl rfl,λ _ h=>by cases h⟩
theorem rF{P:D->Prop}:∀y∈([]:List D),P y:=λ _ h=>by cases h
section
variable {W : List Tok} (hW : Wdn W)
def Dg(s:PS)(x:D×PS):Prop:=WD x.1/\(oE x.1).length+3000*s.i<=3000*x.2.i
theorem Rq(l:List D):(l.map wa).flatten.length<=jL mF l:=
 kX wa mF (λ x=>by simp only[wa,mF,List.length_append,List.length_cons,List.length_nil];omega) l
theorem Rr(l:List D):(l.map uB).flatten.length<=jL mM l:=kX uB mM (λ x=>Nat.le_refl _) l
theorem OU(l:List D):(l.map jh).flatten.length<=jL Vl l:=kX jh Vl (λ x=>Nat.le_refl _) l
include hW in
theorem pe{ok:mP->Bool}{s:PS}(hs:s.i<W.length)(he:(bO W ok s).2.e=0):(bO W ok s).1.length<=2000/\(bO W ok s).2.i=s.i+1:=by obtain⟨n1,n2,n3,n4⟩:=kF he;exact⟨pf hW.toWds ok hs,by rw[n4];rfl⟩
include hW in
theorem Pv(kd:Int)(hk:4<=kd/\kd<=6){s:PS}(hs:s.i<W.length)(he:(jG W kd s).2.e=0):Dg s (jG W kd s):=by
  unfold jG at he⊢;dsimp only at he⊢;have h1:=cy hW.toWds aZ hs;have h2:=bY hW.toWds [123] h1.lt;have h3:=iX hW.toWds [125] h2.lt;obtain⟨n1,n2⟩:=pe hW hs (h2.e (h3.e he));obtain⟨f1,f2,f3⟩:=xJ hW [125] h2.lt he;have l2:=h2.le;refine⟨⟨kd,_,_,_,_,_,_,_,_,_,_,_,_,_,_,_,rfl,by omega,by omega,n1,by simp,by omega,V6,by omega,f1,by simp,rF,by simp,by simp,rF,by omega,λ _=>⟨rfl,rfl,rfl⟩,by omega⟩,?_⟩;have k:=Rq (dF W [125] (cP W [123] (bO W aZ s).2)).1;generalize dF W [125] (cP W [123] (bO W aZ s).2)=F at *;generalize bO W aZ s=M at *
  have kw : (HH kd).length ≤ 10 := by unfold HH; repeat' split
                                      all_goals simp
  simp only[dD,oE];rw[UM,UM,UM,UM];simp only[List.length_append,List.length_cons,List.length_nil];omega
include hW in
theorem Vb{s:PS}(hs:s.i<W.length)(he:(tV W s).2.e=0):(tV W s).1.length<=2000/\(tV W s).1.length+3000*s.i<=3000*(tV W s).2.i:=by
 unfold tV at he⊢;split
 ·rename_i h;rw[if_pos h]at he;have a:=bX hW.toWds hs (cx h (by decide));obtain⟨n1,n2⟩:=pe hW a.lt he;have:(bp s).i=s.i+1:=rfl;exact⟨n1,by omega⟩
 ·exact⟨Nat.zero_le _,by simp⟩
include hW in
theorem S8{s:PS}(hs:s.i<W.length){x:D×PS}(h:mB W s=some x)(he:x.2.e=0):Dg s x:=by
 have nx:∀{g:mP},cj W g s->Ad W s (bp s):=λ h=>bX hW.toWds hs (cx h (by decide));have ni:(bp s).i=s.i+1:=rfl;unfold mB at h;split at h
 ·rename_i h0;injection h with h;subst h
  have a1:=iB hW.toWds 12 (nx h0).lt;have a2:=cy hW.toWds aZ a1.lt;dsimp only at he⊢;obtain⟨n1,n2⟩:=pe hW a1.lt he;have t1:=za hW 12 (nx h0).lt (a2.e he);have t2:=mY hW.toWds (n:=12) (by decide) (nx h0).lt;simp only[Ln]at t1;refine⟨⟨1,_,_,_,_,_,_,_,_,_,_,_,_,_,_,_,rfl,by omega,by omega,n1,t2,by omega,V6,by simp,rF,by simp,rF,by simp,by simp,rF,by omega,by omega,by omega⟩,?_⟩;dsimp only;generalize bO W aZ (gC W 12 (bp s)).2=M at *;generalize gC W 12 (bp s)=T at *;simp only[dD,oE];rw[if_pos trivial];simp only[List.length_append,List.length_cons,List.length_nil];omega
 split at h
 ·rename_i h0;injection h with h;subst h
  have a1:=iB hW.toWds 12 (nx h0).lt;have a2:=cy hW.toWds aZ a1.lt;have a3:=bY hW.toWds [61] a2.lt;have a4:=(kc hW.toWds 12 a3.lt).1;dsimp only at he⊢;have e3:=a4.e he;have e2:=a3.e e3;obtain⟨n1,n2⟩:=pe hW a1.lt e2;have t1:=za hW 12 (nx h0).lt (a2.e e2);have t2:=mY hW.toWds (n:=12) (by decide) (nx h0).lt;obtain⟨c1,c2,c3⟩:=B7 hW 12 a3.lt e3 he;have l3:=a3.le;simp only[Ln]at t1 c3;refine⟨⟨3,_,_,_,_,_,_,_,_,_,_,_,_,_,_,_,rfl,by omega,by omega,n1,t2,λ _=>c2,c1.le (by decide),by simp,rF,by simp,rF,by simp,by simp,rF,by omega,by omega,by omega⟩,?_⟩;dsimp only;generalize jP W 12 (cP W [61] (bO W aZ (gC W 12 (bp s)).2).2)=C at *;generalize bO W aZ (gC W 12 (bp s)).2=M at *;generalize gC W 12 (bp s)=T at *;show (oE (dD 3 M.1 T.1 C.1.k C.1.n C.1.u C.1.s C.1.l.isEmpty C.1.l true [] true [] [] true [])).length+3000*s.i<=3000*C.2.i;have e:oE (dD 3 M.1 T.1 C.1.k C.1.n C.1.u C.1.s C.1.l.isEmpty C.1.l true [] true [] [] true [])=[99,111,110,115,116,32]++T.1++[32]++M.1++[32,61,32]++eA C.1.D++[10]:=rfl;rw[e];simp only[List.length_append,List.length_cons,List.length_nil];omega
 split at h
 ·rename_i h0;injection h with h;subst h
  have a1:=cy hW.toWds aZ (nx h0).lt;have a2:=bY hW.toWds [123] a1.lt;have a3:=rC hW.toWds a2.lt;dsimp only at he⊢;obtain⟨n1,n2⟩:=pe hW (nx h0).lt (a2.e (a3.e he));obtain⟨m1,m2,m3⟩:=LJ hW a2.lt he;have l2:=a2.le;refine⟨⟨2,_,_,_,_,_,_,_,_,_,_,_,_,_,_,_,rfl,by omega,by omega,n1,by simp,by omega,V6,by simp,rF,by omega,m1,by simp,by simp,rF,λ _=>⟨rfl,rfl,rfl⟩,by omega,by omega⟩,?_⟩;have k:=Rr (gF W (cP W [123] (bO W aZ (bp s)).2)).1;dsimp only;generalize gF W (cP W [123] (bO W aZ (bp s)).2)=R at *;generalize bO W aZ (bp s)=M at *;have e:oE (dD 2 M.1 [] 0 0 0 [] true [] true [] R.1.isEmpty R.1 [] true [])=[101,110,117,109,32]++M.1++[32,123,10]++(R.1.map uB).flatten++[125,10]:=rfl;rw[e];simp only[List.length_append,List.length_cons,List.length_nil];omega
 have str:∀(kd:Int),4<=kd/\kd<=6->∀{g:mP},cj W g s->(jG W kd (bp s)).2.e=0->Dg s (jG W kd (bp s)):=by intro kd hk g h0 he;obtain⟨r1,r2⟩:=Pv hW kd hk (nx h0).lt he;exact⟨r1,by omega⟩
 split at h
 ·rename_i h0;injection h with h;subst h;exact str 4 (by omega) h0 he
 split at h
 ·rename_i h0;injection h with h;subst h;exact str 5 (by omega) h0 he
 split at h
 ·rename_i h0;injection h with h;subst h;exact str 6 (by omega) h0 he
 split at h
 ·rename_i h0;injection h with h;subst h
  have a1:=cy hW.toWds aZ (nx h0).lt;have a2:=NG hW.toWds a1.lt;have a3:=bY hW.toWds [123] a2.lt;have a4:=rD hW.toWds a3.lt;dsimp only at he⊢;have e2:=a3.e (a4.e he);obtain⟨n1,n2⟩:=pe hW (nx h0).lt (a2.e e2);obtain⟨x1,x2⟩:=Vb hW a1.lt e2;obtain⟨m1,m2,m3⟩:=LL hW a3.lt he;have l3:=a3.le;refine⟨⟨7,_,_,_,_,_,_,_,_,_,_,_,_,_,_,_,rfl,by omega,by omega,n1,by simp,by omega,V6,by simp,rF,by simp,rF,x1,by omega,m1,by omega,by omega,λ _=>⟨rfl,rfl⟩⟩,?_⟩;have k:=OU (eU W (cP W [123] (tV W (bO W aZ (bp s)).2).2)).1;dsimp only;generalize eU W (cP W [123] (tV W (bO W aZ (bp s)).2).2)=R at *;generalize tV W (bO W aZ (bp s)).2=X at *;generalize bO W aZ (bp s)=M at *;have e:oE (dD 7 M.1 [] 0 0 0 [] true [] true [] true [] X.1 R.1.isEmpty R.1)=[115,101,114,118,105,99,101,32]++M.1++(if X.1=[]then []else [32,101,120,116,101,110,100,115,32]++X.1)++[32,123,10]++(R.1.map jh).flatten++[125,10]:=rfl;rw[e];have i1:(if X.1=[]then [] else([32,101,120,116,101,110,100,115,32]:mP)++X.1).length<=X.1.length+9:=by
   split
   ·simp
   ·simp only[List.length_append,List.length_cons,List.length_nil];omega
  simp only[List.length_append,List.length_cons,List.length_nil];omega
 ·cases h
theorem Ns{s:PS}(h:sn W s=false):mB W s=none:=by
 have key:∀w∈oP,¬cj W w s:=by intro w hw hp;have:sn W s=true:=List.any_eq_true.2 ⟨w,hw,decide_eq_true hp⟩;rw[this]at h;cases h
 unfold mB;rw[if_neg (key R3 (by simp[oP])),if_neg (key Qy (by simp[oP])),if_neg (key Jp (by simp[oP])),if_neg (key RO (by simp[oP])),if_neg (key R6 (by simp[oP])),if_neg (key QH (by simp[oP])),if_neg (key RF (by simp[oP]))]
abbrev UG(x:D):Nat:=(oE x).length
include hW in
theorem S7{s:PS}(hs:s.i<W.length)(he:(xg W s).e=0):sn W s=true/\WD (iO W s).1/\UG (iO W s).1+3000*s.i<=3000*(xg W s).i:=by
 unfold xg iO at he⊢
 cases h:mB W s with
 |none=>
  rw[h]at he;exact absurd he (iy 2 (by decide))
 |some x=>
  rw[h]at he;have a:=Jk hW.toWds hs h;have p:=fA hW.toWds a.lt;have e:x.2.e=0:=p.e he;obtain⟨g1,g2⟩:=S8 hW hs h e;refine⟨?_,g1,?_⟩
  ·cases hb:sn W s with
   |true=>rfl
   |false=>rw[Ns hb]at h;cases h
  ·have:=p.le;show UG x.1+3000*s.i<=3000*(jy W x.2).i;simp only[UG];omega
include hW in
theorem Nu:∀(f:Nat) (L:List D) {s:PS},s.i<W.length->L.length<=30->(∀y∈L,WD y)->(eI W f L s).2.e=0->
  (∀y∈(eI W f L s).1,WD y)/\(eI W f L s).1.length<=30/\jL UG (eI W f L s).1+3000*s.i<=jL UG L+3000*(eI W f L s).2.i
 |0,L,s,hs,hl,hy,he=>⟨hy,hl,Nat.le_refl _⟩
 |f+1,L,s,hs,hl,hy,he=>by
  unfold eI at he⊢;by_cases h:s.e=0/\(bD W s).kind≠6
  ·rw[if_pos h]at he⊢;by_cases h2:L.length=30/\sn W s=true
   ·rw[if_pos h2]at he;exact absurd he (iy 4 (by decide))
   ·rw[if_neg h2]at he⊢;have a:=B9 hW.toWds hs;have e1:=(Ca hW.toWds f (L++[(iO W s).1]) a.lt).e he;obtain⟨g0,g1,g2⟩:=S7 hW hs e1;have n30:¬L.length=30:=λ x=>h2 ⟨x,g0⟩;obtain⟨r1,r2,r3⟩:=Nu f (L++[(iO W s).1]) a.lt (by simp;omega) (λ y h=>by
     rcases List.mem_append.1 h with h|h
     ·exact hy y h
     ·rw[List.mem_singleton.1 h];exact g1) he
    refine⟨r1,r2,?_⟩;rw[qb]at r3;omega
  ·rw[if_neg h]at he⊢;exact⟨hy,hl,Nat.le_refl _⟩
theorem Rn{s:mP}(h:aZ s=true):s.contains 34=false:=by
 cases s with
 |nil=>cases h
 |cons c r=>
  simp only[aZ,Bool.and_eq_true]at h;have h2:=List.all_eq_true.1 h.2
  cases e:(c::r).contains 34 with
  |false=>rfl
  |true=>
   have:=h2 34 (List.contains_iff_mem.1 e);exact absurd this (by decide)
abbrev mI(x:D):Nat:=(CV x).length
abbrev mS(x:D):Nat:=(wG x).length
include hW in
theorem Hy:∀(f:Nat) (il sl:List D) {s:PS},s.i<W.length->il.length<=5->sl.length<=5->(∀y∈il,WI y)->(∀y∈sl,WS y)->(eK W f il sl s).2.e=0->
  (∀y∈(eK W f il sl s).1.1,WI y)/\(∀y∈(eK W f il sl s).1.2,WS y)/\(eK W f il sl s).1.1.length<=5/\(eK W f il sl s).1.2.length<=5/\
   jL mI (eK W f il sl s).1.1+jL mS (eK W f il sl s).1.2+3000*s.i<=jL mI il+jL mS sl+3000*(eK W f il sl s).2.i
 |0,il,sl,s,hs,h1,h2,h3,h4,he=>⟨h3,h4,h1,h2,Nat.le_refl _⟩
 |f+1,il,sl,s,hs,h1,h2,h3,h4,he=>by
  have ni:∀s:PS,(bp s).i=s.i+1:=λ _=>rfl;unfold eK at he⊢;by_cases c1:cj W Cy s
  ·rw[if_pos c1]at he⊢;have a:=bX hW.toWds hs (cx c1 (by decide));by_cases c2:il.length=5
   ·rw[if_pos c2]at he;exact absurd he (iy 4 (by decide))
   rw[if_neg c2]at he⊢;by_cases c3:(bD W (bp s)).kind=4/\aZ (bD W (bp s)).text=true
   ·rw[if_pos c3]at he⊢;have a2:=bX hW.toWds a.lt (by rw[c3.1];decide);have tl:=ju hW.toWds a.lt;obtain⟨r1,r2,r3,r4,r5⟩:=Hy f (il++[.s (bD W (bp s)).text]) sl a2.lt (by simp;omega) h2 (λ y h=>by
     rcases List.mem_append.1 h with h|h
     ·exact h3 y h
     ·rw[List.mem_singleton.1 h];exact⟨_,rfl,tl,Rn c3.2⟩) h4 he
    refine⟨r1,r2,r3,r4,?_⟩;rw[qb]at r5;simp only[ni,mI,CV,List.length_append,List.length_cons,List.length_nil]at r5⊢;omega
   ·rw[if_neg c3]at he;exact absurd he (iy 2 (by decide))
  rw[if_neg c1]at he⊢;by_cases c4:cj W Sr s
  ·rw[if_pos c4]at he⊢;have a:=bX hW.toWds hs (cx c4 (by decide));by_cases c2:sl.length=5
   ·rw[if_pos c2]at he;exact absurd he (iy 4 (by decide))
   rw[if_neg c2]at he⊢;have a2:=C5 hW.toWds a.lt;have a3:=cy hW.toWds gU a2.lt;have em:=(sD hW.toWds f il (sl++[F8 (fE W (bp s)).1 (bO W gU (fE W (bp s)).2).1]) a3.lt).e he;obtain⟨n1,n2⟩:=pe hW a2.lt em;have sc:(fE W (bp s)).1.length<=2000/\(fE W (bp s)).2.i=(bp s).i+1:=by
    have e2:=a3.e em;unfold fE at e2⊢;split
    ·exact⟨by simp,rfl⟩
    ·rename_i hq;rw[if_neg hq]at e2;exact pe hW a.lt e2
   obtain⟨r1,r2,r3,r4,r5⟩:=Hy f il (sl++[F8 (fE W (bp s)).1 (bO W gU (fE W (bp s)).2).1]) a3.lt h1 (by simp;omega) h3 (λ y h=>by
     rcases List.mem_append.1 h with h|h
     ·exact h4 y h
     ·rw[List.mem_singleton.1 h];exact⟨_,_,rfl,sc.1,n1⟩) he
   refine⟨r1,r2,r3,r4,?_⟩;rw[qb]at r5;simp only[ni,mS,F8,wG,List.length_append,List.length_cons,List.length_nil]at r5 sc⊢;omega
  ·rw[if_neg c4]at he⊢;exact⟨h3,h4,h1,h2,Nat.le_refl _⟩
include hW in
theorem ON(h:(pv W).2.1=0):Se (pv W).1/\(lG (pv W).1).length<=900000000:=by
 unfold pv at h⊢;have h0:(s0).i<W.length:=hW.pos;have hm:=sD hW.toWds (W.length+2) [] [] h0;have dm:=Ca hW.toWds (W.length+2) [] hm.lt;by_cases e:(mj W).2.e≠0
 ·rw[if_pos e]at h;exact absurd h e
 rw[if_neg e];have e0:(mj W).2.e=0:=Decidable.not_not.1 e;obtain⟨r1,r2,r3,r4,r5⟩:=Hy hW (W.length+2) [] [] h0 (by simp) (by simp) rF rF (dm.e e0);obtain⟨d1,d2,d3⟩:=Nu hW (W.length+2) [] hm.lt (by simp) rF e0;have hl:=hW.len;have dl:=dm.lt;refine⟨⟨_,_,_,_,_,_,rfl,by show (eK W (W.length+2) [] [] s0).1.1.length<=100;omega,by show (eK W (W.length+2) [] [] s0).1.2.length<=100;omega,by show (eI W (W.length+2) [] (eK W (W.length+2) [] [] s0).2).1.length<=100;omega,r1,r2,d1⟩,?_⟩;have k1:=kX CV mI (λ _=>Nat.le_refl _) (iz W).1.1;have k2:=kX wG mS (λ _=>Nat.le_refl _) (iz W).1.2;have k3:=kX oE UG (λ _=>Nat.le_refl _) (mj W).1;simp only[EJ,lG,List.length_append];have z:∀m,jL m []=0:=λ _=>rfl;simp only[z]at r5 d3;unfold mj iz at *;omega
end
theorem OO{s:mP}(h:(jx s).2.1=0):Se (jx s).1/\(lG (jx s).1).length<=900000000:=by
 unfold jx at h⊢;by_cases e:(lexB s).2.1≠0
 ·rw[if_pos e]at h;exact absurd h e
 ·rw[if_neg e]at h⊢;exact ON (Q1 (Decidable.not_not.1 e)) h
theorem OT{x:D}(hx:Se x)(h:lG x=[]):∃b1 b2 b3:Bool,x=EJ b1 [] b2 [] b3 []:=by
 obtain⟨ib,il,sb,sl,db,dl,rfl,h1,h2,h3,h4,h5,h6⟩:=hx;simp only[EJ,lG,List.append_eq_nil_iff]at h;obtain⟨⟨k1,k2⟩,k3⟩:=h;have i0:il=[]:=by
  cases il with
  |nil=>rfl
  |cons y l=>obtain⟨s,rfl,_⟩:=h4 y (by simp);simp[CV]at k1
 have s0:sl=[]:=by
  cases sl with
  |nil=>rfl
  |cons y l=>obtain⟨a,b,rfl,_⟩:=h5 y (by simp);simp[wG]at k2
 have d0:dl=[]:=by
  cases dl with
  |nil=>rfl
  |cons y l=>
   exfalso;obtain⟨kd,nm,ty,ck,cn,cu,cs,cb,cl,fb,fl,mb,ml,ex,tb,tl,rfl,_⟩:=h6 y (by simp);simp only[List.map_cons,List.flatten_cons]at k3;have:=congrArg List.length k3;simp only[List.length_append,List.length_nil]at this;have hd:0<(oE (dD kd nm ty ck cn cu cs cb cl fb fl mb ml ex tb tl)).length:=by
    simp only[oE]
    repeat' split
    all_goals simp only[List.length_append,List.length_cons,List.length_nil];omega
   omega
 subst i0;subst s0;subst d0;exact⟨_,_,_,rfl⟩
end Go.Dn.Dec.Pa
namespace Go.Dn.Dec
open Go.IntKind (i64 u64 u8 u16 i32 u32)
open Go.Proofs
theorem VL(s:mP):EQ bC (.call 42 [vs s] []) ( Tr.call (.call 20 [vs s] []) λ o0=>aH o0.snd.isEmpty (cL o0.fst λ l1=>aH (l1.length==3) (bm (Ul l1 0) λ d2=>fT d2 λ b3 l4=>bm (Ul l1 1) λ d5=>bR .i64 d5 λ n6=>bm (Ul l1 2) λ d7=>bR .i64 d7 λ n8=>Tr.call (.at_ 42 0 (fw 87) (sv 50 [(0,vs s),(3,vl b3 l4),(4,vi n6),(6,vl true []),(7,vi 0)]) [(6,39000001)] []) Tr.ret))):=bU
theorem Xy(b:Bool)(l:List D)(c:Bool)(m:List D)(e:Bool)(n:List D):EQ bC (.call 17 (pB b l c m e n) []) ( Tr.call (.call 10 [vl b l] []) λ o0=>VS o0 λ l1=>Tr.call (.call 11 [V.p 0 0] [Ob.cells l1 []]) λ o2=>ee o2.snd λ x3 l4=>dx x3 λ l5 l6=>aH (l5.length==l1.length) (aH (l6==[]) (iK l4 (bm o2.fst λ d7=>fT d7 λ b8 l9=>ob (bJ l9 0) λ d10=>aH (d10.width==3) (ob l9[0]? λ d11=>aH (decide (3<=d11.width)) (Tr.call (.call 13 [V.d (D.g [(List.take 3 (List.drop 0 d11.cells)).getD 0 (D.b false),(List.take 3 (List.drop 0 d11.cells)).getD 1 (D.b false),(List.take 3 (List.drop 0 d11.cells)).getD 2 (D.b false)])] []) λ o12=>aH o12.snd.isEmpty (bm o12.fst λ d13=>eF d13 λ l14=>Tr.call (.call 42 [vs l14] []) λ o15=>SS o15 λ l16 m17=>Tr.call (.at_ 17 0 (fw 87) (zj c m e n (V.m 1 0 m17) (V.m 2 0 20) 0) [] [Ob.cells [vs [123,32],vs [125,32],vs [40,32],vs [41,32],vs [49,32],vs [114,101,113,117,105,114,101,100,32],vs [105,51,50,32],vs [97,46,98,32],vs [61,32],vs [44,32],vs [108,105,115,116,60],vs [111,110,101,119,97,121,32],vs [39,116,39,32],vs [49,46,53,32],vs [115,116,114,117,99,116,32],vs [91,32],vs [120,32],vs [58,32],vs [116,104,114,111,119,115,32],vs [116,114,117,101,32]] [],Ob.cells l16 [],Ob.cells l5 []]) Tr.ret))))))):=bU
theorem tC(l0:mP)(b1:Bool)(l2:List D)(n3:Int)(b4:Bool)(l5:List D)(n6:Int):EQ bC (.at_ 42 0 (fw 87) (sv 50 [(0,vs l0),(3,vl b1 l2),(4,vi n3),(6,vl b4 l5),(7,vi n6)]) [(6,39000001)] []) ( aM (decide (n6<(↑l2.length:Int))) (Tr.call (.at_ 42 0 (fw 791) (sv 50 [(0,vs l0),(3,vl b1 l2),(4,vi n3),(6,vl b4 l5),(7,vi n6),(22,vb (n3==0))]) [(6,39000001)] []) Tr.ret) (Tr.call (.at_ 42 0 (fw 791) (sv 50 [(0,vs l0),(3,vl b1 l2),(4,vi n3),(6,vl b4 l5),(7,vi n6),(22,vb false)]) [(6,39000001)] []) Tr.ret)):=bU
theorem tB(b0:Bool)(l1:List D)(b2:Bool)(l3:List D)(m4:Nat)(n5:Int)(l6:List V)(l7:List V)(l8:List V):EQ bC (.at_ 17 0 (fw 87) (zj b0 l1 b2 l3 (V.m 1 0 m4) (V.m 2 0 20) n5) [] [Ob.cells l6 [],Ob.cells l7 [],Ob.cells l8 []]) ( aM (decide (n5<(↑l1.length:Int))) (aM (decide (n5<(↑l3.length:Int))) (Tr.call (.at_ 17 0 (fw 791) (Iv b0 l1 b2 l3 (V.m 1 0 m4) (V.m 2 0 20) n5 (decide ((↑m4:Int)>0))) [] [Ob.cells l6 [],Ob.cells l7 [],Ob.cells l8 []]) Tr.ret) (Tr.call (.at_ 17 0 (fw 791) (Iv b0 l1 b2 l3 (V.m 1 0 m4) (V.m 2 0 20) n5 false) [] [Ob.cells l6 [],Ob.cells l7 [],Ob.cells l8 []]) Tr.ret)) (Tr.call (.at_ 17 0 (fw 791) (Iv b0 l1 b2 l3 (V.m 1 0 m4) (V.m 2 0 20) n5 false) [] [Ob.cells l6 [],Ob.cells l7 [],Ob.cells l8 []]) Tr.ret)):=bU
theorem qg(l0:mP)(b1:Bool)(l2:List D)(n3:Int)(b4:Bool)(l5:List D)(n6:Int)(b7:Bool):EQ bC (.at_ 42 0 (fw 791) (sv 50 [(0,vs l0),(3,vl b1 l2),(4,vi n3),(6,vl b4 l5),(7,vi n6),(22,vb b7)]) [(6,39000001)] []) ( aM b7 (aM (decide (i64.wrap (n6+1)<(↑l2.length:Int))) (ob (bJ l2 (i64.wrap (n6+1))) λ d0=>aH (d0.width==5) (ob l2[(i64.wrap (n6+1)).toNat]? λ d1=>ob d1.cells[4]? λ d2=>bR .i64 d2 λ n_3_1=>Tr.call (.at_ 42 0 (fw 7319) (Q0 l0 b1 l2 n3 b4 l5 n6 n_3_1) [(6,39000001)] []) Tr.ret)) (Tr.call (.at_ 42 0 (fw 7319) (Q0 l0 b1 l2 n3 b4 l5 n6 (↑l0.length:Int)) [(6,39000001)] []) Tr.ret)) (Tr.call (.at_ 42 0 (fw 31) (sv 50 [(6,vl b4 l5)]) [(6,39000001)] []) Tr.ret)):=bU
theorem BV(b0:Bool)(l1:List D)(b2:Bool)(l3:List D)(m4:Nat)(n5:Int)(b6:Bool)(l7:List V)(l8:List V)(l9:List V):EQ bC (.at_ 17 0 (fw 791) (Iv b0 l1 b2 l3 (V.m 1 0 m4) (V.m 2 0 20) n5 b6) [] [Ob.cells l7 [],Ob.cells l8 [],Ob.cells l9 []]) ( aM b6 (ob (bJ l1 n5) λ d0=>aH (d0.width==1) (ob l1[n5.toNat]? λ d1=>ob d1.cells[0]? λ d2=>bR .u16 d2 λ n3=>aH (decide ((↑m4:Int)≠0)) (ob (bJ l3 n5) λ d4=>aH (d4.width==1) (ob l3[n5.toNat]? λ d5=>ob d5.cells[0]? λ d6=>bR .u8 d6 λ n7=>aM (n7.tmod 4==0) (aH (decide (0<=(i64.wrap n3).tmod (↑m4:Int)/\(i64.wrap n3).tmod (↑m4:Int)<=(↑m4:Int))) (ob (dn [Ob.cells l7 [],Ob.cells l8 [],Ob.cells l9 []] 1 (V.m 1 0 (((i64.wrap n3).tmod (↑m4:Int)).toNat-0))) λ l_8_1=>aH (bw 1 l_8_1) (aH (decide (0+l_8_1.length<=4294967296)) (aH (decide (0<=i64.wrap ((i64.wrap n3).tmod (↑m4:Int)+1)/\i64.wrap ((i64.wrap n3).tmod (↑m4:Int)+1)<=(↑m4:Int))) (ob (dn [Ob.cells l7 [],Ob.cells l8 [],Ob.cells l9 []] 1 (V.m 1 (0+(i64.wrap ((i64.wrap n3).tmod (↑m4:Int)+1)).toNat) (m4-(i64.wrap ((i64.wrap n3).tmod (↑m4:Int)+1)).toNat))) λ l_9_1=>aH (bw 1 ([]++l_8_1)) (aH (bw 1 l_9_1) (aH (l_8_1.isEmpty||dK l_9_1) (aH (decide (([]++l_8_1).length+l_9_1.length<=4294967296)) (Tr.call (.at_ 17 0 (fw 919) (My b0 l1 b2 l3 (l_8_1.isEmpty&&l_9_1.isEmpty) ([]++l_8_1++l_9_1) (V.m 2 0 20) n5) [(7,39000001)] [Ob.cells l7 [],Ob.cells l8 [],Ob.cells l9 []]) Tr.ret))))))))) (aM (n7.tmod 4==1) (aH (decide (0<=(i64.wrap n3).tmod (↑m4:Int)/\(i64.wrap n3).tmod (↑m4:Int)<=(↑m4:Int))) (ob (dn [Ob.cells l7 [],Ob.cells l8 [],Ob.cells l9 []] 1 (V.m 1 0 (((i64.wrap n3).tmod (↑m4:Int)).toNat-0))) λ l10=>aH (bw 1 l10) (aH (decide (0+l10.length<=4294967296)) (aH (decide (0<=(i64.wrap n3).tmod (↑m4:Int)/\(i64.wrap n3).tmod (↑m4:Int)<(↑m4:Int))) (ob l8[0+((i64.wrap n3).tmod (↑m4:Int)).toNat]? λ v11=>bm v11 λ d12=>eF d12 λ l13=>aH (bw 1 ([]++l10)) (aH (l10.isEmpty||true) (aH (decide (([]++l10).length+1<=4294967296)) (aH (decide (0<=(i64.wrap n3).tmod (↑m4:Int)/\(i64.wrap n3).tmod (↑m4:Int)<=(↑m4:Int))) (ob (dn [Ob.cells l7 [],Ob.cells l8 [],Ob.cells l9 []] 1 (V.m 1 (0+((i64.wrap n3).tmod (↑m4:Int)).toNat) (m4-((i64.wrap n3).tmod (↑m4:Int)).toNat))) λ l14=>aH (bw 1 ([]++l10++[D.s l13])) (aH (bw 1 l14) (aH (l10.isEmpty&&false||dK l14) (aH (decide (([]++l10++[D.s l13]).length+l14.length<=4294967296)) (Tr.call (.at_ 17 0 (fw 919) (My b0 l1 b2 l3 (l10.isEmpty&&false&&l14.isEmpty) ([]++l10++[D.s l13]++l14) (V.m 2 0 20) n5) [(7,39000001)] [Ob.cells l7 [],Ob.cells l8 [],Ob.cells l9 []]) Tr.ret))))))))))))) (aM (n7.tmod 4==2) (ob (bJ l3 n5) λ d15=>aH (d15.width==1) (ob l3[n5.toNat]? λ d16=>ob d16.cells[0]? λ d17=>bR .u8 d17 λ n18=>aH (decide (0<=(i64.wrap (u8.wrap (n18.tdiv 4))).tmod 20/\(i64.wrap (u8.wrap (n18.tdiv 4))).tmod 20<20)) (ob l7[0+((i64.wrap (u8.wrap (n18.tdiv 4))).tmod 20).toNat]? λ v19=>bm v19 λ d20=>eF d20 λ l21=>aH (decide (0<=(i64.wrap n3).tmod (↑m4:Int)/\(i64.wrap n3).tmod (↑m4:Int)<(↑m4:Int))) (aH (decide (0+((i64.wrap n3).tmod (↑m4:Int)).toNat<l8.length)&&true) (Tr.call (.at_ 17 0 (fw 919) (zj b0 l1 b2 l3 (V.m 1 0 m4) (V.m 2 0 20) n5) [] [Ob.cells l7 [],Ob.cells (l8.set (0+((i64.wrap n3).tmod (↑m4:Int)).toNat) (vs l21)) [],Ob.cells l9 []]) Tr.ret))))) (aH (decide (0<=(i64.wrap n3).tmod (↑m4:Int)/\(i64.wrap n3).tmod (↑m4:Int)<=(↑m4:Int))) (ob (dn [Ob.cells l7 [],Ob.cells l8 [],Ob.cells l9 []] 1 (V.m 1 0 (((i64.wrap n3).tmod (↑m4:Int)).toNat-0))) λ l22=>aH (bw 1 l22) (aH (decide (0+l22.length<=4294967296)) (ob (bJ l3 n5) λ d23=>aH (d23.width==1) (ob l3[n5.toNat]? λ d24=>ob d24.cells[0]? λ d25=>bR .u8 d25 λ n26=>aH (decide (0<=(i64.wrap (u8.wrap (n26.tdiv 4))).tmod 20/\(i64.wrap (u8.wrap (n26.tdiv 4))).tmod 20<20)) (ob l7[0+((i64.wrap (u8.wrap (n26.tdiv 4))).tmod 20).toNat]? λ v27=>bm v27 λ d28=>eF d28 λ l29=>aH (bw 1 ([]++l22)) (aH (l22.isEmpty||true) (aH (decide (([]++l22).length+1<=4294967296)) (aH (decide (0<=(i64.wrap n3).tmod (↑m4:Int)/\(i64.wrap n3).tmod (↑m4:Int)<=(↑m4:Int))) (ob (dn [Ob.cells l7 [],Ob.cells l8 [],Ob.cells l9 []] 1 (V.m 1 (0+((i64.wrap n3).tmod (↑m4:Int)).toNat) (m4-((i64.wrap n3).tmod (↑m4:Int)).toNat))) λ l30=>aH (bw 1 ([]++l22++[D.s l29])) (aH (bw 1 l30) (aH (l22.isEmpty&&false||dK l30) (aH (decide (([]++l22++[D.s l29]).length+l30.length<=4294967296)) (Tr.call (.at_ 17 0 (fw 919) (My b0 l1 b2 l3 (l22.isEmpty&&false&&l30.isEmpty) ([]++l22++[D.s l29]++l30) (V.m 2 0 20) n5) [(7,39000001)] [Ob.cells l7 [],Ob.cells l8 [],Ob.cells l9 []]) Tr.ret)))))))))))))))))))) (Tr.call (.at_ 17 0 (fw 351) (sv 133 [(7,V.m 1 0 m4),(11,vs []),(12,vi 0)]) [] [Ob.cells l8 [],Ob.cells l9 []]) Tr.ret)):=bU
theorem IX(l0:mP)(b1:Bool)(l2:List D)(n3:Int)(b4:Bool)(l5:List D)(n6:Int)(n7:Int):EQ bC (.at_ 42 0 (fw 7319) (Q0 l0 b1 l2 n3 b4 l5 n6 n7) [(6,39000001)] []) ( ob (bJ l2 n6) λ d0=>aH (d0.width==5) (ob l2[n6.toNat]? λ d1=>ob d1.cells[4]? λ d2=>bR .i64 d2 λ n_3_1=>aH (decide (0<=n7/\n7<=(↑l0.length:Int))) (aH (decide (0<=n_3_1/\n_3_1<=(↑n7.toNat:Int))) (aH (bw 1 l5) (aH (b4||true) (aH (decide (l5.length+1<=4294967296)) (Tr.call (.at_ 42 0 (fw 87) (sv 50 [(0,vs l0),(3,vl b1 l2),(4,vi n3),(6,vl (b4&&false) (l5++[D.s (List.take (n7.toNat-n_3_1.toNat) (List.drop n_3_1.toNat l0))])),(7,vi (i64.wrap (n6+1)))]) [(6,39000001)] []) Tr.ret))))))):=bU
theorem PX(b0:Bool)(l1:List D):EQ bC (.at_ 42 0 (fw 31) (sv 50 [(6,vl b0 l1)]) [(6,39000001)] []) ( aH (l1.all xX) (Tr.call (.at_ 42 0 (fw 31) (sv 50 [(6,V.m 0 0 l1.length)]) [] [Ob.cells (List.map V.d l1) []]) Tr.ret)):=bU
theorem MO(b0:Bool)(l1:List D)(b2:Bool)(l3:List D)(b4:Bool)(l5:List D)(n6:Int)(l7:List V)(l8:List V)(l9:List V):EQ bC (.at_ 17 0 (fw 919) (My b0 l1 b2 l3 b4 l5 (V.m 2 0 20) n6) [(7,39000001)] [Ob.cells l7 [],Ob.cells l8 [],Ob.cells l9 []]) ( aH (l5.all xX) (aH ((sv 133 [(1,vl b0 l1),(2,vl b2 l3),(8,V.m 2 0 20),(9,vi n6)]).all (gV 1)) (aH (jf 1 [Ob.cells l7 [],Ob.cells l8 [],Ob.cells l9 []]) (Tr.call (.at_ 17 0 (fw 919) (zj b0 l1 b2 l3 (V.m 1 0 l5.length) (V.m 2 0 20) n6) [] [Ob.cells l7 [],Ob.cells (List.map V.d l5) [],Ob.cells l9 []]) Tr.ret)))):=bU
theorem Gy(b0:Bool)(l1:List D)(b2:Bool)(l3:List D)(m4:Nat)(n5:Int)(l6:List V)(l7:List V)(l8:List V):EQ bC (.at_ 17 0 (fw 919) (zj b0 l1 b2 l3 (V.m 1 0 m4) (V.m 2 0 20) n5) [] [Ob.cells l6 [],Ob.cells l7 [],Ob.cells l8 []]) ( Tr.call (.at_ 17 0 (fw 87) (zj b0 l1 b2 l3 (V.m 1 0 m4) (V.m 2 0 20) (i64.wrap (n5+1))) [] [Ob.cells l6 [],Ob.cells l7 [],Ob.cells l8 []]) Tr.ret):=bU
theorem BU(m0:Nat)(l1:mP)(n2:Int)(l3:List V)(l4:List V):EQ bC (.at_ 17 0 (fw 351) (sv 133 [(7,V.m 1 0 m0),(11,vs l1),(12,vi n2)]) [] [Ob.cells l3 [],Ob.cells l4 []]) ( aM (decide (n2<(↑m0:Int))) (aH (decide (0<=n2/\n2<(↑m0:Int))) (ob l3[0+n2.toNat]? λ v0=>bm v0 λ d1=>eF d1 λ l2=>aH (decide (l1.length+l2.length<4611686018427387904)) (Tr.call (.at_ 17 0 (fw 351) (sv 133 [(7,V.m 1 0 m0),(11,vs (l1++l2)),(12,vi (i64.wrap (n2+1)))]) [] [Ob.cells l3 [],Ob.cells l4 []]) Tr.ret))) (Tr.ret (vs l1,[]))):=bU
end Go.Dn.Dec
namespace Go.Dn.Dec.Pa
open Go.IntKind (i64 u64 u8 u16 i32 u32)
open Go.Proofs
set_option maxRecDepth 100000
theorem Jt{k:Nat}(h1:¬(k=20\/k=96\/k=98))(h2:k=10\/k=11\/k=13):bC.ext k=some (lA Tryz.prog bA k):=by simp only[bC,QL,if_neg h1,if_pos h2]
theorem SI{k:Nat}{args:List V}{o:Out}(h:RY (.call k args [])=some o)(h1:¬(k=20\/k=96\/k=98))(h2:k=10\/k=11\/k=13):RU (.call k args [])=some o:=by
 rw[tX (Jt h1 h2)];have:=ic h;unfold lA;split
 ·rename_i heq;cases heq
 ·exact this
theorem Ur{k:Nat}{args:List V}{b:Ob}{o:Out}(h:RY (.call k args [b])=some o)(h1:¬(k=20\/k=96\/k=98))(h2:k=10\/k=11\/k=13):RU (.call k args [b])=some o:=by
 rw[tX (Jt h1 h2)];have:=ic h;unfold lA;split
 ·rename_i heq;simp at heq
 ·exact this
abbrev wC(ws:List mP):List V:=(ws.map D.s).map V.d
theorem PY(ws:List mP):(wC ws).length=ws.length:=by simp[wC]
theorem I0{ws:List mP}{i:Nat}{w:mP}(h:ws[i]?=some w):(wC ws)[i]?=some (vs w):=by simp[wC,h]
theorem Us(ws:List mP)(i:Nat)(w:mP):(wC ws).set i (vs w)=wC (ws.set i w):=by simp[wC,List.map_set]
theorem ET(ws:List mP):(ws.map D.s).all xX=true:=by simp[xX]
theorem CN(ws:List mP):dK (ws.map D.s)=true:=by simp[dK,D.cells,V.one]
theorem oi(ws:List mP):bw 1 (ws.map D.s)=true:=by cases ws<;>rfl
theorem iH{f:Task->Option Out}{c:Bool}{X:Tr}(h:c=true):aC f (aH c X)=aC f X:=by rw[h];exact aN
theorem Gr{W:List Tok}{i:Nat}(h:i<W.length):(dY W)[i]?=some W[i].D:=by unfold dY;rw[List.getElem?_map,List.getElem?_eq_getElem h];rfl
theorem IW(cs:List V)(n:Nat):EQ bC (.at_ 42 0 (fw 31) (sv 50 [(6,.m 0 0 n)]) [] [.cells cs []]) (ob (zK 0 (.m 0 0 n) [.cells cs []]) .ret):=bU
theorem J6(b:Nat)(ws:List mP):bG b (wC ws)=true:=jA _ _
theorem KC(ws:List mP)(b:Bool):RU (.at_ 42 0 (fw 31) (sv 50 [(6,vl b (ws.map .s))]) [(6,39000001)] [])=some (.m 0 0 ws.length,[.cells (wC ws) []]):=by
 rw[RU];refine(PX ..).trans ?_;rw[ET,aN,List.length_map];refine aK ?_;refine(IW ..).trans ?_;have:zK 0 (.m 0 0 ws.length) [.cells (wC ws) []]=some (.m 0 0 ws.length,[.cells (wC ws) []]):=by show (if 0<=0 then(if bG 0 (wC ws)=true/\0<=1 then some (V.m 0 0 ws.length,Ob.cells (wC ws) []::mA 0 [.cells (wC ws) []])else none)else some (V.m 0 0 ws.length,mA 0 [.cells (wC ws) []]))=_;rw[if_pos (Nat.le_refl _),if_pos ⟨J6 0 ws,by decide⟩];rfl
 rw[this];rfl
theorem zk(s:mP)(hs:s.length<=2000)(tb:Bool)(W:List Tok)(hlen:W.length<=100000)(hat:∀(i:Nat) (h:i<W.length),W[i].at_<=s.length)(hup:∀(i:Nat) (h:i+1<W.length),(W[i]'(by omega)).at_<=W[i+1].at_):
  ∀(m i:Nat) (ws:List mP) (b:Bool),i+m=W.length->ws.length=i->(∀w∈ws,w.length<=200000)->
   ∃ws':List mP,ws'.length<=100000/\(∀w∈ws',w.length<=200000)/\RU (.at_ 42 0 (fw 87) (sv 50 [(0,vs s),(3,vl tb (dY W)),(4,vi 0),(6,vl b (ws.map .s)),(7,vi (i:Int))]) [(6,39000001)] [])=some (.m 0 0 ws'.length,[.cells (wC ws') []])
 |0,i,ws,b,hi,hw,hl=>by
  refine⟨ws,by omega,hl,?_⟩;have e:(dY W).length=W.length:=by simp[dY]
  rw[RU,tC,e,bn];refine aK ?_;rw[qg,bo];exact aK (KC ws b)
 |m+1,i,ws,b,hi,hw,hl=>by
  have hlt:i<W.length:=by omega
  have e:(dY W).length=W.length:=by simp[dY]
  have h1:=hat i hlt;have last:∀to:Nat,W[i].at_<=to->to<=s.length->∃ws':List mP,ws'.length<=100000/\(∀w∈ws',w.length<=200000)/\RU (.at_ 42 0 (fw 7319) (Q0 s tb (dY W) 0 b (ws.map .s) (i:Int) (to:Int)) [(6,39000001)] [])=some (.m 0 0 ws'.length,[.cells (wC ws') []]):=by
   intro to h2 h3;obtain⟨ws',g1,g2,g3⟩:=zk s hs tb W hlen hat hup m (i+1) (ws++[List.take (to-W[i].at_) (List.drop W[i].at_ s)]) (b&&false) (by omega) (by simp;omega) (λ w h=>by
    rcases List.mem_append.1 h with h|h
    ·exact hl w h
    ·rw[List.mem_singleton.1 h,List.length_take,List.length_drop];omega)
   refine⟨ws',g1,g2,?_⟩;rw[RU];refine(IX ..).trans ?_;refine(uV (i:=i) (j:=4) (Gr hlt) rfl rfl).trans ?_;rw[aJ,aJ];refine(iH (oi ws)).trans ?_;refine(iH (show (b||true)=true by simp)).trans ?_;rw[aJ (by simp;omega),Ww];refine aK ?_;rw[Int.toNat_natCast,Int.toNat_natCast];simp only[List.map_append,List.map_cons,List.map_nil]at g3;exact g3
  by_cases h2:i+1<W.length
  ·have h3:=hat (i+1) h2;have h4:=hup i h2;obtain⟨ws',g1,g2,g3⟩:=last W[i+1].at_ h4 h3;refine⟨ws',g1,g2,?_⟩;rw[RU,tC,e,bz];refine aK ?_;rw[show ((0:Int)==0)=true from rfl,qg,e,bF,Ww,bz];rw[show ((i:Int)+1)=((i+1:Nat):Int) by omega];refine(uV (i:=i+1) (j:=4) (Gr h2) rfl rfl).trans ?_;exact aK g3
  ·obtain⟨ws',g1,g2,g3⟩:=last s.length h1 (Nat.le_refl _);refine⟨ws',g1,g2,?_⟩;rw[RU,tC,e,bz];refine aK ?_;rw[show ((0:Int)==0)=true from rfl,qg,e,bF,Ww,bn];exact aK g3
theorem N9(s:mP):(∃W,lexB s=(W,0,0)/\s.length<=2000/\W.length<=100000/\(∀(i:Nat) (h:i<W.length),W[i].at_<=s.length)/\∀(i:Nat) (h:i+1<W.length),(W[i]'(by omega)).at_<=W[i+1].at_)\/∃e w,lexB s=([],e,w)/\e≠0:=by
 rcases ru s with⟨l',hg,he⟩|⟨e,w,he,hne,-⟩
 ·left;have hs:s.length<=2000:=by
   apply Nat.le_of_not_lt;intro h;unfold lexB at he;rw[if_pos h]at he;injection he with _ he
   injection he with he
   cases he
  have hlen:=EX s;rw[he]at hlen;obtain⟨g1,g2⟩:=hg;have hat:∀(i:Nat) (h:i<(l'++[(⟨6,[],0,0,s.length⟩:Tok)]).length),(l'++[(⟨6,[],0,0,s.length⟩:Tok)])[i].at_<=s.length:=by
   intro i h;rcases Nat.lt_or_ge i l'.length with h1|h1
   ·rw[List.getElem_append_left h1];exact Nat.le_of_lt (g1 _ (List.getElem_mem h1)).2.2
   ·rw[List.getElem_append_right h1];simp
  refine⟨_,he,hs,hlen,hat,λ i h=>?_⟩;rcases Nat.lt_or_ge (i+1) l'.length with h1|h1
  ·rw[List.getElem_append_left (show i<l'.length by omega),List.getElem_append_left h1]
   exact Nat.le_of_lt (List.pairwise_iff_getElem.1 g2 i (i+1) (by omega) h1 (by omega))
  ·rw[List.getElem_append_right h1];simp only[List.getElem_singleton];exact hat i (by omega)
 ·exact .inr ⟨e,w,he,hne⟩
theorem R8(s:mP):∃ws:List mP,ws.length<=100000/\(∀w∈ws,w.length<=200000)/\RU (.call 42 [vs s] [])=some (.m 0 0 ws.length,[.cells (wC ws) []]):=by
 have hl:RU (.call 20 [vs s] [])=some (lQ (lexB s)):=IY (DZ s) (by decide);unfold lQ at hl;rcases N9 s with⟨W,he,hs,hlen,hat,hup⟩|⟨e,w,he,hne⟩
 ·rw[he]at hl;obtain⟨ws,h1,h2,h3⟩:=zk s hs W.isEmpty W hlen hat hup W.length 0 [] true (by omega) rfl (λ _ h=>(by cases h));refine⟨ws,h1,h2,?_⟩;rw[RU,VL];refine(Ix hl).trans ?_;exact aK h3
 ·rw[he]at hl;refine⟨[],by simp,(λ _ h=>(by cases h)),?_⟩;rw[RU,VL];refine(Ix hl).trans ?_;refine aK ?_;rw[RU,tC,show (dY []).length=0 from rfl,bn];refine aK ?_;rw[qg,bo];exact aK (KC [] true)
def kA:List mP:=[[123,32],[125,32],[40,32],[41,32],[49,32],[114,101,113,117,105,114,101,100,32],[105,51,50,32],[97,46,98,32],[61,32],[44,32],[108,105,115,116,60],[111,110,101,119,97,121,32],[39,116,39,32],[49,46,53,32],[115,116,114,117,99,116,32],[91,32],[120,32],[58,32],[116,104,114,111,119,115,32],[116,114,117,101,32]]
theorem Ot(i:Nat)(h:i<20):∃t,kA[i]?=some t/\t.length<=200000:=by
 have hl:kA.length=20:=rfl;refine⟨kA[i]'(by omega),List.getElem?_eq_getElem (by omega),?_⟩;have:∀t∈kA,t.length<=9:=by decide
 have:=this _ (List.getElem_mem (show i<kA.length by omega));omega
theorem IE(x y:Ob)(ws:List mP)(off n:Nat)(h:off+n<=ws.length):dn [x,.cells (wC ws) [],y] 1 (.m 1 off n)=some (((ws.drop off).take n).map D.s):=by show (if 1=1 then(if off+n<=(wC ws).length then ze (((wC ws).drop off).take n)else none)else none)=_;rw[if_pos rfl,if_pos (by rw[PY];exact h),<-List.map_drop,<-List.map_take,tA,<-List.map_drop,<-List.map_take]
theorem DM(r:List V)(ws:List mP)(hl:ws.length<=1000000)(hw:∀w∈ws,w.length<=200000):∀(m i:Nat) (t:mP),i+m=ws.length->t.length<=200000*i->
  ∃t':mP,RU (.at_ 17 0 (fw 351) (sv 133 [(7,.m 1 0 ws.length),(11,vs t),(12,vi (i:Int))]) [] [.cells (wC ws) [],.cells r []])=some (vs t',[])
 |0,i,t,hi,ht=>⟨t,by rw[RU,BU,bn];rfl⟩
 |m+1,i,t,hi,ht=>by
  have hlt:i<ws.length:=by omega
  have hx:=hw _ (List.getElem_mem hlt);obtain⟨t',h⟩:=DM r ws hl hw m (i+1) (t++ws[i]) (by omega) (by simp;omega);refine⟨t',?_⟩;rw[RU,BU,bz,aJ,Int.toNat_natCast,Nat.zero_add];refine(aR (I0 (List.getElem?_eq_getElem hlt))).trans ?_;refine(show _=_ from rfl:aC (rk Tryz.prog bC) _=aC (rk Tryz.prog bC) (aH (decide (t.length+(ws[i]).length<4611686018427387904)) _)).trans ?_;rw[aJ,Ww];exact aK h
def Wk(ws:List mP)(i:Nat):Prop:=ws.length<=100000+i/\∀w∈ws,w.length<=200000
theorem ui(k:IntKind)(zs:List Int):(ints k zs).all ES=true:=by simp[ints,ES]
abbrev tH(ba bh:Bool)(az hz:List Int)(ws:List mP)(i:Nat)(r:List V):Task:=
 .at_ 17 0 (fw 87) (zj ba (ints .u16 az) bh (ints .u8 hz) (.m 1 0 ws.length) (.m 2 0 20) (i:Int)) [] [.cells (wC kA) [],.cells (wC ws) [],.cells r []]
theorem Gt(ba bh:Bool)(az hz:List Int)(ws:List mP)(i:Nat)(r:List V)(hi:i<1000):
  RU (.at_ 17 0 (fw 919) (zj ba (ints .u16 az) bh (ints .u8 hz) (.m 1 0 ws.length) (.m 2 0 20) (i:Int)) [] [.cells (wC kA) [],.cells (wC ws) [],.cells r []])=RU (tH ba bh az hz ws (i+1) r):=by
 rw[RU,Gy,Ww];exact aA _
theorem QT(ba bh:Bool)(la lh:List D)(n:Int):(sv 133 [(1,vl ba la),(2,vl bh lh),(8,.m 2 0 20),(9,vi n)]).all (gV 1)=(la.all ES&&(lh.all ES&&true)):=by kernel_rfl
theorem QS(l r:List V):jf 1 [.cells (wC kA) [],.cells l [],.cells r []]=(r.all (gV 1)&&true):=by kernel_rfl
theorem y8(ba bh:Bool)(az hz:List Int)(c:Bool)(ws:List mP)(i:Nat)(l r:List V)(hr:r.all (gV 1)=true)(hi:i<1000):
  RU (.at_ 17 0 (fw 919) (My ba (ints .u16 az) bh (ints .u8 hz) c (ws.map .s) (.m 2 0 20) (i:Int)) [(7,39000001)] [.cells (wC kA) [],.cells l [],.cells r []])=RU (tH ba bh az hz ws (i+1) r):=by
 rw[RU,MO,ET,aN,QT,ui,ui];refine(iH rfl).trans ?_;rw[QS,hr];refine(iH rfl).trans ?_;rw[List.length_map];exact(aA _).trans (Gt ba bh az hz ws i r hi)
theorem Q7{n:Int}(hn:0<=n/\n<256):∃t,0<=(i64.wrap (u8.wrap (n.tdiv 4))).tmod 20/\(i64.wrap (u8.wrap (n.tdiv 4))).tmod 20<20/\(wC kA)[0+((i64.wrap (u8.wrap (n.tdiv 4))).tmod 20).toNat]?=some (vs t)/\t.length<=200000:=by
 obtain⟨N,rfl⟩:∃N:Nat,n=(N:Int):=⟨n.toNat,by omega⟩
 have e1:(N:Int).tdiv 4=((N / 4:Nat):Int):=rfl;rw[e1,wrap_u8 (by omega) (by omega),Ww];have e2:((N / 4:Nat):Int).tmod 20=((N / 4%20:Nat):Int):=rfl;rw[e2,Int.toNat_natCast,Nat.zero_add];obtain⟨t,h1,h2⟩:=Ot (N / 4%20) (Nat.mod_lt _ (by decide));exact⟨t,by omega,by omega,I0 h1,h2⟩
theorem MH(ba bh:Bool)(az hz:List Int)(ha:∀z∈az,0<=z/\z<65536)(hh:∀z∈hz,0<=z/\z<256)(hal:az.length<=3)(r:List V)(hr:r.all (gV 1)=true):∀(m i:Nat) (ws:List mP),i+m=az.length->Wk ws i->∃t:mP,RU (tH ba bh az hz ws i r)=some (vs t,[]):=by
 have done:∀(ws:List mP) (i:Nat),Wk ws i->i<=3->∃t:mP,RU (.at_ 17 0 (fw 791) (Iv ba (ints .u16 az) bh (ints .u8 hz) (.m 1 0 ws.length) (.m 2 0 20) (i:Int) false) [] [.cells (wC kA) [],.cells (wC ws) [],.cells r []])=some (vs t,[]):=by intro ws i hw hi;obtain⟨t,h⟩:=DM r ws (by have:=hw.1;omega) hw.2 ws.length 0 [] (by omega) (by simp);refine⟨t,?_⟩;rw[RU,BV,bo];exact aK h
 intro m
 induction m with
 |zero=>
  intro i ws hi hw;obtain⟨t,h⟩:=done ws i hw (by omega);refine⟨t,?_⟩;rw[RU,tB,cN,bn];exact aK h
 |succ m ih=>
  intro i ws hi hw;obtain⟨t0,h0⟩:=done ws i hw (by omega);have hia:i<az.length:=by omega
  by_cases hih:i<hz.length;rotate_left
  ·refine⟨t0,?_⟩;rw[RU,tB,cN,bz,cN,bn];exact aK h0
  by_cases hpos:0<ws.length;rotate_left
  ·refine⟨t0,?_⟩;rw[RU,tB,cN,bz,cN,bz,decide_eq_false (show ¬((ws.length:Int)>0) by omega)];exact aK h0
  have hA:=ha _ (List.getElem_mem hia);have hH:=hh _ (List.getElem_mem hih);have gA:(ints .u16 az)[i]?=some (.i .u16 az[i]):=by rw[eJ,List.getElem?_eq_getElem hia];rfl
  have gH:(ints .u8 hz)[i]?=some (.i .u8 hz[i]):=by rw[eJ,List.getElem?_eq_getElem hih];rfl
  generalize az[i]=A at hA gA;generalize hz[i]=H at hH gH;have w1:i64.wrap A=A:=U5;obtain⟨N,rfl⟩:∃N:Nat,A=(N:Int):=⟨A.toNat,by omega⟩
  have e:(N:Int).tmod (ws.length:Int)=((N%ws.length:Nat):Int):=rfl;have hlt:=Nat.mod_lt N hpos;generalize N%ws.length=k at e hlt;obtain⟨M,rfl⟩:∃M:Nat,H=(M:Int):=⟨H.toNat,by omega⟩
  have eM:(M:Int).tmod 4=((M%4:Nat):Int):=rfl;obtain⟨mt,m1,m2,m3,m4⟩:=Q7 hH;have hwl:=hw.1;have hmem:∀w∈ws,w.length<=200000:=hw.2;have step:∀ws':List mP,ws'.length<=ws.length+1->(∀w∈ws',w.length<=200000)->∃t:mP,RU (tH ba bh az hz ws' (i+1) r)=some (vs t,[]):=λ ws' h1 h2=>ih (i+1) ws' (by omega) ⟨by omega,h2⟩;have hmt:∀w∈ws.take k,w.length<=200000:=λ w h=>hmem w (List.mem_of_mem_take h);have hmd:∀j,∀w∈ws.drop j,w.length<=200000:=λ j w h=>hmem w (List.mem_of_mem_drop h);have t1:dn [Ob.cells (wC kA) [],.cells (wC ws) [],.cells r []] 1 (.m 1 0 (((k:Nat):Int).toNat-0))=some ((ws.take k).map D.s):=by rw[Int.toNat_natCast,Nat.sub_zero,IE _ _ ws 0 k (by omega),List.drop_zero]
  have t2:dn [Ob.cells (wC kA) [],.cells (wC ws) [],.cells r []] 1 (.m 1 (0+((k:Nat):Int).toNat) (ws.length-((k:Nat):Int).toNat))=some ((ws.drop k).map D.s):=by rw[Int.toNat_natCast,Nat.zero_add,IE _ _ ws k _ (by omega),List.take_of_length_le (by rw[List.length_drop];omega)]
  have lt1:(ws.take k).length<=100010:=by rw[List.length_take];omega
  have start:∀(o:Option Out),RU (.at_ 17 0 (fw 791) (Iv ba (ints .u16 az) bh (ints .u8 hz) (.m 1 0 ws.length) (.m 2 0 20) (i:Int) true) [] [.cells (wC kA) [],.cells (wC ws) [],.cells r []])=o->RU (tH ba bh az hz ws i r)=o:=by intro o h;rw[RU,tB,cN,bz,cN,bz,decide_eq_true (show ((ws.length:Int)>0) by omega)];exact(aA _).trans h
  have q4:M%4=0\/M%4=1\/M%4=2\/M%4=3:=by omega
  have body:RU _=aC RU _:=BV ba (ints .u16 az) bh (ints .u8 hz) ws.length (i:Int) true (wC kA) (wC ws) r;rw[bF]at body;rcases q4 with q|q|q|q
  ·-- taken out
   obtain⟨t,h⟩:=step (ws.take k++ws.drop (k+1)) (by simp;omega) (λ w h=>by
    rcases List.mem_append.1 h with h|h
    ·exact hmt w h
    ·exact hmd _ w h)
   refine⟨t,start _ (body.trans ?_)⟩;refine(uV (j:=0) gA rfl rfl).trans ?_;rw[w1,e,aJ];refine(uV (j:=0) gH rfl rfl).trans ?_;rw[eM,bK,aJ];refine(aR t1).trans ?_;refine(iH (oi _)).trans ?_;rw[aJ (by rw[List.length_map];omega),Ww,aJ];have t3:dn [Ob.cells (wC kA) [],.cells (wC ws) [],.cells r []] 1 (.m 1 (0+((k:Int)+1).toNat) (ws.length-((k:Int)+1).toNat))=some ((ws.drop (k+1)).map D.s):=by rw[show ((k:Int)+1).toNat=k+1 by omega,Nat.zero_add,IE _ _ ws (k+1) _ (by omega),List.take_of_length_le (by rw[List.length_drop];omega)]
   refine(aR t3).trans ?_;refine(iH (oi _)).trans ?_;refine(iH (oi _)).trans ?_;refine(iH (by rw[CN,Bool.or_true])).trans ?_;rw[aJ (by simp;omega),List.nil_append,<-List.map_append];exact(aA _).trans ((y8 ba bh az hz _ _ i _ r hr (by omega)).trans h)
  ·-- doubled
   have hk:ws[k]?=some ws[k]:=List.getElem?_eq_getElem hlt;obtain⟨t,h⟩:=step (ws.take k++[ws[k]]++ws.drop k) (by simp;omega) (λ w h=>by
    rcases List.mem_append.1 h with h|h
    ·rcases List.mem_append.1 h with h|h
     ·exact hmt w h
     ·rw[List.mem_singleton.1 h];exact hmem _ (List.getElem_mem hlt)
    ·exact hmd _ w h)
   refine⟨t,start _ (body.trans ?_)⟩;refine(uV (j:=0) gA rfl rfl).trans ?_;rw[w1,e,aJ];refine(uV (j:=0) gH rfl rfl).trans ?_;rw[eM,bu,bK,aJ];refine(aR t1).trans ?_;refine(iH (oi _)).trans ?_;rw[aJ (by rw[List.length_map];omega),aJ];refine(aR (a:=vs ws[k]) (by rw[Int.toNat_natCast,Nat.zero_add];exact I0 hk)).trans ?_;show aC RU (aH (bw 1 ([]++(ws.take k).map D.s)) _)=_;refine(iH (oi _)).trans ?_;refine(iH (by rw[Bool.or_true])).trans ?_;rw[aJ (by simp;omega),aJ];refine(aR t2).trans ?_;have hcat:[]++(ws.take k).map D.s++[D.s ws[k]]=(ws.take k++[ws[k]]).map D.s:=by rw[List.nil_append,List.map_append];rfl
   rw[hcat];refine(iH (oi _)).trans ?_;refine(iH (oi _)).trans ?_;refine(iH (by rw[CN,Bool.or_true])).trans ?_;rw[aJ (by simp;omega),<-List.map_append];exact(aA _).trans ((y8 ba bh az hz _ _ i _ r hr (by omega)).trans h)
  ·-- another one's
   obtain⟨t,h⟩:=step (ws.set k mt) (by simp) (λ w h=>by
    rcases List.mem_or_eq_of_mem_set h with h|h
    ·exact hmem w h
    ·rw[h];exact m4)
   refine⟨t,start _ (body.trans ?_)⟩;refine(uV (j:=0) gA rfl rfl).trans ?_;rw[w1,e,aJ];refine(uV (j:=0) gH rfl rfl).trans ?_;rw[eM,bu,bu,bK];refine(uV (j:=0) gH rfl rfl).trans ?_;rw[aJ ⟨m1,m2⟩];refine(aR m3).trans ?_;show aC RU (aH (decide (0<=((k:Nat):Int)/\((k:Nat):Int)<(ws.length:Int))) _)=_;rw[aJ,Int.toNat_natCast,Nat.zero_add];refine(iH (by rw[decide_eq_true (show k<(wC ws).length by rw[PY];exact hlt)];rfl)).trans ?_;rw[Us];have:=(Gt ba bh az hz (ws.set k mt) i r (by omega)).trans h;rw[List.length_set]at this;exact(aA _).trans this
  ·-- another one's ahead of it
   obtain⟨t,h⟩:=step (ws.take k++[mt]++ws.drop k) (by simp;omega) (λ w h=>by
    rcases List.mem_append.1 h with h|h
    ·rcases List.mem_append.1 h with h|h
     ·exact hmt w h
     ·rw[List.mem_singleton.1 h];exact m4
    ·exact hmd _ w h)
   refine⟨t,start _ (body.trans ?_)⟩;refine(uV (j:=0) gA rfl rfl).trans ?_;rw[w1,e,aJ];refine(uV (j:=0) gH rfl rfl).trans ?_;rw[eM,bu,bu,bu,aJ];refine(aR t1).trans ?_;refine(iH (oi _)).trans ?_;rw[aJ (by rw[List.length_map];omega)];refine(uV (j:=0) gH rfl rfl).trans ?_;rw[aJ ⟨m1,m2⟩];refine(aR m3).trans ?_;show aC RU (aH (bw 1 ([]++(ws.take k).map D.s)) _)=_;refine(iH (oi _)).trans ?_;refine(iH (by rw[Bool.or_true])).trans ?_;rw[aJ (by simp;omega),aJ];refine(aR t2).trans ?_;have hcat:[]++(ws.take k).map D.s++[D.s mt]=(ws.take k++[mt]).map D.s:=by rw[List.nil_append,List.map_append];rfl
   rw[hcat];refine(iH (oi _)).trans ?_;refine(iH (oi _)).trans ?_;refine(iH (by rw[CN,Bool.or_true])).trans ?_;rw[aJ (by simp;omega),<-List.map_append];exact(aA _).trans ((y8 ba bh az hz _ _ i _ r hr (by omega)).trans h)
theorem PK(zs az hz:List Int)(h1:∀z∈zs,0<=z/\z<256)(h2:∀z∈az,0<=z/\z<65536)(h3:∀z∈hz,0<=z/\z<256)(l1:zs.length<=100)(l2:az.length<=3)(ba bh:Bool):
  ∃t:mP,RU (.call 17 (pB false (ints .u8 zs) ba (ints .u16 az) bh (ints .u8 hz)) [])=some (vs t,[]):=by
 obtain⟨x,rs,n1,hx,_,_,_,e1⟩:=QQ (Vp h1 (by omega));have wx:=Q5 hx;have lx:(lG x).length<=900000000:=Nat.le_trans (LN hx) (by omega);obtain⟨ws,g1,g2,g3⟩:=R8 (lG x);obtain⟨t,ht⟩:=MH ba bh az hz h2 h3 l2 (iN zs n1) (by simp[gV,ui]) az.length 0 ws (by omega) ⟨by omega,g2⟩;refine⟨t,?_⟩;have p2:=SI (J9 x wx lx) (by decide) (by decide);have m1:=SI (TI zs) (by decide) (by decide);have f1:=Ur e1 (by decide) (by decide);have gx:(x::rs)[0]?=some x:=rfl;rw[RU,Xy];refine(Xb m1 rfl).trans ?_;refine(uH (m:=2) (fl':=[]) f1 rfl rfl).trans ?_;obtain⟨_,_,_,_,rfl,_⟩:=hx;refine(qn (i:=0) gx rfl).trans ?_;refine(fh p2).trans ?_;refine(cp g3).trans ?_;show aC RU (aH (bG 0 (wC ws)) _)=_;rw[J6,aN];exact aK ht
end Go.Dn.Dec.Pa
namespace Go.Dn.Dec
open Go.IntKind (i64 u64 u8 u16 i32 u32)
open Go.Proofs
theorem Yp(b:Bool)(l:List D)(c:Bool)(m:List D)(e:Bool)(n:List D):EQ gb (.call 4 (pB b l c m e n) []) (cV (.call 9 [] []) λ a=>aB a λ f=>aM (!f) (.ret (vb false,[])) (aM (decide ((l.length:Int)>100)) (.call (.at_ 4 0 (fw 27) (NC b l c m e n true) [] []) .ret) (.call (.at_ 4 0 (fw 27) (NC b l c m e n (decide ((m.length:Int)>3))) [] []) .ret))):=bU
theorem J4(b0:Bool)(l1:List D)(b2:Bool)(l3:List D)(b4:Bool)(l5:List D)(b6:Bool):EQ gb (.at_ 4 0 (fw 27) (NC b0 l1 b2 l3 b4 l5 b6) [] []) (aM b6 (.ret (vb true,[])) (cV (.call 17 (pB b0 l1 b2 l3 b4 l5) []) λ a=>aS a λ c=>cV (.call 16 [vs c] []) λ e=>cL e λ f=>aH (f.length==3) (bm (Ul f 0) λ h=>jM 3 h λ i=>bm (Ul f 1) λ j=>bR .i64 j λ k=>bm (Ul f 2) λ m=>bR .i64 m λ n=>aH ([.d (pb i 0),.d (pb i 1),.d (pb i 2)].all V.one) (aM (k != 0) (.ret (vb true,[])) (cV (.call 12 [.d (.g [i.getD 0 (.b false),i.getD 1 (.b false),i.getD 2 (.b false)])] []) λ o=>aS o λ p=>cV (.call 13 [.d (.g [i.getD 0 (.b false),i.getD 1 (.b false),i.getD 2 (.b false)])] []) λ q=>aS q λ r => .ret (vb (p==r),[])))))):=bU
theorem YC(d:List V)(c:V)(b:Bool)(l:List D)(s:mP):EQ bA (.call 56 [.p 1 0,vs s] [.cells [c,vl b l] Uk,.cells d []]) (c2 (.call 122 [.p 1 0] [.cells [c,vl b l] Uk,.cells d []]) 2 Uk d.length [] λ a e f=>cL a λ g=>aH (g.length==0) (ob e[1]? λ h=>bm ((sv 19 [(0,.p 1 0),(1,vs s),(4,vi 0),(5,V.nifc),(6,.p 1 0),(7,.t []),(8,.p 1 0),(9,.p 1 0),(10,.p 1 0),(11,.p 1 1),(12,h),(13,vs s)]).getD 12 V.u) λ j=>fT j λ k m=>aH (bw 1 m) (aH (bw 1 (ofBytes s)) (aH (k||dK (ofBytes s)) (aH (decide (m.length+(ofBytes s).length<=4294967296)) (aH (decide (1<e.length)&&true) (.ret (.t [vi (s.length:Int),V.nifc],[.cells (e.set 1 (vl (k&&(ofBytes s).isEmpty) (m++ofBytes s))) Uk,.cells f []])))))))):=bU
theorem Yw(d c:List V)(b:Bool)(l:List D):EQ bA (.call 27 [.p 1 0,vl b l] [.cells c Uk,.cells d []]) (.call (.at_ 27 2 (fw 5) (EL b l (l.length:Int) 0) [] [.cells c Uk,.cells d []]) .ret):=bU
theorem XR(d c:List V)(nm:mP)(h:Bool)(n:Int):EQ bA (.call 58 [.p 1 0,.d (.g [.s nm,.b h,.i .i64 n])] [.cells c Uk,.cells d []]) (c2 (.call 27 [.p 1 0,vl true [.s [32,32],.s nm]] [.cells c Uk,.cells d []]) c.length Uk d.length [] λ a e f=>cL a λ j=>aH (j.length==0) (aM h (cV (.call 49 [vi n,vi 10] []) λ k=>aS k λ m=>c2 (.call 27 [.p 1 0,vl true [.s [32,61,32],.s m]] [.cells e Uk,.cells f []]) e.length Uk f.length [] λ o q r=>cL o λ t=>aH (t.length==0) (.call (.at_ 58 2 (fw 15) HS [] [.cells q Uk,.cells r []]) .ret)) (.call (.at_ 58 2 (fw 15) HS [] [.cells e Uk,.cells f []]) .ret))):=bU
theorem XS(d c:List V)(nm:mP)(ow:Bool)(ret:mP)(ab:Bool)(al:List D)(tb:Bool)(tl:List D):EQ bA (.call 60 [.p 1 0,.d (.g [.s nm,.b ow,.s ret,.l ab al,.l tb tl])] [.cells c Uk,.cells d []]) (c2 (.call 27 [.p 1 0,vl true [.s [32,32]]] [.cells c Uk,.cells d []]) c.length Uk d.length [] λ a e f=>cL a λ h=>aH (h.length==0) (aM ow (c2 (.call 27 [.p 1 0,vl true [.s [111,110,101,119,97,121,32]]] [.cells e Uk,.cells f []]) e.length Uk f.length [] λ i j k=>cL i λ m=>aH (m.length==0) (.call (.at_ 60 2 (fw 15) Gg [] [.cells (tF nm ow ret ab al tb tl) [],.cells j Uk,.cells k []]) .ret)) (.call (.at_ 60 2 (fw 15) Gg [] [.cells (tF nm ow ret ab al tb tl) [],.cells e Uk,.cells f []]) .ret))):=bU
theorem Uv(d c:List V)(kd:Int)(nm ty:mP)(ck cn cu:Int)(cs:mP)(cb:Bool)(cl:List D)(fb:Bool)(fl:List D)(mb:Bool)(ml:List D)(ex:mP)(tb:Bool)(tl:List D):EQ bA (.call 29 [.p 1 0,.d (.g [.i .i64 kd,.s nm,.s ty,.i .i64 ck,.i .i64 cn,.i .u64 cu,.s cs,.l cb cl,.l fb fl,.l mb ml,.s ex,.l tb tl])] [.cells c Uk,.cells d []]) (aM (kd==1) (c2 (.call 27 [.p 1 0,vl true [.s [116,121,112,101,100,101,102,32],.s ty,.s [32],.s nm,.s [10]]] [.cells c Uk,.cells d []]) c.length Uk d.length [] λ a e f=>cL a λ h=>aH (h.length==0) (.ret (.t [],[.cells e Uk,.cells f []]))) (aM (kd==3) (cV (.call 23 [.d (.g [.i .i64 ck,.i .i64 cn,.i .u64 cu,.s cs,.l cb cl])] []) λ j=>aS j λ k=>c2 (.call 27 [.p 1 0,vl true [.s [99,111,110,115,116,32],.s ty,.s [32],.s nm,.s [32,61,32],.s k,.s [10]]] [.cells c Uk,.cells d []]) c.length Uk d.length [] λ m n o=>cL m λ q=>aH (q.length==0) (.ret (.t [],[.cells n Uk,.cells o []]))) (aM (kd==2) (c2 (.call 27 [.p 1 0,vl true [.s [101,110,117,109,32],.s nm,.s [32,123,10]]] [.cells c Uk,.cells d []]) c.length Uk d.length [] λ r zu v=>cL r λ w=>aH (w.length==0) (.call (.at_ 29 2 (fw 11003) (Eg mb ml (ml.length:Int) 0) [] [.cells zu Uk,.cells v []]) .ret)) (aM (kd==4) (.call (.at_ 29 2 (fw 2043) (Iq kd (kd==4)) [] [.cells (nY kd nm ty ck cn cu cs cb cl fb fl mb ml ex tb tl) [],.cells c Uk,.cells d []]) .ret) (aM (kd==5) (.call (.at_ 29 2 (fw 2043) (Iq kd (kd==5)) [] [.cells (nY kd nm ty ck cn cu cs cb cl fb fl mb ml ex tb tl) [],.cells c Uk,.cells d []]) .ret) (.call (.at_ 29 2 (fw 2043) (Iq kd (kd==6)) [] [.cells (nY kd nm ty ck cn cu cs cb cl fb fl mb ml ex tb tl) [],.cells c Uk,.cells d []]) .ret)))))):=bU
theorem Yq(ib:Bool)(il:List D)(sb:Bool)(sl:List D)(db:Bool)(dl:List D):EQ bA (.call 12 [.d (.g [.l ib il,.l sb sl,.l db dl])] []) (.call (.at_ 12 0 (fw 43) (Py ib il (il.length:Int) 0) [] [.cells [.d D.np,vl true []] Uk,.cells (pB ib il sb sl db dl) []]) .ret):=bU
theorem VO(ab:Bool)(al:List D)(n m:Int)(c:V)(b:Bool)(l:List D)(ib:Bool)(il:List D)(sb:Bool)(sl:List D)(db:Bool)(dl:List D):EQ bA (.at_ 12 0 (fw 43) (Py ab al n m) [] [.cells [c,vl b l] Uk,.cells (pB ib il sb sl db dl) []]) (aM (decide (m<n)) (eC al m 1 0 λ a=>eF a λ e=>cV (.call 28 [vs e] []) λ f=>aS f λ g=>c2 (.call 27 [.p 1 0,vl true [.s [105,110,99,108,117,100,101,32],.s g,.s [10]]] [.cells [c,vl b l] Uk,.cells (pB ib il sb sl db dl) []]) 2 Uk 3 [] λ h j k=>cL h λ o=>aH (o.length==0) (.call (.at_ 12 0 (fw 43) (Py ab al n (i64.wrap (m+1))) [] [.cells j Uk,.cells k []]) .ret)) (.call (.at_ 12 0 (fw 87) (PH sb sl (sl.length:Int) 0) [] [.cells [c,vl b l] Uk,.cells (pB ib il sb sl db dl) []]) .ret)):=bU
theorem VP(ab:Bool)(al:List D)(n m:Int)(c:V)(b:Bool)(l:List D)(ib:Bool)(il:List D)(sb:Bool)(sl:List D)(db:Bool)(dl:List D):EQ bA (.at_ 12 0 (fw 87) (PH ab al n m) [] [.cells [c,vl b l] Uk,.cells (pB ib il sb sl db dl) []]) (aM (decide (m<n)) (eL al m 2 λ a=>aH ([.d (gD 2 0 a 0),.d (gD 2 0 a 1)].all V.one) (eF (gD 2 0 a 0) λ e=>eF (gD 2 0 a 1) λ f=>c2 (.call 27 [.p 1 0,vl true [.s [110,97,109,101,115,112,97,99,101,32],.s e,.s [32],.s f,.s [10]]] [.cells [c,vl b l] Uk,.cells (pB ib il sb sl db dl) []]) 2 Uk 3 [] λ g h j=>cL g λ k=>aH (k.length==0) (.call (.at_ 12 0 (fw 87) (PH ab al n (i64.wrap (m+1))) [] [.cells h Uk,.cells j []]) .ret))) (.call (.at_ 12 0 (fw 175) (Es db dl (dl.length:Int) 0) [] [.cells [c,vl b l] Uk,.cells (pB ib il sb sl db dl) []]) .ret)):=bU
theorem VQ(ab:Bool)(al:List D)(n m:Int)(c:V)(b:Bool)(l:List D)(ib:Bool)(il:List D)(sb:Bool)(sl:List D)(db:Bool)(dl:List D):EQ bA (.at_ 12 0 (fw 175) (Es ab al n m) [] [.cells [c,vl b l] Uk,.cells (pB ib il sb sl db dl) []]) (aM (decide (m<n)) (eL al m 12 λ a=>aH ([.d (gD 12 0 a 0),.d (gD 12 0 a 1),.d (gD 12 0 a 2),.d (gD 12 0 a 3),.d (gD 12 0 a 4),.d (gD 12 0 a 5),.d (gD 12 0 a 6),.d (gD 12 0 a 7),.d (gD 12 0 a 8),.d (gD 12 0 a 9),.d (gD 12 0 a 10),.d (gD 12 0 a 11)].all V.one) (c2 (.call 29 [.p 1 0,.d (.g [gD 12 0 a 0,gD 12 0 a 1,gD 12 0 a 2,gD 12 0 a 3,gD 12 0 a 4,gD 12 0 a 5,gD 12 0 a 6,gD 12 0 a 7,gD 12 0 a 8,gD 12 0 a 9,gD 12 0 a 10,gD 12 0 a 11])] [.cells [c,vl b l] Uk,.cells (pB ib il sb sl db dl) []]) 2 Uk 3 [] λ e f h=>cL e λ j=>aH (j.length==0) (.call (.at_ 12 0 (fw 175) (Es ab al n (i64.wrap (m+1))) [] [.cells f Uk,.cells h []]) .ret))) (c2 (.call 30 [.p 1 0] [.cells [c,vl b l] Uk,.cells (pB ib il sb sl db dl) []]) 2 Uk 3 [] λ k o q=>aS k λ r => .ret (vs r,[]))):=bU
theorem KD(b0:Bool)(l1:List D)(n2 n3:Int)(l4 l5:List V):EQ bA (.at_ 27 2 (fw 5) (EL b0 l1 n2 n3) [] [.cells l4 Uk,.cells l5 []]) (aM (decide (n3<n2)) (eC l1 n3 1 0 λ a=>eF a λ c=>c2 (.call 56 [.p 1 0,vs c] [.cells l4 Uk,.cells l5 []]) l4.length Uk l5.length [] λ e f g=>cL e λ h=>aH (h.length==2) (bm (Ul h 0) λ j=>bR .i64 j λ k=>aH (decide (oF (.t [vi k,h.getD 1 (vb false)])<=2)) (.call (.at_ 27 2 (fw 5) (EL b0 l1 n2 (i64.wrap (n3+1))) [] [.cells f Uk,.cells g []]) .ret))) (.ret (.t [],[.cells l4 Uk,.cells l5 []]))):=bU
theorem P5(l0 l1:List V):EQ bA (.at_ 58 2 (fw 15) HS [] [.cells l0 Uk,.cells l1 []]) (c2 (.call 27 [.p 1 0,vl true [.s [44,10]]] [.cells l0 Uk,.cells l1 []]) l0.length Uk l1.length [] λ a b c=>cL a λ e=>aH (e.length==0) (.ret (.t [],[.cells b Uk,.cells c []]))):=bU
theorem GH(l0:mP)(b1:Bool)(l2:mP)(b3:Bool)(l4:List D)(b5:Bool)(l6:List D)(l7 l8:List V):EQ bA (.at_ 60 2 (fw 15) Gg [] [.cells (tF l0 b1 l2 b3 l4 b5 l6) [],.cells l7 Uk,.cells l8 []]) (cV (.call 124 [vl b3 l4] []) λ a=>aS a λ c=>c2 (.call 27 [.p 1 0,vl true [.s l2,.s [32],.s l0,.s [40],.s c,.s [41]]] [.cells l7 Uk,.cells l8 []]) l7.length Uk l8.length [] λ e f g=>cL e λ h=>aH (h.length==0) (aM (decide ((l6.length:Int)>0)) (cV (.call 124 [vl b5 l6] []) λ i=>aS i λ j=>c2 (.call 27 [.p 1 0,vl true [.s [32,116,104,114,111,119,115,32,40],.s j,.s [41]]] [.cells f Uk,.cells g []]) f.length Uk g.length [] λ k m n=>cL k λ o=>aH (o.length==0) (.call (.at_ 60 2 (fw 63) HT [] [.cells m Uk,.cells n []]) .ret)) (.call (.at_ 60 2 (fw 63) HT [] [.cells f Uk,.cells g []]) .ret))):=bU
theorem vW(b0:Bool)(l1:List D)(n2 n3:Int)(l4 l5:List V):EQ bA (.at_ 29 2 (fw 11003) (Eg b0 l1 n2 n3) [] [.cells l4 Uk,.cells l5 []]) (aM (decide (n3<n2)) (eL l1 n3 3 λ a=>aH ([.d (gD 3 0 a 0),.d (gD 3 0 a 1),.d (gD 3 0 a 2)].all V.one) (c2 (.call 58 [.p 1 0,.d (.g [gD 3 0 a 0,gD 3 0 a 1,gD 3 0 a 2])] [.cells l4 Uk,.cells l5 []]) l4.length Uk l5.length [] λ b c e=>cL b λ f=>aH (f.length==0) (.call (.at_ 29 2 (fw 11003) (Eg b0 l1 n2 (i64.wrap (n3+1))) [] [.cells c Uk,.cells e []]) .ret))) (c2 (.call 27 [.p 1 0,vl true [.s [125,10]]] [.cells l4 Uk,.cells l5 []]) l4.length Uk l5.length [] λ h j k=>cL h λ m=>aH (m.length==0) (.ret (.t [],[.cells j Uk,.cells k []])))):=bU
theorem rT(n0:Int)(b1:Bool)(n2:Int)(l3 l4:mP)(n5 n6 n7:Int)(l8:mP)(b9:Bool)(l10:List D)(b11:Bool)(l12:List D)(b13:Bool)(l14:List D)(l15:mP)(b16:Bool)(l17:List D)(l18 l19:List V):EQ bA (.at_ 29 2 (fw 2043) (Iq n0 b1) [] [.cells (nY n2 l3 l4 n5 n6 n7 l8 b9 l10 b11 l12 b13 l14 l15 b16 l17) [],.cells l18 Uk,.cells l19 []]) (aM b1 (eC [.s [115,116,114,117,99,116,32],.s [117,110,105,111,110,32],.s [101,120,99,101,112,116,105,111,110,32]] (i64.wrap (n2-4)) 1 0 λ a=>eF a λ c=>c2 (.call 27 [.p 1 0,vl true [.s c,.s l3,.s [32,123,10]]] [.cells l18 Uk,.cells l19 []]) l18.length Uk l19.length [] λ e f g=>cL e λ h=>aH (h.length==0) (.call (.at_ 29 2 (fw 44027) (Eh b11 l12 (l12.length:Int) 0) [] [.cells f Uk,.cells g []]) .ret)) (aM (n0==7) (c2 (.call 27 [.p 1 0,vl true [.s [115,101,114,118,105,99,101,32],.s l3]] [.cells l18 Uk,.cells l19 []]) l18.length Uk l19.length [] λ j k m=>cL j λ n=>aH (n.length==0) (aM (!l15==[]) (c2 (.call 27 [.p 1 0,vl true [.s [32,101,120,116,101,110,100,115,32],.s l15]] [.cells k Uk,.cells m []]) k.length Uk m.length [] λ o q r=>cL o λ zu=>aH (zu.length==0) (.call (.at_ 29 2 (fw 61435) Gf [] [.cells (nY n2 l3 l4 n5 n6 n7 l8 b9 l10 b11 l12 b13 l14 l15 b16 l17) [],.cells q Uk,.cells r []]) .ret)) (.call (.at_ 29 2 (fw 61435) Gf [] [.cells (nY n2 l3 l4 n5 n6 n7 l8 b9 l10 b11 l12 b13 l14 l15 b16 l17) [],.cells k Uk,.cells m []]) .ret))) (.ret (.t [],[.cells l18 Uk,.cells l19 []])))):=bU
theorem P8(l0 l1:List V):EQ bA (.at_ 60 2 (fw 63) HT [] [.cells l0 Uk,.cells l1 []]) (c2 (.call 27 [.p 1 0,vl true [.s [44,10]]] [.cells l0 Uk,.cells l1 []]) l0.length Uk l1.length [] λ a b c=>cL a λ e=>aH (e.length==0) (.ret (.t [],[.cells b Uk,.cells c []]))):=bU
theorem vX(b0:Bool)(l1:List D)(n2 n3:Int)(l4 l5:List V):EQ bA (.at_ 29 2 (fw 44027) (Eh b0 l1 n2 n3) [] [.cells l4 Uk,.cells l5 []]) (aM (decide (n3<n2)) (eL l1 n3 11 λ a=>aH ([.d (gD 11 0 a 0),.d (gD 11 0 a 1),.d (gD 11 0 a 2),.d (gD 11 0 a 3),.d (gD 11 0 a 4),.d (gD 11 0 a 5),.d (gD 11 0 a 6),.d (gD 11 0 a 7),.d (gD 11 0 a 8),.d (gD 11 0 a 9),.d (gD 11 0 a 10)].all V.one) (cV (.call 59 [.d (.g [gD 11 0 a 0,gD 11 0 a 1,gD 11 0 a 2,gD 11 0 a 3,gD 11 0 a 4,gD 11 0 a 5,gD 11 0 a 6,gD 11 0 a 7,gD 11 0 a 8,gD 11 0 a 9,gD 11 0 a 10])] []) λ b=>aS b λ c=>c2 (.call 27 [.p 1 0,vl true [.s [32,32],.s c,.s [44,10]]] [.cells l4 Uk,.cells l5 []]) l4.length Uk l5.length [] λ e f h=>cL e λ j=>aH (j.length==0) (.call (.at_ 29 2 (fw 44027) (Eh b0 l1 n2 (i64.wrap (n3+1))) [] [.cells f Uk,.cells h []]) .ret))) (c2 (.call 27 [.p 1 0,vl true [.s [125,10]]] [.cells l4 Uk,.cells l5 []]) l4.length Uk l5.length [] λ k m n=>cL k λ o=>aH (o.length==0) (.ret (.t [],[.cells m Uk,.cells n []])))):=bU
theorem GD(n0:Int)(l1 l2:mP)(n3 n4 n5:Int)(l6:mP)(b7:Bool)(l8:List D)(b9:Bool)(l10:List D)(b11:Bool)(l12:List D)(l13:mP)(b14:Bool)(l15:List D)(l16 l17:List V):EQ bA (.at_ 29 2 (fw 61435) Gf [] [.cells (nY n0 l1 l2 n3 n4 n5 l6 b7 l8 b9 l10 b11 l12 l13 b14 l15) [],.cells l16 Uk,.cells l17 []]) (c2 (.call 27 [.p 1 0,vl true [.s [32,123,10]]] [.cells l16 Uk,.cells l17 []]) l16.length Uk l17.length [] λ a b c=>cL a λ e=>aH (e.length==0) (.call (.at_ 29 2 (fw 716795) (RM b14 l15 (l15.length:Int) 0) [] [.cells b Uk,.cells c []]) .ret)):=bU
theorem tJ(b0:Bool)(l1:List D)(n2 n3:Int)(l4 l5:List V):EQ bA (.at_ 29 2 (fw 716795) (RM b0 l1 n2 n3) [] [.cells l4 Uk,.cells l5 []]) (aM (decide (n3<n2)) (eL l1 n3 5 λ a=>aH ([.d (gD 5 0 a 0),.d (gD 5 0 a 1),.d (gD 5 0 a 2),.d (gD 5 0 a 3),.d (gD 5 0 a 4)].all V.one) (c2 (.call 60 [.p 1 0,.d (.g [gD 5 0 a 0,gD 5 0 a 1,gD 5 0 a 2,gD 5 0 a 3,gD 5 0 a 4])] [.cells l4 Uk,.cells l5 []]) l4.length Uk l5.length [] λ b c e=>cL b λ f=>aH (f.length==0) (.call (.at_ 29 2 (fw 716795) (RM b0 l1 n2 (i64.wrap (n3+1))) [] [.cells c Uk,.cells e []]) .ret))) (c2 (.call 27 [.p 1 0,vl true [.s [125,10]]] [.cells l4 Uk,.cells l5 []]) l4.length Uk l5.length [] λ h j k=>cL h λ m=>aH (m.length==0) (.ret (.t [],[.cells j Uk,.cells k []])))):=bU
def CW(c:V):Prop:=c=V.d D.np\/c=V.p 1 0
abbrev ei:Fl:=Uk
abbrev Qg(c:V)(b:Bool)(t:mP):List V:=[c,vl b (ofBytes t)]
def Ja(d:List V)(T:List V->Task)(t u:mP):Prop:=∀c b,CW c->∃c' b',CW c'/\RY (T (Qg c b t))=some (.t [],[Ob.cells (Qg c' b' (t++u)) ei,Ob.cells d []])
theorem jE{f:Task->Option Out}{t:Task}{cs ds:List V}{m n:Nat}{K:List V->List V->Tr}(h:f t=some (.t [],[.cells cs ei,.cells ds []]))(hm:cs.length=m)(hn:ds.length=n):
  aC f (.call t λ o=>ee o.snd λ x l2=>dx x λ c g=>aH (c.length==m) (aH (g==ei) (ee l2 λ x5 l6=>dx x5 λ c7 g8=>aH (c7.length==n) (aH (g8==[]) (iK l6 (cL o.fst λ v=>aH (v.length==0) (K c c7)))))))=aC f (K cs ds):=by
 rw[cp h];show aC f (aH (cs.length==m) (aH (ei==ei) (aH (ds.length==n) (aH true (aH true (K cs ds))))))=_;rw[hm,beq_self_eq_true,aN,show (ei==ei)=true from rfl,aN,hn,beq_self_eq_true,aN,aN,aN]
theorem Vw{f:Task->Option Out}{t:Task}{cs ds:List V}{m n:Nat}{q:Int}{K:List V->List V->Tr}(h:f t=some (.t [.d (.i .i64 q),.nifc],[.cells cs ei,.cells ds []]))(hm:cs.length=m)(hn:ds.length=n):
  aC f (.call t λ o=>ee o.snd λ x l2=>dx x λ c g=>aH (c.length==m) (aH (g==ei) (ee l2 λ x5 l6=>dx x5 λ c7 g8=>aH (c7.length==n) (aH (g8==[]) (iK l6 (cL o.fst λ v=>aH (v.length==2) (bm (Ul v 0) λ (d:D)=>bR i64 d λ (y:Int)=>aH (decide (oF (V.t [vi y,v.getD 1 (vb false)])<=2)) (K c c7))))))))
   = aC f (K cs ds):=by
 rw[cp h];show aC f (aH (cs.length==m) (aH (ei==ei) (aH (ds.length==n) (aH true (aH true (bR i64 (.i .i64 q) λ (y:Int)=>aH (decide (oF (V.t [vi y,V.nifc])<=2)) (K cs ds)))))))=_;rw[hm,beq_self_eq_true,aN,show (ei==ei)=true from rfl,aN,hn,beq_self_eq_true,aN,aN,aN,bS];exact aN
theorem UT{f:Task->Option Out}{v:V}{b:Bool}{l:List D}{K:Bool->List D->Tr}(h:v = .d (.l b l)):aC f (bm v λ d=>fT d K)=aC f (K b l):=by subst h;rfl
theorem ym(a b:mP):ofBytes (a++b)=ofBytes a++ofBytes b:=by simp[ofBytes]
theorem Ju(s:mP):bw 1 (ofBytes s)=true:=by cases s<;>rfl
theorem T1(s:mP):dK (ofBytes s)=true:=by simp[dK,ofBytes,D.cells,V.one]
theorem N7(s:mP):(ofBytes s).length=s.length:=by simp[ofBytes]
theorem UY(d:List V)(c x:V)(hc:CW c):RY (.call 122 [V.p 1 0] [Ob.cells [c,x] ei,Ob.cells d []])=some (.t [],[Ob.cells [V.p 1 0,x] ei,Ob.cells d []]):=by rw[iW (g:=wg) rfl];rcases hc with rfl|rfl<;>rfl
theorem R9(d:List V)(s t:mP)(h:t.length+s.length<=1000000000)(c:V)(b:Bool)(hc:CW c):
  RY (.call 56 [V.p 1 0,vs s] [Ob.cells (Qg c b t) ei,Ob.cells d []])=some (.t [.d (.i .i64 (s.length:Int)),.nifc],[Ob.cells (Qg (V.p 1 0) (b&&(ofBytes s).isEmpty) (t++s)) ei,Ob.cells d []]):=by
 rw[RY,YC];refine(jE (UY d c _ hc) rfl rfl).trans ?_;refine(aR rfl).trans ?_;refine(UT (b:=b) (l:=ofBytes t) rfl).trans ?_;rw[Ju,aN,Ju,aN,T1,Bool.or_true,aN,aJ (by rw[N7,N7];omega)];refine aN.trans ?_;rw[aD,<-ym];rfl
theorem FB(d:List V)(l:List mP)(fb:Bool)(hl:l.length<=1000):∀(r p:List mP) (t:mP),p++r=l->t.length+r.flatten.length<=1000000000->
  Ja d (λ cs=>Task.at_ 27 2 (fw 5) (EL fb (l.map D.s) (l.length:Int) (p.length:Int)) [] [Ob.cells cs ei,Ob.cells d []]) t r.flatten
 | [],p,t,e,h=>λ c b hc=>by
  refine⟨c,b,hc,?_⟩;rw[List.append_nil]at e;subst e;rw[RY,KD,bn];simp only[List.flatten_nil,List.append_nil,aD]
 |s::r,p,t,e,h=>λ c b hc=>by
  have hlen:l.length=p.length+(r.length+1):=by rw[<-e];simp
  have w1:=Wv p.length;have g:(l.map D.s)[p.length]?=some (.s s):=by rw[<-e];simp
  rw[List.flatten_cons,List.length_append]at h;obtain⟨c',b',hc',h'⟩:=FB d l fb hl r (p++[s]) (t++s) (by rw[<-e];simp) (by rw[List.length_append];omega) (V.p 1 0) (b&&(ofBytes s).isEmpty) (.inr rfl);refine⟨c',b',hc',?_⟩;rw[show (p++[s]).length=p.length+1 by simp]at h';rw[RY,KD,bz,rU g];refine(Vw (R9 d s t (by omega) c b hc) rfl rfl).trans ?_;rw[w1,List.flatten_cons,<-List.append_assoc];exact aK h'
theorem iG(d:List V){ls:List D}(l:List mP)(hl:ls=l.map D.s)(hn:l.length<=1000)(t:mP){u:mP}(hu:l.flatten=u)(h:t.length+u.length<=1000000000):
  Ja d (λ cs=>Task.call 27 [V.p 1 0,vl true ls] [Ob.cells cs ei,Ob.cells d []]) t u:=λ c b hc=>by
 subst hl;subst hu;obtain⟨c',b',hc',h'⟩:=FB d l true hn l [] t rfl h c b hc;refine⟨c',b',hc',?_⟩;rw[RY,Yw,List.length_map];exact aK h'
theorem Bm(d:List V)(t:mP)(h:t.length+2<=1000000000):Ja d (λ cs=>Task.at_ 58 2 (fw 15) HS [] [Ob.cells cs ei,Ob.cells d []]) t [44,10]:=λ c b hc=>by
 obtain⟨c',b',hc',h'⟩:=iG d [[44,10]] rfl (by simp) t rfl h c b hc;refine⟨c',b',hc',?_⟩;rw[RY,P5];refine(jE h' rfl rfl).trans ?_;rfl
theorem L3(d:List V)(x:D)(hx:WM x)(t:mP)(h:t.length+(uB x).length<=900000000):Ja d (λ cs=>Task.call 58 [V.p 1 0,V.d x] [Ob.cells cs ei,Ob.cells d []]) t (uB x):=λ c b hc=>by
 obtain⟨nm,hh,n,rfl,h1,h2⟩:=hx;simp only[uB,List.length_append,List.length_cons,List.length_nil]at h;obtain⟨c1,b1,hc1,e1⟩:=iG d (ls:=[D.s [32,32],D.s nm]) [[32,32],nm] rfl (by simp) t (u:=[32,32]++nm) (by simp) (by simp;omega) c b hc
 cases hh with
 |true=>
  obtain⟨c2,b2,hc2,e2⟩:=iG d (ls:=[D.s [32,61,32],D.s (cZ n)]) [[32,61,32],cZ n] rfl (by simp) (t++([32,32]++nm)) (u:=[32,61,32]++cZ n) (by simp) (by simp at h⊢;omega) c1 b1 hc1;obtain⟨c3,b3,hc3,e3⟩:=Bm d (t++([32,32]++nm)++([32,61,32]++cZ n)) (by simp at h⊢;omega) c2 b2 hc2;refine⟨c3,b3,hc3,?_⟩;rw[RY,XR];refine(jE e1 rfl rfl).trans ?_;rw[bF,fh (Tu n h2)];refine(jE e2 rfl rfl).trans ?_;refine(aK e3).trans ?_;simp[uB,List.append_assoc]
 |false=>
  obtain⟨c3,b3,hc3,e3⟩:=Bm d (t++([32,32]++nm)) (by simp at h⊢;omega) c1 b1 hc1;refine⟨c3,b3,hc3,?_⟩;rw[RY,XR];refine(jE e1 rfl rfl).trans ?_;rw[bo];refine(aK e3).trans ?_;simp[uB,List.append_assoc]
abbrev mO(nm:mP)(ow:Bool)(ret:mP)(ab:Bool)(al:List D)(tb:Bool)(tl:List D):Ob:=Ob.cells (tF nm ow ret ab al tb tl) []
theorem Bo(d:List V)(t:mP)(h:t.length+2<=1000000000):Ja d (λ cs=>Task.at_ 60 2 (fw 63) HT [] [Ob.cells cs ei,Ob.cells d []]) t [44,10]:=λ c b hc=>by
 obtain⟨c',b',hc',h'⟩:=iG d [[44,10]] rfl (by simp) t rfl h c b hc;refine⟨c',b',hc',?_⟩;rw[RY,P8];refine(jE h' rfl rfl).trans ?_;rfl
theorem Bn(d:List V)(nm:mP)(ow:Bool)(ret:mP)(ab:Bool)(al:List D)(tb:Bool)(tl:List D)(h3:al.length<=100)(h4:tl.length<=100)(h5:∀y∈al,WF y)(h6:∀y∈tl,WF y)
  (ha:(fC al).length<=900000000) (ht:(fC tl).length<=900000000) (t:mP) (h:t.length+(ret++[32]++nm++[40]++fC al++[41]++zR tl++[44,10]).length<=900000000):
  Ja d (λ cs=>Task.at_ 60 2 (fw 15) Gg [] [mO nm ow ret ab al tb tl,Ob.cells cs ei,Ob.cells d []]) t (ret++[32]++nm++[40]++fC al++[41]++zR tl++[44,10]):=λ c b hc=>by
 have k1:=Sy ab al h3 h5 ha;have k2:=Sy tb tl h4 h6 ht;simp only[List.length_append,List.length_cons,List.length_nil]at h;obtain⟨c1,b1,hc1,e1⟩:=iG d (ls:=[D.s ret,D.s [32],D.s nm,D.s [40],D.s (fC al),D.s [41]]) [ret,[32],nm,[40],fC al,[41]] rfl (by simp) t (u:=(ret++[32]++nm++[40]++fC al++[41])) (by simp) (by simp;omega) c b hc;by_cases h0:tl=[]
 ·subst h0;obtain⟨c3,b3,hc3,e3⟩:=Bo d (t++(ret++[32]++nm++[40]++fC al++[41])) (by simp;omega) c1 b1 hc1;refine⟨c3,b3,hc3,?_⟩;rw[RY,GH,fh k1];refine(jE e1 rfl rfl).trans ?_;rw[bn (by simp)];refine(aK e3).trans ?_;simp[zR,List.append_assoc]
 ·have hp:0<tl.length:=List.length_pos_iff.2 h0;rw[zR,if_neg h0,List.length_append,List.length_append]at h;obtain⟨c2,b2,hc2,e2⟩:=iG d (ls:=[D.s [32,116,104,114,111,119,115,32,40],D.s (fC tl),D.s [41]]) [[32,116,104,114,111,119,115,32,40],fC tl,[41]] rfl (by simp) (t++(ret++[32]++nm++[40]++fC al++[41])) (u:=([32,116,104,114,111,119,115,32,40]++fC tl++[41])) (by simp) (by simp at h⊢;omega) c1 b1 hc1;obtain⟨c3,b3,hc3,e3⟩:=Bo d (t++(ret++[32]++nm++[40]++fC al++[41])++([32,116,104,114,111,119,115,32,40]++fC tl++[41])) (by simp at h⊢;omega) c2 b2 hc2;refine⟨c3,b3,hc3,?_⟩;rw[RY,GH,fh k1];refine(jE e1 rfl rfl).trans ?_;rw[bz,fh k2];refine(jE e2 rfl rfl).trans ?_;refine(aK e3).trans ?_;simp[zR,if_neg h0,List.append_assoc]
theorem L4(d:List V)(x:D)(hx:KG x)(t:mP)(h:t.length+(jh x).length<=900000000):Ja d (λ cs=>Task.call 60 [V.p 1 0,V.d x] [Ob.cells cs ei,Ob.cells d []]) t (jh x):=λ c b hc=>by
 obtain⟨nm,ow,ret,ab,al,tb,tl,rfl,h1,h2,h3,h4,h5,h6⟩:=hx;rw[JY]at h⊢;have ha:(fC al).length<=900000000:=by simp only[List.length_append]at h;omega
 have hl:([32,32]++T2 ow++ret++[32]++nm++[40]++fC al++[41]++zR tl++[44,10]).length<=900000000:=by omega
 have ht:=PD hl;obtain⟨c1,b1,hc1,e1⟩:=iG d (ls:=[D.s [32,32]]) [[32,32]] rfl (by simp) t (u:=[32,32]) rfl (by simp at h⊢;omega) c b hc
 cases ow with
 |true=>
  obtain⟨c2,b2,hc2,e2⟩:=iG d (ls:=[D.s [111,110,101,119,97,121,32]]) [[111,110,101,119,97,121,32]] rfl (by simp) (t++[32,32]) (u:=[111,110,101,119,97,121,32]) rfl (by simp[T2]at h⊢;omega) c1 b1 hc1;obtain⟨c3,b3,hc3,e3⟩:=Bn d nm true ret ab al tb tl h3 h4 h5 h6 ha ht (t++[32,32]++[111,110,101,119,97,121,32]) (by simp[T2]at h⊢;omega) c2 b2 hc2;refine⟨c3,b3,hc3,?_⟩;rw[RY,XS];refine(jE e1 rfl rfl).trans ?_;rw[bF];refine(jE e2 rfl rfl).trans ?_;refine(aK e3).trans ?_;simp[T2,List.append_assoc]
 |false=>
  obtain⟨c3,b3,hc3,e3⟩:=Bn d nm false ret ab al tb tl h3 h4 h5 h6 ha ht (t++[32,32]) (by simp[T2]at h⊢;omega) c1 b1 hc1;refine⟨c3,b3,hc3,?_⟩;rw[RY,XS];refine(jE e1 rfl rfl).trans ?_;rw[bo];refine(aK e3).trans ?_;simp[T2,List.append_assoc]
theorem P0{x:D}(h:WM x):x.width=3:=by obtain⟨_,_,_,rfl,_⟩:=h;rfl
theorem MP{x:D}(h:KG x):x.width=5:=by obtain⟨_,_,_,_,_,_,_,rfl,_⟩:=h;rfl
theorem PZ{x:D}(h:WD x):x.width=12:=by obtain⟨_,_,_,_,_,_,_,_,_,_,_,_,_,_,_,_,rfl,_⟩:=h;rfl
theorem Bj(d:List V)(l:List D)(lb:Bool)(hl:l.length<=100)(hm:∀y∈l,WM y):∀(r p:List D) (t:mP),p++r=l->t.length+(r.map uB).flatten.length+2<=900000000->
  Ja d (λ cs=>Task.at_ 29 2 (fw 11003) (Eg lb l (l.length:Int) (p.length:Int)) [] [Ob.cells cs ei,Ob.cells d []]) t ((r.map uB).flatten++[125,10])
 | [],p,t,e,h=>λ c b hc=>by
  rw[List.append_nil]at e;subst e;obtain⟨c1,b1,hc1,e1⟩:=iG d (ls:=[D.s [125,10]]) [[125,10]] rfl (by simp) t (u:=[125,10]) rfl (by simp at h⊢;omega) c b hc;refine⟨c1,b1,hc1,?_⟩;rw[RY,vW,bn];refine(jE e1 rfl rfl).trans ?_;rfl
 |x::r,p,t,e,h=>λ c b hc=>by
  have hlen:l.length=p.length+(r.length+1):=by rw[<-e];simp
  have w1:=Wv p.length;have hx:=hm x (by rw[<-e];simp);have g:l[p.length]?=some x:=by rw[<-e];simp
  simp only[List.map_cons,List.flatten_cons,List.length_append]at h;obtain⟨c1,b1,hc1,e1⟩:=L3 d x hx t (by omega) c b hc;obtain⟨c2,b2,hc2,e2⟩:=Bj d l lb hl hm r (p++[x]) (t++uB x) (by rw[<-e];simp) (by simp only[List.length_append];omega) c1 b1 hc1;rw[show (p++[x]).length=p.length+1 by simp]at e2;refine⟨c2,b2,hc2,?_⟩;rw[RY,vW,bz];refine(qn g (P0 hx)).trans ?_;obtain⟨nm,hh,n,rfl,_⟩:=hx;refine aN.trans ?_;refine(jE e1 rfl rfl).trans ?_;rw[w1];refine(aK e2).trans ?_;simp only[List.map_cons,List.flatten_cons,List.append_assoc]
theorem Bk(d:List V)(l:List D)(lb:Bool)(hl:l.length<=100)(hm:∀y∈l,WF y):∀(r p:List D) (t:mP),p++r=l->t.length+(r.map wa).flatten.length+2<=900000000->
  Ja d (λ cs=>Task.at_ 29 2 (fw 44027) (Eh lb l (l.length:Int) (p.length:Int)) [] [Ob.cells cs ei,Ob.cells d []]) t ((r.map wa).flatten++[125,10])
 | [],p,t,e,h=>λ c b hc=>by
  rw[List.append_nil]at e;subst e;obtain⟨c1,b1,hc1,e1⟩:=iG d (ls:=[D.s [125,10]]) [[125,10]] rfl (by simp) t (u:=[125,10]) rfl (by simp at h⊢;omega) c b hc;refine⟨c1,b1,hc1,?_⟩;rw[RY,vX,bn];refine(jE e1 rfl rfl).trans ?_;rfl
 |x::r,p,t,e,h=>λ c b hc=>by
  have hlen:l.length=p.length+(r.length+1):=by rw[<-e];simp
  have w1:=Wv p.length;have hx:=hm x (by rw[<-e];simp);have g:l[p.length]?=some x:=by rw[<-e];simp
  simp only[List.map_cons,List.flatten_cons,List.length_append]at h;have hxl:(wa x).length=(yu x).length+4:=by simp[wa]
  have hc0:=Ft x hx (by omega);obtain⟨c1,b1,hc1,e1⟩:=iG d (ls:=[D.s [32,32],D.s (yu x),D.s [44,10]]) [[32,32],yu x,[44,10]] rfl (by simp) t (u:=wa x) (by simp[wa]) (by omega) c b hc;obtain⟨c2,b2,hc2,e2⟩:=Bk d l lb hl hm r (p++[x]) (t++wa x) (by rw[<-e];simp) (by simp only[List.length_append];omega) c1 b1 hc1;rw[show (p++[x]).length=p.length+1 by simp]at e2;refine⟨c2,b2,hc2,?_⟩;rw[RY,vX,bz];refine(qn g (tE hx)).trans ?_;obtain⟨_,_,_,_,_,_,_,_,_,_,_,_,rfl,_⟩:=hx;refine aN.trans ?_;refine(fh hc0).trans ?_;refine(jE e1 rfl rfl).trans ?_;rw[w1];refine(aK e2).trans ?_;simp only[List.map_cons,List.flatten_cons,List.append_assoc]
theorem yq(d:List V)(l:List D)(lb:Bool)(hl:l.length<=100)(hm:∀y∈l,KG y):∀(r p:List D) (t:mP),p++r=l->t.length+(r.map jh).flatten.length+2<=900000000->
  Ja d (λ cs=>Task.at_ 29 2 (fw 716795) (RM lb l (l.length:Int) (p.length:Int)) [] [Ob.cells cs ei,Ob.cells d []]) t ((r.map jh).flatten++[125,10])
 | [],p,t,e,h=>λ c b hc=>by
  rw[List.append_nil]at e;subst e;obtain⟨c1,b1,hc1,e1⟩:=iG d (ls:=[D.s [125,10]]) [[125,10]] rfl (by simp) t (u:=[125,10]) rfl (by simp at h⊢;omega) c b hc;refine⟨c1,b1,hc1,?_⟩;rw[RY,tJ,bn];refine(jE e1 rfl rfl).trans ?_;rfl
 |x::r,p,t,e,h=>λ c b hc=>by
  have hlen:l.length=p.length+(r.length+1):=by rw[<-e];simp
  have w1:=Wv p.length;have hx:=hm x (by rw[<-e];simp);have g:l[p.length]?=some x:=by rw[<-e];simp
  simp only[List.map_cons,List.flatten_cons,List.length_append]at h;obtain⟨c1,b1,hc1,e1⟩:=L4 d x hx t (by omega) c b hc;obtain⟨c2,b2,hc2,e2⟩:=yq d l lb hl hm r (p++[x]) (t++jh x) (by rw[<-e];simp) (by simp only[List.length_append];omega) c1 b1 hc1;rw[show (p++[x]).length=p.length+1 by simp]at e2;refine⟨c2,b2,hc2,?_⟩;rw[RY,tJ,bz];refine(qn g (MP hx)).trans ?_;obtain⟨_,_,_,_,_,_,_,rfl,_⟩:=hx;refine aN.trans ?_;refine(jE e1 rfl rfl).trans ?_;rw[w1];refine(aK e2).trans ?_;simp only[List.map_cons,List.flatten_cons,List.append_assoc]
theorem Bl(d:List V)(kd:Int)(nm ty:mP)(ck cn cu:Int)(cs:mP)(cb:Bool)(cl:List D)(fb:Bool)(fl:List D)(mb:Bool)(ml:List D)(ex:mP)(tb:Bool)(tl:List D)(hl:tl.length<=100)(hm:∀y∈tl,KG y)(t:mP)
  (h:t.length+(tl.map jh).flatten.length+5<=900000000):
  Ja d (λ c=>Task.at_ 29 2 (fw 61435) Gf [] [dO kd nm ty ck cn cu cs cb cl fb fl mb ml ex tb tl,Ob.cells c ei,Ob.cells d []]) t ([32,123,10]++(tl.map jh).flatten++[125,10]):=λ c b hc=>by
 obtain⟨c1,b1,hc1,e1⟩:=iG d (ls:=[D.s [32,123,10]]) [[32,123,10]] rfl (by simp) t (u:=[32,123,10]) rfl (by simp;omega) c b hc;obtain⟨c2,b2,hc2,e2⟩:=yq d tl tb hl hm tl [] (t++[32,123,10]) rfl (by simp at h⊢;omega) c1 b1 hc1;refine⟨c2,b2,hc2,?_⟩;rw[RY,GD];refine(jE e1 rfl rfl).trans ?_;refine(aK e2).trans ?_;simp only[List.append_assoc]
theorem H7(d:List V)(kd:Int)(nm ty:mP)(ck cn cu:Int)(cs:mP)(cb:Bool)(cl:List D)(fb:Bool)(fl:List D)(mb:Bool)(ml:List D)(ex:mP)(tb:Bool)(tl:List D)(hl:fl.length<=100)(hm:∀y∈fl,WF y)(hk:4<=kd/\kd<=6)(n:Int)(t:mP)
  (hn:nm.length<=2000) (h:t.length+(HH kd++nm++[32,123,10]++(fl.map wa).flatten++[125,10]).length<=900000000):
  Ja d (λ c=>Task.at_ 29 2 (fw 2043) (Iq n true) [] [dO kd nm ty ck cn cu cs cb cl fb fl mb ml ex tb tl,Ob.cells c ei,Ob.cells d []]) t (HH kd++nm++[32,123,10]++(fl.map wa).flatten++[125,10]):=λ c b hc=>by
 simp only[List.length_append]at h;obtain⟨k,hk4,rfl⟩:∃k:Nat,k<3/\kd=((k+4:Nat):Int):=⟨(kd-4).toNat,by omega,by omega⟩
 have w:i64.wrap (((k+4:Nat):Int)-4)=(k:Int):=U5;have g:([D.s [115,116,114,117,99,116,32],D.s [117,110,105,111,110,32],D.s [101,120,99,101,112,116,105,111,110,32]]:List D)[k]?=some (.s (HH ((k+4:Nat):Int))):=by
  rcases k with _|_|_|k
  all_goals first
   |rfl
   |omega
 obtain⟨c1,b1,hc1,e1⟩:=iG d (ls:=[D.s (HH ((k+4:Nat):Int)),D.s nm,D.s [32,123,10]]) [HH ((k+4:Nat):Int),nm,[32,123,10]] rfl (by simp) t (u:=HH ((k+4:Nat):Int)++nm++[32,123,10]) (by simp) (by simp only[List.length_append];omega) c b hc;obtain⟨c2,b2,hc2,e2⟩:=Bk d fl fb hl hm fl [] (t++(HH ((k+4:Nat):Int)++nm++[32,123,10])) rfl (by simp only[List.length_append,List.length_cons,List.length_nil]at h⊢;omega) c1 b1 hc1;refine⟨c2,b2,hc2,?_⟩;rw[RY,rT,bF,w,rU g];refine(jE e1 rfl rfl).trans ?_;refine(aK e2).trans ?_;simp only[List.append_assoc]
theorem H8(d:List V)(nm ty:mP)(ck cn cu:Int)(cs:mP)(cb:Bool)(cl:List D)(fb:Bool)(fl:List D)(mb:Bool)(ml:List D)(ex:mP)(tb:Bool)(tl:List D)(hl:tl.length<=100)(hm:∀y∈tl,KG y)(t:mP)
  (hn:nm.length<=2000) (hex:ex.length<=2000) (h:t.length+([115,101,114,118,105,99,101,32]++nm++Uz ex++[32,123,10]++(tl.map jh).flatten++[125,10]).length<=900000000):
  Ja d (λ c=>Task.at_ 29 2 (fw 2043) (Iq 7 false) [] [dO 7 nm ty ck cn cu cs cb cl fb fl mb ml ex tb tl,Ob.cells c ei,Ob.cells d []]) t ([115,101,114,118,105,99,101,32]++nm++Uz ex++[32,123,10]++(tl.map jh).flatten++[125,10]):=λ c b hc=>by
 simp only[List.length_append,List.length_cons,List.length_nil]at h;obtain⟨c1,b1,hc1,e1⟩:=iG d (ls:=[D.s [115,101,114,118,105,99,101,32],D.s nm]) [[115,101,114,118,105,99,101,32],nm] rfl (by simp) t (u:=[115,101,114,118,105,99,101,32]++nm) (by simp) (by simp;omega) c b hc;by_cases hx:ex=[]
 ·subst hx;obtain⟨c2,b2,hc2,e2⟩:=Bl d 7 nm ty ck cn cu cs cb cl fb fl mb ml [] tb tl hl hm (t++([115,101,114,118,105,99,101,32]++nm)) (by simp only[List.length_append,List.length_cons,List.length_nil];omega) c1 b1 hc1;refine⟨c2,b2,hc2,?_⟩;rw[RY,rT,bo,bK rfl];refine(jE e1 rfl rfl).trans ?_;rw[show (!([]:mP)==[])=false from rfl,bo];refine(aK e2).trans ?_;simp only[Uz,if_true,List.append_assoc,List.append_nil,List.nil_append]
 ·have he:Uz ex=[32,101,120,116,101,110,100,115,32]++ex:=if_neg hx;obtain⟨c3,b3,hc3,e3⟩:=iG d (ls:=[D.s [32,101,120,116,101,110,100,115,32],D.s ex]) [[32,101,120,116,101,110,100,115,32],ex] rfl (by simp) (t++([115,101,114,118,105,99,101,32]++nm)) (u:=Uz ex) (by simp[he]) (by simp only[List.length_append,List.length_cons,List.length_nil];omega) c1 b1 hc1;obtain⟨c2,b2,hc2,e2⟩:=Bl d 7 nm ty ck cn cu cs cb cl fb fl mb ml ex tb tl hl hm (t++([115,101,114,118,105,99,101,32]++nm)++Uz ex) (by simp only[List.length_append,List.length_cons,List.length_nil];omega) c3 b3 hc3;refine⟨c2,b2,hc2,?_⟩;rw[RY,rT,bo,bK rfl];refine(jE e1 rfl rfl).trans ?_;rw[dz (by simpa using hx)];refine(jE e3 rfl rfl).trans ?_;refine(aK e2).trans ?_;simp only[List.append_assoc]
theorem T3(d:List V)(x:D)(hx:WD x)(t:mP)(h:t.length+(oE x).length<=900000000):Ja d (λ c=>Task.call 29 [V.p 1 0,V.d x] [Ob.cells c ei,Ob.cells d []]) t (oE x):=λ c b hc=>by
 obtain⟨kd,nm,ty,ck,cn,cu,cs,cb,cl,fb,fl,mb,ml,ex,tb,tl,rfl,k1,k7,hnm,hty,hk3,hwc,hfl,hf,hml,hm,hex,htl,ht,n2,n4,n7⟩:=hx;simp only[oE]at h⊢;by_cases c1:kd=1
 ·rw[if_pos c1]at h⊢;obtain⟨c1',b1,hc1,e1⟩:=iG d (ls:=[D.s [116,121,112,101,100,101,102,32],D.s ty,D.s [32],D.s nm,D.s [10]]) [[116,121,112,101,100,101,102,32],ty,[32],nm,[10]] rfl (by simp) t (u:=[116,121,112,101,100,101,102,32]++ty++[32]++nm++[10]) (by simp) (by simp only[List.length_append]at h⊢;omega) c b hc;refine⟨c1',b1,hc1,?_⟩;rw[RY,Uv,bK c1];refine(jE e1 rfl rfl).trans ?_;rfl
 by_cases c3:kd=3
 ·rw[if_neg c1,if_pos c3]at h⊢;have hcl:(eA (cD ck cn cu cs cb cl)).length<=900000000:=by simp only[cD,List.length_append]at h⊢;omega
  have hcon:=yp uY _ hwc (hk3 c3) hcl
  obtain⟨c1',b1,hc1,e1⟩:=iG d (ls:=[D.s [99,111,110,115,116,32],D.s ty,D.s [32],D.s nm,D.s [32,61,32],D.s (eA (cD ck cn cu cs cb cl)),D.s [10]]) [[99,111,110,115,116,32],ty,[32],nm,[32,61,32],eA (cD ck cn cu cs cb cl),[10]] rfl (by simp) t
   (u:=[99,111,110,115,116,32]++ty++[32]++nm++[32,61,32]++eA (cD ck cn cu cs cb cl)++[10]) (by simp) (by simp only[cD,List.length_append]at h⊢;omega) c b hc
  refine⟨c1',b1,hc1,?_⟩;rw[RY,Uv,bu c1,bK c3];refine(fh hcon).trans ?_;refine(jE e1 rfl rfl).trans ?_;rfl
 rw[if_neg c1,if_neg c3]at h⊢;by_cases c2:kd=2
 ·rw[if_pos c2]at h⊢;simp only[List.length_append,List.length_cons,List.length_nil]at h;obtain⟨c1',b1,hc1,e1⟩:=iG d (ls:=[D.s [101,110,117,109,32],D.s nm,D.s [32,123,10]]) [[101,110,117,109,32],nm,[32,123,10]] rfl (by simp) t (u:=[101,110,117,109,32]++nm++[32,123,10]) (by simp) (by simp only[List.length_append,List.length_cons,List.length_nil];omega) c b hc;obtain⟨c2',b2,hc2,e2⟩:=Bj d ml mb hml hm ml [] (t++([101,110,117,109,32]++nm++[32,123,10])) rfl (by simp only[List.length_append,List.length_cons,List.length_nil];omega) c1' b1 hc1;refine⟨c2',b2,hc2,?_⟩;rw[RY,Uv,bu c1,bu c3,bK c2];refine(jE e1 rfl rfl).trans ?_;refine(aK e2).trans ?_;simp only[List.append_assoc]
 rw[if_neg c2]at h⊢;by_cases c7:kd=7
 ·subst c7;rw[if_pos rfl]at h⊢;obtain⟨c2',b2,hc2,e2⟩:=H8 d nm ty ck cn cu cs cb cl fb fl mb ml ex tb tl htl ht t hnm hex h c b hc;refine⟨c2',b2,hc2,?_⟩;rw[RY,Uv,bu c1,bu c3,bu c2,bu (by decide),bu (by decide)];exact aK e2
 ·rw[if_neg c7]at h⊢;obtain⟨c2',b2,hc2,e2⟩:=H7 d kd nm ty ck cn cu cs cb cl fb fl mb ml ex tb tl hfl hf (by omega) kd t hnm h c b hc;refine⟨c2',b2,hc2,?_⟩;by_cases c4:kd=4
  ·subst c4;rw[RY,Uv,bu c1,bu c3,bu c2,bK rfl];exact aK e2
  ·by_cases c5:kd=5
   ·subst c5;rw[RY,Uv,bu c1,bu c3,bu c2,bu c4,bK rfl];exact aK e2
   ·have c6:kd=6:=by omega
    subst c6;rw[RY,Uv,bu c1,bu c3,bu c2,bu c4,bu c5];exact aK e2
section
variable (ib : Bool) (il : List D) (sb : Bool) (sl : List D) (db : Bool) (dl : List D)
abbrev UB(ib:Bool)(il:List D)(sb:Bool)(sl:List D)(db:Bool)(dl:List D):List V:=(pB ib il sb sl db dl)
theorem z7:∀t:mP,oN (ofBytes t)=some t
 | []=>rfl
 |a::t=>by
  have h:=a.toNat_lt;show (if (0:Int)<=(a.toNat:Int)/\(a.toNat:Int)<256 then(oN (ofBytes t)).map (UInt8.ofNat ((a.toNat:Int)).toNat :: ·)else none)=_;rw[if_pos ⟨by omega,by omega⟩,z7 t,Option.map_some,Int.toNat_natCast,UInt8.ofNat_toNat]
theorem Xc(d:List V)(c:V)(b:Bool)(t:mP)(h0:t≠[])(h:t.length<=1000000000):RY (.call 30 [V.p 1 0] [Ob.cells (Qg c b t) ei,Ob.cells d []])=some (.d (.s t),[Ob.cells (Qg c b t) ei,Ob.cells d []]):=by
 rw[iW (g:=Db) rfl]
 show (match oN (ofBytes t) with
  |some l=>if l≠[]/\l.length<=1000000000/\ei.contains (1,21000001)=true then some (V.d (.s l),[Ob.cells (Qg c b t) ei,Ob.cells d []])else none
  |none=>none)=_
 rw[z7];exact if_pos ⟨h0,h,rfl⟩
theorem Vx{f:Task->Option Out}{t:Task}{cs ds:List V}{m n:Nat}{s:mP}{K:List V->List V->mP->Tr}(h:f t=some (.d (.s s),[.cells cs ei,.cells ds []]))(hm:cs.length=m)(hn:ds.length=n):
  aC f (.call t λ o=>ee o.snd λ x l2=>dx x λ c g=>aH (c.length==m) (aH (g==ei) (ee l2 λ x5 l6=>dx x5 λ c7 g8=>aH (c7.length==n) (aH (g8==[]) (iK l6 (bm o.fst λ d=>eF d λ y=>K c c7 y))))))=aC f (K cs ds s):=by
 rw[cp h];show aC f (aH (cs.length==m) (aH (ei==ei) (aH (ds.length==n) (aH true (K cs ds s)))))=_;rw[hm,beq_self_eq_true,aN,show (ei==ei)=true from rfl,aN,hn,beq_self_eq_true,aN,aN]
theorem Fu(h:∀y∈dl,WD y)(hl:dl.length<=100):∀(r p:List D) (a:mP) (c:V) (b:Bool),CW c->p++r=dl->(a++(r.map oE).flatten).length<=900000000->a++(r.map oE).flatten≠[]->
  RY (.at_ 12 0 (fw 175) (Es db dl (dl.length:Int) (p.length:Int)) [] [Ob.cells (Qg c b a) ei,Ob.cells (UB ib il sb sl db dl) []])=some (.d (.s (a++(r.map oE).flatten)),[])
 | [],p,a,c,b,hc,e,ha,h0=>by
  rw[List.append_nil]at e;subst e;simp only[List.map_nil,List.flatten_nil,List.append_nil]at ha h0⊢;rw[RY,VQ,bn];refine(Vx (Xc _ c b a h0 (by omega)) rfl rfl).trans ?_;rfl
 |x::r,p,a,c,b,hc,e,ha,h0=>by
  have hlen:dl.length=p.length+(r.length+1):=by rw[<-e];simp
  have w1:=Wv p.length;have hx:=h x (by rw[<-e];simp);have g:dl[p.length]?=some x:=by rw[<-e];simp
  simp only[List.map_cons,List.flatten_cons,<-List.append_assoc]at ha h0⊢;obtain⟨c1,b1,hc1,e1⟩:=T3 (UB ib il sb sl db dl) x hx a (by simp only[List.length_append]at ha;omega) c b hc;have ih:=Fu h hl r (p++[x]) (a++oE x) c1 b1 hc1 (by rw[<-e];simp) ha h0;rw[show (p++[x]).length=p.length+1 by simp]at ih;rw[RY,VQ,bz];refine(qn g (PZ hx)).trans ?_;obtain⟨_,_,_,_,_,_,_,_,_,_,_,_,_,_,_,_,rfl,_⟩:=hx;refine aN.trans ?_;refine(jE e1 rfl rfl).trans ?_;rw[w1];exact aK ih
theorem JX(hd:∀y∈dl,WD y)(hdl:dl.length<=100)(h:∀y∈sl,WS y)(hl:sl.length<=100):∀(r p:List D) (a:mP) (c:V) (b:Bool),CW c->p++r=sl->(a++(r.map wG).flatten++(dl.map oE).flatten).length<=900000000->a++(r.map wG).flatten++(dl.map oE).flatten≠[]->
  RY (.at_ 12 0 (fw 87) (PH sb sl (sl.length:Int) (p.length:Int)) [] [Ob.cells (Qg c b a) ei,Ob.cells (UB ib il sb sl db dl) []])=some (.d (.s (a++(r.map wG).flatten++(dl.map oE).flatten)),[])
 | [],p,a,c,b,hc,e,ha,h0=>by
  rw[List.append_nil]at e;subst e;simp only[List.map_nil,List.flatten_nil,List.append_nil]at ha h0⊢;rw[RY,VP,bn];exact aK (Fu ib il sb p db dl hd hdl dl [] a c b hc rfl ha h0)
 |x::r,p,a,c,b,hc,e,ha,h0=>by
  have hlen:sl.length=p.length+(r.length+1):=by rw[<-e];simp
  have w1:=Wv p.length;have hx:=h x (by rw[<-e];simp);have g:sl[p.length]?=some x:=by rw[<-e];simp
  simp only[List.map_cons,List.flatten_cons,<-List.append_assoc]at ha h0⊢;obtain⟨s1,s2,rfl,h1,h2⟩:=hx;obtain⟨c1,b1,hc1,e1⟩:=iG (UB ib il sb sl db dl) (ls:=[D.s [110,97,109,101,115,112,97,99,101,32],D.s s1,D.s [32],D.s s2,D.s [10]]) [[110,97,109,101,115,112,97,99,101,32],s1,[32],s2,[10]] rfl (by simp) a (u:=wG (F8 s1 s2)) (by simp[wG]) (by simp only[List.length_append]at ha;omega) c b hc;have ih:=JX hd hdl h hl r (p++[F8 s1 s2]) (a++wG (F8 s1 s2)) c1 b1 hc1 (by rw[<-e];simp) ha h0;rw[show (p++[F8 s1 s2]).length=p.length+1 by simp]at ih;rw[RY,VP,bz];refine(qn g rfl).trans ?_;refine aN.trans ?_;refine(jE e1 rfl rfl).trans ?_;rw[w1];exact aK ih
theorem FG{s:mP}(h:s.contains 34=false):ia s=[34]++s++[34]:=by unfold ia;rw[if_neg (by simp at h⊢;exact h)]
theorem JW(hd:∀y∈dl,WD y)(hdl:dl.length<=100)(hs:∀y∈sl,WS y)(hsl:sl.length<=100)(h:∀y∈il,WI y)(hl:il.length<=100):∀(r p:List D) (a:mP) (c:V) (b:Bool),CW c->p++r=il->(a++(r.map CV).flatten++(sl.map wG).flatten++(dl.map oE).flatten).length<=900000000->a++(r.map CV).flatten++(sl.map wG).flatten++(dl.map oE).flatten≠[]->
  RY (.at_ 12 0 (fw 43) (Py ib il (il.length:Int) (p.length:Int)) [] [Ob.cells (Qg c b a) ei,Ob.cells (UB ib il sb sl db dl) []])=some (.d (.s (a++(r.map CV).flatten++(sl.map wG).flatten++(dl.map oE).flatten)),[])
 | [],p,a,c,b,hc,e,ha,h0=>by
  rw[List.append_nil]at e;subst e;simp only[List.map_nil,List.flatten_nil,List.append_nil]at ha h0⊢;rw[RY,VO,bn];exact aK (JX ib p sb sl db dl hd hdl hs hsl sl [] a c b hc rfl ha h0)
 |x::r,p,a,c,b,hc,e,ha,h0=>by
  have hlen:il.length=p.length+(r.length+1):=by rw[<-e];simp
  have w1:=Wv p.length;have hx:=h x (by rw[<-e];simp);have g:il[p.length]?=some x:=by rw[<-e];simp
  simp only[List.map_cons,List.flatten_cons,<-List.append_assoc]at ha h0⊢;obtain⟨s1,rfl,h1,h2⟩:=hx;have hq:=JZ s1 h1;rw[FG h2]at hq;obtain⟨c1,b1,hc1,e1⟩:=iG (UB ib il sb sl db dl) (ls:=[D.s [105,110,99,108,117,100,101,32],D.s ([34]++s1++[34]),D.s [10]]) [[105,110,99,108,117,100,101,32],[34]++s1++[34],[10]] rfl (by simp) a (u:=CV (D.s s1)) (by simp[CV]) (by simp only[List.length_append]at ha;omega) c b hc;have ih:=JW hd hdl hs hsl h hl r (p++[D.s s1]) (a++CV (D.s s1)) c1 b1 hc1 (by rw[<-e];simp) ha h0;rw[show (p++[D.s s1]).length=p.length+1 by simp]at ih;rw[RY,VO,bz,rU g,fh hq];refine(jE e1 rfl rfl).trans ?_;rw[w1];exact aK ih
end
theorem Rl(x:D)(hx:Se x)(h0:lG x≠[])(hl:(lG x).length<=900000000):RY (.call 12 [V.d x] [])=some (.d (.s (lG x)),[]):=by obtain⟨ib,il,sb,sl,db,dl,rfl,h1,h2,h3,h4,h5,h6⟩:=hx;simp only[lG]at hl h0⊢;rw[RY,Yq];exact aK (JW ib il sb sl db dl h6 h3 h5 h2 h4 h1 il [] [] (V.d D.np) true (.inl rfl) rfl (by simpa using hl) (by simpa using h0))
end Go.Dn.Dec
namespace Go.Dn.Dec.Pa
open Go.IntKind (i64 u64 u8 u16 i32 u32)
open Go.Proofs
set_option maxRecDepth 100000
theorem SW:RQ (.call 9 [] [])=some (vb true,[]):=by rw[kL (Js (by decide) (by decide) (by decide) (by decide))];refine Dm ?_;exact yF.2 ⟨200,by kernel_rfl⟩
theorem CQ{s:mP}(h:(jx s).2.1=0):∃il sl dl:List D,(jx s).1=EJ il.isEmpty il sl.isEmpty sl dl.isEmpty dl:=by
 unfold jx at h⊢;split at h
 ·rename_i e;exact absurd h e
 ·rename_i e;rw[if_neg e];unfold pv at h⊢;split at h
  ·rename_i e2;exact absurd h e2
  ·rename_i e2;rw[if_neg e2];exact⟨_,_,_,rfl⟩
theorem X1{x:D}(hx:Se x)(hl:(lG x).length<=900000000){il sl dl:List D}(hf:x=EJ il.isEmpty il sl.isEmpty sl dl.isEmpty dl):RQ (.call 12 [V.d x] [])=some (vs (lG x),[]):=by
 have e:gb.ext 12=some CX:=by simp only[gb,K6];rfl
 rw[kL e];by_cases h0:lG x=[]
 ·obtain⟨b1,b2,b3,h1⟩:=OT hx h0;rw[hf]at h1;injection h1 with h1
  injection h1 with a1 h1
  injection h1 with a2 h1
  injection h1 with a3 h1
  injection a1 with _ a1
  injection a2 with _ a2
  injection a3 with _ a3
  subst a1;subst a2;subst a3;rw[h0,hf];rfl
 ·have h2:=ic (Rl x hx h0 hl);unfold CX;split
  ·rename_i heq;injection heq with heq
   injection heq with heq
   subst heq;exact absurd rfl h0
  ·exact Dm h2
theorem X2{x:D}(hx:Se x)(hl:(lG x).length<=900000000):RQ (.call 13 [V.d x] [])=some (vs (lG x),[]):=
 Vq (J9 x hx hl) (by decide) (by decide) (by decide) (by decide)
theorem CR(s:mP):∃(il sl dl:List D) (bi bs bd:Bool),(jx s).1 = .g [.l bi il,.l bs sl,.l bd dl]:=by
 unfold jx;split
 ·exact⟨_,_,_,_,_,_,rfl⟩
 ·unfold pv;split<;>exact⟨_,_,_,_,_,_,rfl⟩
theorem Ub{f:Task->Option Out}{t:Task}{gs:List D}{n m:Int}{e e' e2:V}{K:List D->Int->Int->Tr}(h:f t=some (.t [.d (.g gs),vi n,vi m],[]))(hg:gs.length=3):
  aC f (cV t λ v=>cL v λ l=>aH (l.length==3) (bm (l.getD 0 e) λ d=>jM 3 d λ g=>bm (l.getD 1 e') λ d'=>bR .i64 d' λ y=>bm (l.getD 2 e2) λ d2=>bR .i64 d2 λ z=>K g y z))=aC f (K gs n m):=by
 rw[cp h];show aC f (aH true (aH true (jM 3 (.g gs) λ g=>bR .i64 (.i .i64 n) λ y=>bR .i64 (.i .i64 m) λ z=>K g y z)))=_;rw[aN,aN,jU,if_pos hg,bH,if_pos rfl,bH,if_pos rfl]
theorem zN(zs az hz:List Int)(h1:∀z∈zs,0<=z/\z<256)(h2:∀z∈az,0<=z/\z<65536)(h3:∀z∈hz,0<=z/\z<256)(l1:zs.length<=100)(l2:az.length<=3):
  RQ (.at_ 4 0 (fw 27) (NC false (ints .u8 zs) false (ints .u16 az) false (ints .u8 hz) false) [] [])=some (vb true,[]):=by
 obtain⟨t,ht⟩:=PK zs az hz h1 h2 h3 l1 l2 false false;have ht:=OX ht (by decide) (by decide) (by decide);have hp:=CS t;obtain⟨il,sl,dl,bi,bs,bd,hf⟩:=CR t;have all1:∀f:Task->Option Out,∀X:Tr,aC f (aH ([V.d (([.l bi il,.l bs sl,.l bd dl]:List D).getD 0 (.b false)),.d (([.l bi il,.l bs sl,.l bd dl]:List D).getD 1 (.b false)),.d (([.l bi il,.l bs sl,.l bd dl]:List D).getD 2 (.b false))].all V.one) X)=aC f X:=λ _ _=>aN;rw[RQ,J4];refine bo.trans ?_;refine(fh ht).trans ?_;rw[hf]at hp;refine(Ub hp rfl).trans ?_;refine(all1 _ _).trans ?_;by_cases he:(jx t).2.1=0
 ·obtain⟨g1,g2⟩:=OO he;obtain⟨il',sl',dl',hf'⟩:=CQ he;have p12:=X1 g1 g2 hf';have p13:=X2 g1 g2;rw[dN he];rw[hf]at p12 p13;refine(fh p12).trans ?_;refine(fh p13).trans ?_;show some (vb (lG _==lG _),_)=_;rw[beq_self_eq_true]
 ·rw[ep he];rfl
theorem zO(zs az hz:List Int)(h1:∀z∈zs,0<=z/\z<256)(h2:∀z∈az,0<=z/\z<65536)(h3:∀z∈hz,0<=z/\z<256):
  RQ (.call 4 (pB false (ints .u8 zs) false (ints .u16 az) false (ints .u8 hz)) [])=some (vb true,[]):=by
 have e1:(ints .u8 zs).length=zs.length:=iZ _ _;have e2:(ints .u16 az).length=az.length:=iZ _ _;have t:RQ (.at_ 4 0 (fw 27) (NC false (ints .u8 zs) false (ints .u16 az) false (ints .u8 hz) true) [] [])=some (vb true,[]):=by rw[RQ,J4];exact bF
 rw[RQ,Yp];refine(dH SW).trans ?_;refine jF.trans ?_;by_cases k1:100<zs.length
 ·rw[bz];exact dc.trans t
 ·rw[bn];refine dc.trans ?_;by_cases k2:3<az.length
  ·rw[decide_eq_true (show ((ints .u16 az).length:Int)>3 by omega)];exact t
  ·rw[decide_eq_false (show ¬((ints .u16 az).length:Int)>3 by omega)]
   exact zN zs az hz h1 h2 h3 (by omega) (by omega)
end Go.Dn.Dec.Pa
