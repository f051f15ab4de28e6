/- the document's Lex is lexB; TokenLexes. -/
import Derived.Test.YtbjllhjbhdjfjaaGreatDoorP8
set_option linter.unusedVariables false
set_option linter.unusedSimpArgs false
set_option linter.unusedSectionVars false
namespace Go.Dn.Dec
open Go.Proofs
abbrev Ip(b:Bool)(L:List Tok)(o:Ob):Task:=Task.at_ 20 0 [false,true,true,true,true] (sv 52 [(5,V.p 0 0),(6,V.d (D.l b (cF L)))]) [(6,5)] [o]
section
variable {f : Task → Option Out}
theorem Ae{a b d:V}{i:Int}{K:Int->Tr}:aC f (ob [a,b,V.d (D.i .i64 i),d][2]? fun v=>aW v fun d=>bD .i64 d fun n=>K n)=aC f (K i):=by
 rw[aJ (a:=V.d (D.i .i64 i)) (by rfl),bj,bL]
theorem Kj{a b c:V}{i:Int}{K:Int->Tr}:aC f (ob [a,b,c,V.d (D.i .i64 i)][3]? fun v=>aW v fun d=>bD .i64 d fun n=>K n)=aC f (K i):=by
 rw[aJ (a:=V.d (D.i .i64 i)) (by rfl),bj,bL]
end
theorem xI(s:List UInt8)(a x:Nat)(b:Bool)(L:List Tok)(hL:L.length<=100000)(T:Tok)(x':Int)
  (h1:rk Tryz.prog aE (Task.call 45 [V.p 0 0] [aQ s (a:Int) 0 0])=some (.t [],[aQ s (x:Int) 0 0]))
  (h2:rk Tryz.prog aE (Task.call 46 [V.p 0 0] [aQ s (x:Int) 0 0])=some (.d T.D,[aQ s x' 0 0])):
  rk Tryz.prog aE (Ip b L (aQ s (a:Int) 0 0))=if T.kind=6 then some (gm (L++[T],0,0))else rk Tryz.prog aE (Ip false (L++[T]) (aQ s x' 0 0)):=by
 have hsn:=iP L T
 have hemp:(L++[T]).isEmpty=false:=by cases L<;>rfl
 unfold gm Ip
 simp only
 rw[hemp]
 unfold Tok.D at h2 hsn
 unfold aQ at *
 rw[mY,dz h1 (by rfl) (by rfl),Ae,eM rfl,xJ h2 (by rfl) (by rfl) (by rfl),Ae,eM rfl,iO,ba,pV (by cases b<;>rfl),aH (by rw[iu];omega)]
 show aC _ (bD .i64 (D.i .i64 (T.kind:Int)) _)=_
 rw[bL]
 show aC _ (aT ((T.kind:Int)==6) (Tr.ret (V.t [V.d (D.l (b&&false) (cF L++[D.g [D.i .i64 (T.kind:Int),D.s T.text,D.i .i64 T.n,D.i .u64 (T.d:Int),D.i .i64 (T.at_:Int)]])),V.d (D.i .i64 0),V.d (D.i .i64 0)],[]))
  (Tr.call (Task.at_ 20 0 [false,true,true,true,true] (sv 52 [(5,V.p 0 0),(6,V.d (D.l (b&&false) (cF L++[D.g [D.i .i64 (T.kind:Int),D.s T.text,D.i .i64 T.n,D.i .u64 (T.d:Int),D.i .i64 (T.at_:Int)]])))]) [(6,5)] [Ob.cells [V.d (D.s s),V.d (D.i .i64 x'),V.d (D.i .i64 0),V.d (D.i .i64 0)] []]) Tr.ret))=_
 rw[hsn,Bool.and_false]
 by_cases hk:T.kind=6
 ·rw[if_pos hk,cm (by omega),aD];rfl
 ·rw[if_neg hk,bO (by omega),aA]
theorem G9(s:List UInt8)(a:Nat)(b:Bool)(L:List Tok)(x e:Int)(w':Nat)(he:e≠0)
  (h1:rk Tryz.prog aE (Task.call 45 [V.p 0 0] [aQ s (a:Int) 0 0])=some (.t [],[aQ s x e (w':Int)])):
  rk Tryz.prog aE (Ip b L (aQ s (a:Int) 0 0))=some (gm ([],e,w')):=by
 unfold Ip
 unfold aQ at *
 rw[mY,dz h1 (by rfl) (by rfl),Ae,jl he,Ae,Kj,aD]
 rfl
theorem Ha(s:List UInt8)(a x:Nat)(b:Bool)(L:List Tok)(T:Tok)(x' e:Int)(w':Nat)(he:e≠0)
  (h1:rk Tryz.prog aE (Task.call 45 [V.p 0 0] [aQ s (a:Int) 0 0])=some (.t [],[aQ s (x:Int) 0 0]))
  (h2:rk Tryz.prog aE (Task.call 46 [V.p 0 0] [aQ s (x:Int) 0 0])=some (.d T.D,[aQ s x' e (w':Int)])):
  rk Tryz.prog aE (Ip b L (aQ s (a:Int) 0 0))=some (gm ([],e,w')):=by
 unfold Ip
 unfold Tok.D at h2
 unfold aQ at *
 rw[mY,dz h1 (by rfl) (by rfl),Ae,eM rfl,xJ h2 (by rfl) (by rfl) (by rfl),Ae,jl he,Ae,Kj,aD]
 rfl
theorem ud(s:List UInt8)(hs:s.length<=2000):∀(f a:Nat) (b:Bool) (L:List Tok),s.length-a<f->a<=s.length->L.length<=a->
  rk Tryz.prog aE (Ip b L (aQ s (a:Int) 0 0))=some (gm (wy f (s.drop a) a L))
 |0,a,b,L,h,_,_=>by omega
 |f+1,a,b,L,h,ha,hL=>by
  have hlen:(s.drop a).length=s.length-a:=List.length_drop ..
  have hk:=mh (s.drop a).length (s.drop a) 0
  have hsk:=xK s (by omega) 0 a (s.drop a).length 0 (by omega) (by omega)
  have h45:rk Tryz.prog aE (Task.call 45 [V.p 0 0] [aQ s (a:Int) 0 0])=rk Tryz.prog aE (qX (aQ s (a:Int) 0 0)):=by
   unfold qX aQ;rw[xk,aA]
  unfold wy
  rw[Nat.add_zero]at hsk
  generalize gv (s.drop a).length (s.drop a) 0=K at *
  obtain⟨k,bb⟩:=K
  simp only at hk
  cases bb with
  |false=>exact G9 s a b L _ 2 (a+k) (by decide) (h45.trans hsk)
  |true=>
   have h1:rk Tryz.prog aE (Task.call 45 [V.p 0 0] [aQ s (a:Int) 0 0])=some (.t [],[aQ s ((a+k:Nat):Int) 0 0]):=h45.trans hsk
   simp only
   by_cases he:(s.drop a).length<=k
   ·rw[if_pos he]
    have e1:a+(s.drop a).length=s.length:=by omega
    have e2:a+k=s.length:=by omega
    have h2:rk Tryz.prog aE (Task.call 46 [V.p 0 0] [aQ s ((a+k:Nat):Int) 0 0])=some (.d (Tok.D ⟨6,[],0,0,s.length⟩),[aQ s ((a+k:Nat):Int) 0 0]):=by
     rw[e2]
     unfold aQ Tok.D
     rw[om,cm rfl,aD]
     rfl
    rw[e1,xI s a (a+k) b L (by omega) ⟨6,[],0,0,s.length⟩ _ h1 h2,if_pos rfl]
   ·rw[if_neg he]
    have hw:=JY s hs (a+k) (by omega) 0
    have hok:=xb (s.drop (a+k)) (a+k)
    rw[List.drop_drop]
    generalize jo (s.drop (a+k)) (a+k)=W at *
    match W,hw,hok with
    | .inr (e,w'),⟨hne,x',T,h2⟩,hok=>exact Ha s a (a+k) b L T x' e w' hne h1 h2
    | .inl (t,n),h2,hok=>
     have h2:rk Tryz.prog aE (Task.call 46 [V.p 0 0] [aQ s ((a+k:Nat):Int) 0 0])=some (.d t.D,[aQ s ((a+k+n:Nat):Int) 0 0]):=h2
     obtain⟨-,i1,i2,i3,-⟩:=hok
     rw[List.length_drop]at i2
     simp only
     rw[xI s a (a+k) b L (by omega) t _ h1 h2,if_neg i3,List.drop_drop,<-Nat.add_assoc]
     exact ud s hs f (a+k+n) false (L++[t]) (by omega) (by omega) (by rw[List.length_append,List.length_singleton];omega)
theorem I0(s:List UInt8)(hs:s.length<=2000):rk Tryz.prog aE (Task.call 20 [V.d (D.s s)] [])=some (gm (lexB s)):=by
 unfold lexB
 rw[Me,bc (by omega),aA,if_neg (by omega)]
 exact ud s hs (s.length+1) 0 true [] (by omega) (by omega) (by simp)
theorem vv(b c:Bool)(W:List Tok)(hW:W.length<=100000):∀(m i:Nat),i+m=W.length->
  rk Tryz.prog aE (Task.at_ 21 0 [false,true,false,true,true] (sv 26 [(0,V.d (D.l b (cF W))),(1,V.d (D.l c (cF W))),(5,V.d (D.i .i64 (i:Int)))]) [] [])=some (.d (.b true),[])
 |0,i,h=>by rw[xL,bc (by rw[iu];omega),aD]
 |m+1,i,h=>by
  have hi:i<W.length:=by omega
  have ih:=vv b c W hW m (i+1) (by omega)
  have w1:IntKind.i64.wrap ((i:Int)+1)=((i+1:Nat):Int):=by rw[wrap_i64]<;>omega
  have hq:GH [2,3,2,2,2] (V.d (D.g [D.i .i64 (W[i].kind:Int),D.s W[i].text,D.i .i64 W[i].n,D.i .u64 (W[i].d:Int),D.i .i64 (W[i].at_:Int)]))
    (V.d (D.g [D.i .i64 (W[i].kind:Int),D.s W[i].text,D.i .i64 W[i].n,D.i .u64 (W[i].d:Int),D.i .i64 (W[i].at_:Int)]))=some true:=by
   simp[GH,tC,Go.Dn.Kp]
  rw[xL,bf (by rw[iu];omega),aJ (zJ W i hi)]
  show aC _ (aM true _)=_
  rw[ba,aJ (Cp W i hi)]
  show aC _ (aM true _)=_
  rw[ba,aJ (zJ W i hi)]
  show aC _ (aM true _)=_
  rw[ba,aJ (Cp W i hi)]
  show aC _ (aM true _)=_
  rw[ba]
  show aC _ (ob (GH [2,3,2,2,2] (V.d (D.g [D.i .i64 (W[i].kind:Int),D.s W[i].text,D.i .i64 W[i].n,D.i .u64 (W[i].d:Int),D.i .i64 (W[i].at_:Int)]))
    (V.d (D.g [D.i .i64 (W[i].kind:Int),D.s W[i].text,D.i .i64 W[i].n,D.i .u64 (W[i].d:Int),D.i .i64 (W[i].at_:Int)]))) _)=_
  rw[aJ hq,jP,w1,aA,ih]
theorem JG(b c:Bool)(W:List Tok)(hW:W.length<=100000):rk Tryz.prog aE (Task.call 21 [V.d (D.l b (cF W)),V.d (D.l c (cF W))] [])=some (.d (.b true),[]):=by
 rw[Mq,eM rfl,aA]
 exact vv b c W hW W.length 0 (Nat.zero_add _)
end Go.Dn.Dec
namespace Go.Dn.Dec
open Go.Proofs
set_option linter.unusedVariables false
set_option linter.unusedSimpArgs false
set_option maxRecDepth 100000
theorem EG(s:List UInt8):rk Tryz.prog aE (Task.call 20 [V.d (D.s s)] [])=some (gm (lexB s)):=by
 by_cases h:2000<s.length
 ·rw[Me,bf (by omega)]
  unfold lexB
  rw[if_pos h];rfl
 ·exact I0 s (by omega)
theorem iQ:∀s:List UInt8,eO (ofBytes s)=some s
 | []=>rfl
 |c::s=>by
  show (eO (ofBytes s)).map (UInt8.ofNat ((c.toNat:Int)).toNat :: ·)=_
  rw[iQ s,Option.map_some,Int.toNat_natCast,UInt8.ofNat_toNat]
theorem Cv(s:List UInt8)(x:Ob):view [Ob.cells ((ofBytes s).map V.d) [],x] 1 (V.m 1 0 s.length)=some (ofBytes s):=by
 have hl:((ofBytes s).map V.d).length=s.length:=by simp[ofBytes]
 show (if 1=1 then(if 0+s.length<=((ofBytes s).map V.d).length then ti ((((ofBytes s).map V.d).drop 0).take s.length)else none)else none)=_
 rw[if_pos rfl,if_pos (by omega),List.drop_zero,List.take_of_length_le (by omega),o6]
theorem yp(s:List UInt8)(hs:(lexB s).1.length<=100000):rk Tryz.prog jK (Task.call 21 [V.d (D.l (lexB s).1.isEmpty (cF (lexB s).1)),V.d (D.l (lexB s).1.isEmpty (cF (lexB s).1))] [])=some (.d (.b true),[]):=
 w9 (JG (lexB s).1.isEmpty (lexB s).1.isEmpty (lexB s).1 hs) (by decide) (by decide)
theorem yn(s:List UInt8):(lexB s).1.length<=100000:=by
 by_cases h:2000<s.length
 ·unfold lexB;rw[if_pos h];exact Nat.zero_le _
 ·exact E3 s (by omega)
theorem BR(s:List UInt8)(x:List V)(n m:Int)(hn:0<=n/\n<65536)(hm:0<=m/\m<256)(b:Bool)(hb:b=true->0<s.length)(hs:s.length<=1000000):
  rk Tryz.prog jK (Task.at_ 7 0 [true,false,true,true,true,true] (sv 69 [(1,V.d (D.i .u16 n)),(2,V.d (D.i .u8 m)),(9,V.m 1 0 s.length),(33,V.d (D.b b))]) [] [Ob.cells ((ofBytes s).map V.d) [],Ob.cells x []])=some (.d (.b true),[]):=by
 have both:∀u:List UInt8,∃hb1:rk Tryz.prog jK (Task.call 19 [V.d (D.s u)] [])=some (gm (lexB u)),rk Tryz.prog jK (Task.call 20 [V.d (D.s u)] [])=some (gm (lexB u)):=
  fun u=>⟨w9 (E4 u) (by decide) (by decide),w9 (EG u) (by decide) (by decide)⟩
 rw[Gy]
 cases b with
 |true=>
  have hb:=hb rfl
  have w1:IntKind.i64.wrap n=n:=by rw[wrap_i64]<;>omega
  obtain⟨N,rfl⟩:∃N:Nat,n=(N:Int):=⟨n.toNat,by omega⟩
  have e:(N:Int).tmod (s.length:Int)=((N%s.length:Nat):Int):=rfl
  have hlt:=Nat.mod_lt N hb
  have hset:((ofBytes s).map V.d).set (N%s.length) (V.d (D.i .u8 m))=(ofBytes (s.set (N%s.length) (UInt8.ofNat m.toNat))).map V.d:=by
   have hc:((UInt8.ofNat m.toNat).toNat:Int)=m:=by rw[UInt8.toNat_ofNat'];omega
   simp only[ofBytes,List.map_set,hc]
  have hlen:(s.set (N%s.length) (UInt8.ofNat m.toNat)).length=s.length:=List.length_set
  rw[bk,w1,e,aH (by omega),aH ⟨by omega,by omega⟩,Int.toNat_natCast,Nat.zero_add]
  rw[show decide (N%s.length<((ofBytes s).map V.d).length)=true from decide_eq_true (by simp[ofBytes];omega)]
  refine ba.trans ?_
  rw[hset]
  have hv:=Cv (s.set (N%s.length) (UInt8.ofNat m.toNat)) (Ob.cells x [])
  rw[hlen]at hv
  obtain⟨b1,b2⟩:=both (s.set (N%s.length) (UInt8.ofNat m.toNat))
  have h3:=yp (s.set (N%s.length) (UInt8.ofNat m.toNat)) (yn _)
  generalize s.set (N%s.length) (UInt8.ofNat m.toNat)=u at *
  unfold gm at b1 b2
  refine(aJ hv).trans ?_
  refine(aJ (iQ u)).trans ?_
  refine(pU b1).trans ?_
  refine(aJ hv).trans ?_
  refine(aJ (iQ u)).trans ?_
  refine(pU b2).trans ?_
  rw[cm rfl,cm rfl]
  exact(dh h3).trans rfl
 |false=>
  have hv:=Cv s (Ob.cells x [])
  obtain⟨b1,b2⟩:=both s
  have h3:=yp s (yn _)
  unfold gm at b1 b2
  rw[aY]
  refine(aJ hv).trans ?_
  refine(aJ (iQ s)).trans ?_
  refine(pU b1).trans ?_
  refine(aJ hv).trans ?_
  refine(aJ (iQ s)).trans ?_
  refine(pU b2).trans ?_
  rw[cm rfl,cm rfl]
  exact(dh h3).trans rfl
theorem zK(zs:List Int)(hz:∀z∈zs,0<=z/\z<256)(n:Int)(hn:0<=n/\n<65536)(m:Int)(hm:0<=m/\m<256)(b:Bool):
  rk Tryz.prog jK (Task.call 7 [V.d (D.l false (ints .u8 zs)),V.d (D.i .u16 n),V.d (D.i .u8 m),V.d (D.b b)] [])=some (.d (.b true),[]):=by
 have e1:(ints .u8 zs).length=zs.length:=gZ _ _
 rw[y7,dh (w9 GS (by decide) (by decide)),jP]
 by_cases h1:100<zs.length
 ·rw[bf (by omega)];rfl
 rw[bc (by omega)]
 obtain⟨x,r,n1,hx,_,_,h1,e1⟩:=Hl (KG hz (by omega))
 have wx:=Hw hx
 have lx:(Dv x).length<=200000:=Dg hx
 have p2:=IH (HW x wx (Nat.le_trans lx (by decide))) (by decide) (by decide)
 have m1:=IH (Jn zs) (by decide) (by decide)
 have f1:=JX e1 (by decide) (by decide)
 have gx:(x::r)[0]?=some x:=rfl
 refine(LV m1 rfl).trans ?_
 refine(pS (m:=2) (fl':=[]) f1 rfl rfl).trans ?_
 obtain⟨_,_,_,_,rfl,_⟩:=hx
 refine(zX (i:=0) gx rfl).trans ?_
 refine(iZ p2).trans ?_
 rw[show (decide ((Dv (D.g [D.l true _,D.l true _,D.l _ _])).length<=4294967296)&&true)=true by rw[decide_eq_true (Nat.le_trans lx (by decide))];rfl,ba]
 cases b with
 |true=>
  rw[bk]
  exact bB (BR _ _ n m hn hm _ (fun h=>by simp at h;exact h) (Nat.le_trans lx (by decide)))
 |false=>
  rw[aY]
  exact bB (BR _ _ n m hn hm false (fun h=>by cases h) (Nat.le_trans lx (by decide)))
end Go.Dn.Dec
