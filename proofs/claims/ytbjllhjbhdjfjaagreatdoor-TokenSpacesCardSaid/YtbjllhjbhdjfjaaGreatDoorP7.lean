/- print: fields' texts, methods', definitions', files': the document's functions; print's of fields. -/
import Derived.Test.YtbjllhjbhdjfjaaGreatDoorP6
import Derived.Test.YtbjllhjbhdjfjaaGreatDoorP5
import Derived.Test.YtbjllhjbhdjfjaaGreatDoorP4
import Derived.KernelRfl
set_option linter.unusedVariables false
set_option linter.unusedSimpArgs false
set_option linter.unusedSectionVars false
namespace Go.Dn.Dec
open Go.Proofs
set_option linter.unusedVariables false
set_option linter.unusedSimpArgs false
def JE(r:Int):List UInt8:=if r=1 then [114,101,113,117,105,114,101,100,32]else if r=2 then [111,112,116,105,111,110,97,108,32]else []
def LK(h:Bool)(id:Int):List UInt8:=if h=true then js id++[58,32]else []
def Az(hi:Bool)(c:D):List UInt8:=if hi=true then [32,61,32]++fC c else []
theorem JC(h:Bool)(id r:Int)(t nm:List UInt8)(hi:Bool)(k n u:Int)(s:List UInt8)(b:Bool)(l:List D):Du (fD h id r t nm hi k n u s b l)=LK h id++JE r++t++[32]++nm++Az hi (cD k n u s b l):=rfl
theorem rJ{n:Int}(h:Kc n):(js n).length<=100:=by
  unfold js
  obtain⟨h1,h2⟩:=h
  split
  · rw [List.length_cons]
    have := iB 20 n.natAbs (by decide) (by have : n.natAbs ≤ 9223372036854775808 := by omega
                                           exact Nat.lt_of_le_of_lt this (by decide))
    omega
  · have := iB 20 n.toNat (by decide) (by have : n.toNat ≤ 9223372036854775808 := by omega
                                          exact Nat.lt_of_le_of_lt this (by decide))
    omega
abbrev fO(h:Bool)(id r:Int)(t nm:List UInt8)(hi:Bool)(k n u:Int)(s:List UInt8)(b:Bool)(l:List D):Ob:=
 Ob.cells [V.d (D.b h),V.d (D.i IntKind.i64 id),V.d (D.i IntKind.i64 r),V.d (D.s t),V.d (D.s nm),V.d (D.b hi),V.d (D.i IntKind.i64 k),V.d (D.i IntKind.i64 n),V.d (D.i IntKind.u64 u),V.d (D.s s),V.d (D.l b l)] []
section
variable (h : Bool) (id r : Int) (t nm : List UInt8) (hi : Bool) (k n u : Int) (s : List UInt8) (b : Bool) (l : List D) (ht : t.length ≤ 100000) (hn : nm.length ≤ 2000) (hk : hi = true → k ≠ 0) (hw : WC xF (cD k n u s b l)) (hl : hi = true → (fC (cD k n u s b l)).length ≤ 900000)
include ht hn hk hw hl
theorem LR(acc:List UInt8)(ha:acc.length<=1000):RY (Task.at_ 61 0 [true,true,true,true] (sv 37 [(1,V.p 0 0),(3,V.d (D.s acc))]) [] [fO h id r t nm hi k n u s b l])=some (.d (.s (acc++t++[32]++nm++Az hi (cD k n u s b l))),[]):=by
 rw[RY,GC,aH (by omega),aH (by simp;omega),aH (by simp;omega)]
 cases hi with
 |true=>
  have hl:=hl rfl
  rw[bk,aH (by simp;omega)]
  refine(iZ (oM xF _ hw (hk rfl) hl)).trans ?_
  rw[aH (by simp at hl⊢;omega)]
  simp only[Az,if_true,aD,List.append_assoc]
 |false=>
  rw[aY]
  simp only[Az,Bool.false_eq_true,if_false,aD,List.append_assoc,List.append_nil]
theorem LQ(acc:List UInt8)(ha:acc.length<=900):RY (Task.at_ 61 0 [true,true,true] (sv 37 [(1,V.p 0 0),(3,V.d (D.s acc))]) [] [fO h id r t nm hi k n u s b l])=some (.d (.s (acc++JE r++t++[32]++nm++Az hi (cD k n u s b l))),[]):=by
 have e:=fun acc ha=>LR h id r t nm hi k n u s b l ht hn hk hw hl acc ha
 rw[RY,GB]
 unfold JE
 by_cases h1:r=1
 ·rw[cm h1,if_pos h1,aH (by omega)]
  exact bB (e _ (by simp;omega))
 ·by_cases h2:r=2
  ·rw[bO h1,if_neg h1,cm h2,if_pos h2,aH (by omega)]
   exact bB (e _ (by simp;omega))
  ·rw[bO h1,if_neg h1,bO h2,if_neg h2,List.append_nil]
   exact bB (e _ (by omega))
end
def GL(k:Nat)(W:D->Prop)(pr:D->List UInt8):Prop:=∀x,W x->(pr x).length<=900000->RY (Task.call k [V.d x] [])=some (.d (.s (pr x)),[])
theorem Hn{hi:Bool}{c:D}{a:List UInt8}(h:(a++Az hi c).length<=900000):hi=true->(fC c).length<=900000:=by
 rintro rfl
 simp only[Az,if_true,List.length_append]at h
 omega
theorem y1:GL 61 WF Du:=by
 intro x hx hl
 obtain⟨h,id,r,t,nm,hi,k,n,u,s,b,l,rfl,h1,h2,h3,h4,h5⟩:=hx
 rw[JC]at hl⊢
 have e:=fun acc ha=>LQ h id r t nm hi k n u s b l h2 h3 h4 h5 (Hn hl) acc ha
 rw[RY,MI]
 cases h with
 |true=>
  have:=rJ h1
  rw[bk,iZ (JP id h1),aH (by omega)]
  refine(bB (e _ (by simp;omega))).trans ?_
  simp only[LK,if_true]
 |false=>
  rw[aY]
  refine(bB (e _ (by simp))).trans ?_
  simp only[LK,Bool.false_eq_true,if_false]
theorem zQ{x:D}(h:WF x):x.width=11:=by
 obtain⟨_,_,_,_,_,_,_,_,_,_,_,_,rfl,_⟩:=h;rfl
theorem ET{l:List D}(hl:(jM l).length<=900000):∀y∈l,(Du y).length<=900000:=fun y hy=>by
 have:=sr (sep:=[44,32]) (List.mem_map.2 ⟨y,hy,rfl⟩:Du y∈l.map Du)
 unfold jM at hl;omega
theorem y3(l:List D)(hl:l.length<=100)(h:∀y∈l,WF y)(hj:(jM l).length<=900000)(b2:Bool):∀(r p:List D),p++r=l->
  RY (Task.at_ 125 0 [false,true,false,true,true] (sv 23 [(0,V.d (D.l b2 l)),(3,V.d (D.s (jM p))),(4,V.d (D.i IntKind.i64 (p.length:Int)))]) [] [])=some (.d (.s (jM l)),[])
 | [],p,e=>by
  rw[List.append_nil]at e
  subst e
  rw[RY,vM,bc (by omega)];rfl
 |x::r,p,e=>by
  have hlen:l.length=p.length+(r.length+1):=by rw[<-e];simp
  have w1:IntKind.i64.wrap ((p.length:Int)+1)=((p.length+1:Nat):Int):=by rw[wrap_i64]<;>omega
  have hx:x∈l:=by rw[<-e];simp
  have hxl:=ET hj x hx
  have hc:=y1 x (h x hx) hxl
  have hwd:=h x hx
  have g:l[p.length]?=some x:=by rw[<-e];simp
  have hpre0:=lC (p.map Du) ((x::r).map Du) [44,32]
  rw[<-List.map_append,e]at hpre0
  have ih:=y3 l hl h hj b2 r (p++[x]) (by rw[<-e];simp)
  rw[show (p++[x]).length=p.length+1 by simp]at ih
  have step:∀acc:List UInt8,acc.length<=1000000->acc++Du x=jM (p++[x])->
    RY (Task.at_ 125 0 [true,false,false,true,false,false,true,false,true,true] (sv 23 [(0,V.d (D.l b2 l)),(3,V.d (D.s acc)),(4,V.d (D.i IntKind.i64 (p.length:Int)))]) [] [])=some (.d (.s (jM l)),[]):=by
   intro acc ha hacc
   rw[RY,zR,w1]
   refine(zX g (zQ hwd)).trans ?_
   obtain⟨h,id,r,t,nm,hi,k,n,u,s,bb,l',rfl,_⟩:=hwd
   refine(iZ hc).trans ?_
   rw[aH (by omega),hacc]
   exact bB ih
  unfold jM at *
  rw[RY,vM,bf (by omega)]
  by_cases hp:p=[]
  ·subst hp
   rw[bc (by simp)]
   refine bB (step _ (by simp[Lib.join_nil]) (by simp[Lib.join_one,Lib.join_nil]))
  ·have:0<p.length:=List.length_pos_iff.2 hp
   rw[bf (by omega),aH (by omega)]
   refine bB (step _ (by simp;omega) ?_)
   rw[List.map_append,List.map_singleton,pK _ _ _ (by simpa using hp)]
theorem Iz(b:Bool)(l:List D)(hl:l.length<=100)(h:∀y∈l,WF y)(hj:(jM l).length<=900000):RY (Task.call 125 [V.d (D.l b l)] [])=some (.d (.s (jM l)),[]):=by
 rw[RY,L6]
 exact bB (y3 l hl h hj b l [] rfl)
def Cp(ow:Bool):List UInt8:=if ow=true then [111,110,101,119,97,121,32]else []
def Kb(tl:List D):List UInt8:=if tl=[]then []else [32,116,104,114,111,119,115,32,40]++jM tl++[41]
theorem HQ(nm:List UInt8)(ow:Bool)(ret:List UInt8)(ab:Bool)(al:List D)(tb:Bool)(tl:List D):mo (Mf nm ow ret ab al tb tl)=[32,32]++Cp ow++ret++[32]++nm++[40]++jM al++[41]++Kb tl++[44,10]:=rfl
theorem JT{tl:List D}{a c:List UInt8}(h:(a++Kb tl++c).length<=900000):(jM tl).length<=900000:=by
 by_cases ht:tl=[]
 ·subst ht;simp[jM,Lib.join_nil]
 ·simp only[Kb,if_neg ht,List.length_append]at h;omega
theorem DF:GL 62 J2 mo:=by
 intro x hx hl
 obtain⟨nm,ow,ret,ab,al,tb,tl,rfl,h1,h2,h3,h4,h5,h6⟩:=hx
 rw[HQ]at hl⊢
 have ha:(jM al).length<=900000:=by simp only[List.length_append]at hl;omega
 have ht:=JT hl
 have c1:=Iz ab al h3 h5 ha
 have c2:=Iz tb tl h4 h6 ht
 have e:∀acc:List UInt8,acc.length<=1000->RY (Task.at_ 62 0 [true,true,true] (sv 35 [(1,V.p 0 0),(3,V.d (D.s acc))]) [] [Ob.cells [V.d (D.s nm),V.d (D.b ow),V.d (D.s ret),V.d (D.l ab al),V.d (D.l tb tl)] []])=
   some (.d (.s (acc++ret++[32]++nm++[40]++jM al++[41]++Kb tl++[44,10])),[]):=by
  intro acc hacc
  rw[RY,GD,aH (by omega),aH (by simp;omega),aH (by simp;omega),aH (by simp;omega),iZ c1,aH (by simp;omega),aH (by simp;omega)]
  by_cases h0:tl=[]
  ·subst h0
   rw[bc (by simp)]
   refine(bB (o:=_) ?_)
   rw[RY,zW,aH (by simp;omega)]
   simp only[Kb,if_true,List.append_nil];rfl
  ·have:0<tl.length:=List.length_pos_iff.2 h0
   rw[bf (by omega),aH (by simp;omega),iZ c2,aH (by simp;omega),aH (by simp;omega)]
   refine(bB (o:=_) ?_)
   rw[RY,zW,aH (by simp;omega)]
   simp only[Kb,if_neg h0,aD,List.append_assoc]
 rw[RY,MJ]
 cases ow with
 |true=>rw[bk];exact bB (e _ (by simp))
 |false=>rw[aY];exact bB (e _ (by simp))
end Go.Dn.Dec
namespace Go.Dn.Dec
open Go.Proofs
set_option linter.unusedVariables false
set_option linter.unusedSimpArgs false
theorem Im{f:Task->Option Out}{l:List D}{i w j:Nat}{x:D}{s:List UInt8}(h:l[i]?=some x)(hw:x.width=w)(hj:x.cells[j]?=some (.s s)){K:List UInt8->Tr}:
  aC f (ob (bh l (i:Int)) fun d=>aM (d.width==w) (ob l[((i:Int)).toNat]? fun d2=>ob d2.cells[j]? fun d3=>fF d3 K))=aC f (K s):=by
 subst hw
 rw[bp,aJ h,beq_self_eq_true,ba,Int.toNat_natCast,aJ h,aJ hj];rfl
theorem L7{f:Task->Option Out}{l:List D}{i w j:Nat}{x:D}{s:Bool}(h:l[i]?=some x)(hw:x.width=w)(hj:x.cells[j]?=some (.b s)){K:Bool->Tr}:
  aC f (ob (bh l (i:Int)) fun d=>aM (d.width==w) (ob l[((i:Int)).toNat]? fun d2=>ob d2.cells[j]? fun d3=>dQ d3 K))=aC f (K s):=by
 subst hw
 rw[bp,aJ h,beq_self_eq_true,ba,Int.toNat_natCast,aJ h,aJ hj];rfl
theorem L8{f:Task->Option Out}{l:List D}{i w j:Nat}{x:D}{q:IntKind}{s:Int}(h:l[i]?=some x)(hw:x.width=w)(hj:x.cells[j]?=some (.i q s)){K:Int->Tr}:
  aC f (ob (bh l (i:Int)) fun d=>aM (d.width==w) (ob l[((i:Int)).toNat]? fun d2=>ob d2.cells[j]? fun d3=>bD q d3 K))=aC f (K s):=by
 subst hw
 rw[bp,aJ h,beq_self_eq_true,ba,Int.toNat_natCast,aJ h,aJ hj]
 show aC f (bD q (.i q s) K)=_
 rw[bl,if_pos rfl]
abbrev dO(kd:Int)(nm ty:List UInt8)(ck cn cu:Int)(cs:List UInt8)(cb:Bool)(cl:List D)(fb:Bool)(fl:List D)(mb:Bool)(ml:List D)(ex:List UInt8)(tb:Bool)(tl:List D):Ob:=
 Ob.cells [V.d (D.i IntKind.i64 kd),V.d (D.s nm),V.d (D.s ty),V.d (D.i IntKind.i64 ck),V.d (D.i IntKind.i64 cn),V.d (D.i IntKind.u64 cu),V.d (D.s cs),V.d (D.l cb cl),V.d (D.l fb fl),V.d (D.l mb ml),V.d (D.s ex),V.d (D.l tb tl)] []
section
variable (kd : Int) (nm ty : List UInt8) (ck cn cu : Int) (cs : List UInt8) (cb : Bool) (cl : List D) (fb : Bool) (fl : List D) (mb : Bool) (ml : List D) (ex : List UInt8) (tb : Bool) (tl : List D)
theorem yY(h:∀y∈tl,J2 y)(hl:tl.length<=100):∀(r p:List D) (a:List UInt8),p++r=tl->(a++(r.map mo).flatten).length<=900000->
  RY (Task.at_ 31 0 [false,true,false,true,true,true,true,true,true,true,true,true] (sv 125 [(1,V.p 0 0),(4,V.d (D.s a)),(7,V.d (D.i IntKind.i64 (p.length:Int)))]) [] [dO kd nm ty ck cn cu cs cb cl fb fl mb ml ex tb tl])=
   some (.d (.s (a++(r.map mo).flatten++[125,10])),[])
 | [],p,a,e,ha=>by
  rw[List.append_nil]at e
  subst e
  simp only[List.map_nil,List.flatten_nil,List.append_nil]at ha⊢
  rw[RY,tw,bc (by omega),aH (by omega)];rfl
 |x::r,p,a,e,ha=>by
  have hlen:tl.length=p.length+(r.length+1):=by rw[<-e];simp
  have w1:IntKind.i64.wrap ((p.length:Int)+1)=((p.length+1:Nat):Int):=by rw[wrap_i64]<;>omega
  have hx:x∈tl:=by rw[<-e];simp
  have g:tl[p.length]?=some x:=by rw[<-e];simp
  simp only[List.map_cons,List.flatten_cons,List.length_append]at ha
  have hc:=DF x (h x hx) (by omega)
  have hwd:=h x hx
  have ih:=yY h hl r (p++[x]) (a++mo x) (by rw[<-e];simp) (by simp only[List.length_append];omega)
  rw[show (p++[x]).length=p.length+1 by simp]at ih
  rw[RY,tw,bf (by omega)]
  have hw5:x.width=5:=by obtain⟨_,_,_,_,_,_,_,rfl,_⟩:=hwd;rfl
  refine(zX g hw5).trans ?_
  obtain⟨nm',ow',ret',ab',al',tb',tl',rfl,_⟩:=hwd
  refine(iZ hc).trans ?_
  rw[aH (by omega),w1]
  refine(bB ih).trans ?_
  simp only[List.map_cons,List.flatten_cons,List.append_assoc]
theorem yX(ht:∀y∈tl,J2 y)(htl:tl.length<=100)(h:∀y∈fl,WF y)(hl:fl.length<=100):∀(r p:List D) (a:List UInt8),p++r=fl->(a++(r.map Dw).flatten++(tl.map mo).flatten).length<=900000->
  RY (Task.at_ 31 0 [false,true,false,true,true,true,true,true,true,true,true] (sv 125 [(1,V.p 0 0),(4,V.d (D.s a)),(6,V.d (D.i IntKind.i64 (p.length:Int)))]) [] [dO kd nm ty ck cn cu cs cb cl fb fl mb ml ex tb tl])=
   some (.d (.s (a++(r.map Dw).flatten++(tl.map mo).flatten++[125,10])),[])
 | [],p,a,e,ha=>by
  rw[List.append_nil]at e
  subst e
  simp only[List.map_nil,List.flatten_nil,List.append_nil]at ha⊢
  rw[RY,tv,bc (by omega)]
  exact bB (yY kd nm ty ck cn cu cs cb cl fb p mb ml ex tb tl ht htl tl [] a rfl ha)
 |x::r,p,a,e,ha=>by
  have hlen:fl.length=p.length+(r.length+1):=by rw[<-e];simp
  have w1:IntKind.i64.wrap ((p.length:Int)+1)=((p.length+1:Nat):Int):=by rw[wrap_i64]<;>omega
  have hx:x∈fl:=by rw[<-e];simp
  have g:fl[p.length]?=some x:=by rw[<-e];simp
  simp only[List.map_cons,List.flatten_cons,List.length_append,Dw]at ha
  have hc:=y1 x (h x hx) (by omega)
  have hwd:=h x hx
  have ih:=yX ht htl h hl r (p++[x]) (a++Dw x) (by rw[<-e];simp) (by simp only[List.length_append,Dw];omega)
  rw[show (p++[x]).length=p.length+1 by simp]at ih
  rw[RY,tv,bf (by omega),aH (by omega)]
  refine(zX g (zQ hwd)).trans ?_
  obtain⟨h',id',r',t',nm',hi',k',n',u',s',bb',l',rfl,_⟩:=hwd
  refine(iZ hc).trans ?_
  rw[aH (by simp;omega),aH (by simp;omega),w1,show ∀z:List UInt8,a++[32,32]++z++[44,10]=a++([32,32]++z++[44,10]) by intro z;simp]
  refine(bB ih).trans ?_
  simp only[List.map_cons,List.flatten_cons,List.append_assoc]
theorem yW(ht:∀y∈tl,J2 y)(htl:tl.length<=100)(hf:∀y∈fl,WF y)(hfl:fl.length<=100)(h:∀y∈ml,WM y)(hl:ml.length<=100):∀(r p:List D) (a:List UInt8),p++r=ml->(a++(r.map B6).flatten++(fl.map Dw).flatten++(tl.map mo).flatten).length<=900000->
  RY (Task.at_ 31 0 [false,true,false,true,true,true,true,true,true,true] (sv 125 [(1,V.p 0 0),(4,V.d (D.s a)),(5,V.d (D.i IntKind.i64 (p.length:Int)))]) [] [dO kd nm ty ck cn cu cs cb cl fb fl mb ml ex tb tl])=
   some (.d (.s (a++(r.map B6).flatten++(fl.map Dw).flatten++(tl.map mo).flatten++[125,10])),[])
 | [],p,a,e,ha=>by
  rw[List.append_nil]at e
  subst e
  simp only[List.map_nil,List.flatten_nil,List.append_nil]at ha⊢
  rw[RY,tu,bc (by omega)]
  exact bB (yX kd nm ty ck cn cu cs cb cl fb fl mb p ex tb tl ht htl hf hfl fl [] a rfl ha)
 |x::r,p,a,e,ha=>by
  have hlen:ml.length=p.length+(r.length+1):=by rw[<-e];simp
  have w1:IntKind.i64.wrap ((p.length:Int)+1)=((p.length+1:Nat):Int):=by rw[wrap_i64]<;>omega
  have hx:x∈ml:=by rw[<-e];simp
  have g:ml[p.length]?=some x:=by rw[<-e];simp
  have hwd:=h x hx
  have ih:=yW ht htl hf hfl h hl r (p++[x]) (a++B6 x) (by rw[<-e];simp) (by simp only[List.map_cons,List.flatten_cons,List.length_append]at ha⊢;omega)
  rw[show (p++[x]).length=p.length+1 by simp]at ih
  obtain⟨nm',h',n',rfl,h1,h2⟩:=hwd
  have hb:=rJ h2
  simp only[List.map_cons,List.flatten_cons,List.length_append,B6]at ha
  have step:∀acc:List UInt8,acc.length<=1000000->acc++[44,10]=a++B6 (mD nm' h' n')->
    RY (Task.at_ 31 0 [true,true,false,false,true,false,false,true,false,true,true,true,true,true,true,true] (sv 125 [(1,V.p 0 0),(4,V.d (D.s acc)),(5,V.d (D.i IntKind.i64 (p.length:Int)))]) [] [dO kd nm ty ck cn cu cs cb cl fb fl mb ml ex tb tl])=
     some (.d (.s (a++((mD nm' h' n'::r).map B6).flatten++(fl.map Dw).flatten++(tl.map mo).flatten++[125,10])),[]):=by
   intro acc hacc hq
   rw[RY,xf,aH (by omega),hq,w1]
   refine(bB ih).trans ?_
   simp only[List.map_cons,List.flatten_cons,List.append_assoc]
  rw[RY,tu,bf (by omega),aH (by omega),Im (w:=3) (j:=0) (s:=nm') g rfl rfl,aH (by simp;omega),L7 (w:=3) (j:=1) (s:=h') g rfl rfl]
  cases h' with
  |true=>
   rw[bk,aH (by simp;omega),L8 (w:=3) (j:=2) (s:=n') g rfl rfl,iZ (JP n' h2),aH (by simp;omega)]
   refine bB (step _ (by simp;omega) ?_)
   simp[B6,List.append_assoc]
  |false=>
   rw[aY]
   refine bB (step _ (by simp;omega) ?_)
   simp[B6,List.append_assoc]
end
theorem JD:GL 31 WD Dt:=by
 intro x hx hl
 obtain⟨kd,nm,ty,ck,cn,cu,cs,cb,cl,fb,fl,mb,ml,ex,tb,tl,rfl,k1,k7,hnm,hty,hk3,hwc,hfl,hf,hml,hm,hex,htl,ht,n2,n4,n7⟩:=hx
 obtain⟨k,rfl⟩:∃k:Nat,kd=(k:Int):=⟨kd.toNat,by omega⟩
 have hwd:∃w:List UInt8,([D.s [],D.s [116,121,112,101,100,101,102,32],D.s [101,110,117,109,32],D.s [99,111,110,115,116,32],D.s [115,116,114,117,99,116,32],D.s [117,110,105,111,110,32],D.s [101,120,99,101,112,116,105,111,110,32],D.s [115,101,114,118,105,99,101,32]]:List D)[k]?=some (.s w)/\w.length<=10/\
   (k=1->w=[116,121,112,101,100,101,102,32])/\(k=3->w=[99,111,110,115,116,32])/\(k=2->w=[101,110,117,109,32])/\(k=7->w=[115,101,114,118,105,99,101,32])/\(4<=k/\k<=6->w=J7 k):=by
  have hk:k<8:=by omega
  rcases k with _|_|_|_|_|_|_|_|k
  all_goals first
   |(refine⟨_,rfl,?_,?_,?_,?_,?_,?_⟩<;>simp[J7];done)
   |omega
 obtain⟨w,gw,hw10,e1,e3,e2,e7,e46⟩:=hwd
 rw[RY,MF,xi gw]
 have gen:∀acc:List UInt8,(acc++[32,123,10]++(ml.map B6).flatten++(fl.map Dw).flatten++(tl.map mo).flatten).length<=900000->
   RY (Task.at_ 31 0 [true,true,true,true,true,true] (sv 125 [(1,V.p 0 0),(4,V.d (D.s acc))]) [] [dO k nm ty ck cn cu cs cb cl fb fl mb ml ex tb tl])=
    some (.d (.s (acc++[32,123,10]++(ml.map B6).flatten++(fl.map Dw).flatten++(tl.map mo).flatten++[125,10])),[]):=by
  intro acc hacc
  have hacc':=hacc
  simp only[List.length_append]at hacc'
  rw[RY,D8,aH (by omega)]
  exact bB (yW k nm ty ck cn cu cs cb cl fb fl mb ml ex tb tl ht htl hf hfl hm hml ml [] _ rfl hacc)
 simp only[Dt]at hl⊢
 by_cases c1:(k:Int)=1
 ·have:=e1 (by omega);subst this
  rw[cm c1,if_pos c1,aH (by simp;omega),aH (by simp;omega),aH (by simp;omega),aH (by simp;omega)];rfl
 by_cases c3:(k:Int)=3
 ·have:=e3 (by omega);subst this
  rw[if_neg c1,if_pos c3]at hl
  rw[bO c1,cm c3,if_neg c1,if_pos c3,aH (by simp;omega),aH (by simp;omega),aH (by simp;omega),aH (by simp;omega)]
  have hcl:(fC (cD ck cn cu cs cb cl)).length<=900000:=by simp only[cD,List.length_append]at hl⊢;omega
  refine(iZ (oM xF _ hwc (hk3 (by omega)) hcl)).trans ?_
  rw[aH (by simp;omega),aH (by simp;omega)];rfl
 rw[bO c1,bO c3,if_neg c1,if_neg c3,aH (by omega)]
 rw[if_neg c1,if_neg c3]at hl
 by_cases c2:(k:Int)=2
 ·obtain⟨rfl,rfl,rfl⟩:=n2 c2
  have:=e2 (by omega);subst this
  rw[if_pos c2]at hl⊢
  have hg:=gen ([101,110,117,109,32]++nm) (by simp only[List.length_append,List.map_nil,List.flatten_nil,List.append_nil]at hl⊢;omega)
  simp only[List.map_nil,List.flatten_nil,List.append_nil]at hg
  rw[show (!([]:List UInt8)==[])=false from rfl,aY]
  exact bB hg
 rw[if_neg c2]at hl⊢
 by_cases c7:(k:Int)=7
 ·obtain⟨rfl,rfl⟩:=n7 c7
  have:=e7 (by omega);subst this
  rw[if_pos c7]at hl⊢
  by_cases hx:ex=[]
  ·subst hx
   rw[if_pos rfl]at hl⊢
   simp only[List.append_nil]at hl⊢
   have hg:=gen ([115,101,114,118,105,99,101,32]++nm) (by simp only[List.length_append,List.map_nil,List.flatten_nil,List.append_nil]at hl⊢;omega)
   simp only[List.map_nil,List.flatten_nil,List.append_nil]at hg
   rw[show (!([]:List UInt8)==[])=false from rfl,aY]
   exact bB hg
  ·rw[if_neg hx]at hl⊢
   have hg:=gen ([115,101,114,118,105,99,101,32]++nm++[32,101,120,116,101,110,100,115,32]++ex) (by simp only[List.length_append,List.map_nil,List.flatten_nil,List.append_nil]at hl⊢;omega)
   simp only[List.map_nil,List.flatten_nil,List.append_nil]at hg
   rw[da (by simpa using hx),aH (by simp;omega),aH (by simp;omega)]
   refine(bB hg).trans ?_
   simp only[List.append_assoc]
 ·obtain⟨rfl,rfl,rfl⟩:=n4 (by omega)
  have:=e46 (by omega);subst this
  rw[if_neg c7]at hl⊢
  have hg:=gen (J7 k++nm) (by simp only[List.length_append,List.map_nil,List.flatten_nil,List.append_nil]at hl⊢;omega)
  simp only[List.map_nil,List.flatten_nil,List.append_nil]at hg
  rw[show (!([]:List UInt8)==[])=false from rfl,aY]
  exact bB hg
section
variable (ib : Bool) (il : List D) (sb : Bool) (sl : List D) (db : Bool) (dl : List D)
abbrev LI(ib:Bool)(il:List D)(sb:Bool)(sl:List D)(db:Bool)(dl:List D):Ob:=Ob.cells [V.d (D.l ib il),V.d (D.l sb sl),V.d (D.l db dl)] []
theorem y2(h:∀y∈dl,WD y)(hl:dl.length<=100):∀(r p:List D) (a:List UInt8),p++r=dl->(a++(r.map Dt).flatten).length<=900000->
  RY (Task.at_ 13 0 [false,true,false,true,true,true,true] (sv 64 [(1,V.p 0 0),(3,V.d (D.s a)),(6,V.d (D.i IntKind.i64 (p.length:Int)))]) [] [LI ib il sb sl db dl])=some (.d (.s (a++(r.map Dt).flatten)),[])
 | [],p,a,e,ha=>by
  rw[List.append_nil]at e
  subst e
  simp only[List.map_nil,List.flatten_nil,List.append_nil]at ha⊢
  rw[RY,vN,bc (by omega)];rfl
 |x::r,p,a,e,ha=>by
  have hlen:dl.length=p.length+(r.length+1):=by rw[<-e];simp
  have w1:IntKind.i64.wrap ((p.length:Int)+1)=((p.length+1:Nat):Int):=by rw[wrap_i64]<;>omega
  have hx:x∈dl:=by rw[<-e];simp
  have g:dl[p.length]?=some x:=by rw[<-e];simp
  simp only[List.map_cons,List.flatten_cons,List.length_append]at ha
  have hc:=JD x (h x hx) (by omega)
  have hwd:=h x hx
  have ih:=y2 h hl r (p++[x]) (a++Dt x) (by rw[<-e];simp) (by simp only[List.length_append];omega)
  rw[show (p++[x]).length=p.length+1 by simp]at ih
  have hw12:x.width=12:=by obtain⟨_,_,_,_,_,_,_,_,_,_,_,_,_,_,_,_,rfl,_⟩:=hwd;rfl
  rw[RY,vN,bf (by omega)]
  refine(zX g hw12).trans ?_
  obtain⟨_,_,_,_,_,_,_,_,_,_,_,_,_,_,_,_,rfl,_⟩:=hwd
  refine(iZ hc).trans ?_
  rw[aH (by omega),w1]
  refine(bB ih).trans ?_
  simp only[List.map_cons,List.flatten_cons,List.append_assoc]
theorem Cd(hd:∀y∈dl,WD y)(hdl:dl.length<=100)(h:∀y∈sl,WS y)(hl:sl.length<=100):∀(r p:List D) (a:List UInt8),p++r=sl->(a++(r.map FK).flatten++(dl.map Dt).flatten).length<=900000->
  RY (Task.at_ 13 0 [false,true,false,true,true,true] (sv 64 [(1,V.p 0 0),(3,V.d (D.s a)),(5,V.d (D.i IntKind.i64 (p.length:Int)))]) [] [LI ib il sb sl db dl])=some (.d (.s (a++(r.map FK).flatten++(dl.map Dt).flatten)),[])
 | [],p,a,e,ha=>by
  rw[List.append_nil]at e
  subst e
  simp only[List.map_nil,List.flatten_nil,List.append_nil]at ha⊢
  rw[RY,zT,bc (by omega)]
  exact bB (y2 ib il sb p db dl hd hdl dl [] a rfl ha)
 |x::r,p,a,e,ha=>by
  have hlen:sl.length=p.length+(r.length+1):=by rw[<-e];simp
  have w1:IntKind.i64.wrap ((p.length:Int)+1)=((p.length+1:Nat):Int):=by rw[wrap_i64]<;>omega
  have hx:x∈sl:=by rw[<-e];simp
  have g:sl[p.length]?=some x:=by rw[<-e];simp
  obtain⟨s1,s2,rfl,h1,h2⟩:=h x hx
  simp only[List.map_cons,List.flatten_cons,List.length_append,FK]at ha
  have ih:=Cd hd hdl h hl r (p++[KL s1 s2]) (a++FK (KL s1 s2)) (by rw[<-e];simp) (by simp only[List.length_append,FK];omega)
  rw[show (p++[KL s1 s2]).length=p.length+1 by simp]at ih
  rw[RY,zT,bf (by omega),aH (by omega),Im (w:=2) (j:=0) (s:=s1) g rfl rfl,aH (by simp;omega),aH (by simp;omega),Im (w:=2) (j:=1) (s:=s2) g rfl rfl,aH (by simp;omega),aH (by simp;omega),w1]
  rw[show a++[110,97,109,101,115,112,97,99,101,32]++s1++[32]++s2++[10]=a++FK (KL s1 s2) by simp[FK,List.append_assoc]]
  refine(bB ih).trans ?_
  simp only[List.map_cons,List.flatten_cons,List.append_assoc]
theorem Cc(hd:∀y∈dl,WD y)(hdl:dl.length<=100)(hs:∀y∈sl,WS y)(hsl:sl.length<=100)(h:∀y∈il,WI y)(hl:il.length<=100):∀(r p:List D) (a:List UInt8),p++r=il->(a++(r.map HP).flatten++(sl.map FK).flatten++(dl.map Dt).flatten).length<=900000->
  RY (Task.at_ 13 0 [false,true,false,true,true] (sv 64 [(1,V.p 0 0),(3,V.d (D.s a)),(4,V.d (D.i IntKind.i64 (p.length:Int)))]) [] [LI ib il sb sl db dl])=some (.d (.s (a++(r.map HP).flatten++(sl.map FK).flatten++(dl.map Dt).flatten)),[])
 | [],p,a,e,ha=>by
  rw[List.append_nil]at e
  subst e
  simp only[List.map_nil,List.flatten_nil,List.append_nil]at ha⊢
  rw[RY,zS,bc (by omega)]
  exact bB (Cd ib p sb sl db dl hd hdl hs hsl sl [] a rfl ha)
 |x::r,p,a,e,ha=>by
  have hlen:il.length=p.length+(r.length+1):=by rw[<-e];simp
  have w1:IntKind.i64.wrap ((p.length:Int)+1)=((p.length+1:Nat):Int):=by rw[wrap_i64]<;>omega
  have hx:x∈il:=by rw[<-e];simp
  have g:il[p.length]?=some x:=by rw[<-e];simp
  obtain⟨s1,rfl,h1,h2⟩:=h x hx
  simp only[List.map_cons,List.flatten_cons,List.length_append,HP]at ha
  have ih:=Cc hd hdl hs hsl h hl r (p++[D.s s1]) (a++HP (D.s s1)) (by rw[<-e];simp) (by simp only[List.length_append,HP];omega)
  rw[show (p++[D.s s1]).length=p.length+1 by simp]at ih
  rw[RY,zS,bf (by omega),aH (by omega),Im (w:=1) (j:=0) (s:=s1) g rfl rfl,aH (by simp;omega),aH (by simp;omega),w1]
  rw[show a++[105,110,99,108,117,100,101,32,34]++s1++[34,10]=a++HP (D.s s1) by simp[HP,List.append_assoc]]
  refine(bB ih).trans ?_
  simp only[List.map_cons,List.flatten_cons,List.append_assoc]
end
theorem HW:GL 13 Ma Dv:=by
 intro x hx hl
 obtain⟨ib,il,sb,sl,db,dl,rfl,h1,h2,h3,h4,h5,h6⟩:=hx
 simp only[Dv]at hl⊢
 rw[RY,MB]
 have:=Cc ib il sb sl db dl h6 h3 h5 h2 h4 h1 il [] [] rfl (by simpa using hl)
 exact bB this
end Go.Dn.Dec
namespace Go.Dn.Dec
open Go.Proofs
theorem f58(b:Bool)(xs:List D):rk Tryz.prog aE (.call 152 [vl b xs] [])=aC (rk Tryz.prog aE) (.call (.at_ 152 0 [false,false,true,true] (sv 23 [(0,vl b xs),(3,vi (xs.length:Int))]) [] []) .ret):=
 aF (by kernel_rfl)
theorem LF(n:Nat)(cs:List V):rk Tryz.prog aE (.call 152 [.m 0 0 n] [.cells cs []])=aC (rk Tryz.prog aE) (.call (.at_ 152 1 [false,false,true,true] (sv 23 [(0,.m 0 0 n),(3,vi (n:Int))]) [] [.cells cs []]) .ret):=
 aF (by kernel_rfl)
theorem f30(n:Int):rk Tryz.prog aE (.call 101 [vu n] [])=aC (rk Tryz.prog aE) (cV (.call 152 [vl true [.i .u32 (IntKind.u32.wrap n),.i .u32 (IntKind.u32.wrap (n.fdiv 4294967296))]] []) fun a=>aW a fun b=>dZ b fun c e => .ret (vl c e,[])):=
 aF (by kernel_rfl)
theorem f31(n:Int):rk Tryz.prog aE (.call 106 [vi n] [])=aC (rk Tryz.prog aE) (aT (decide (n<0)) (.ret (vl true [],[])) (.call (.at_ 106 0 [false,true,false,true,true,true] (sv 17 [(0,vi n),(3,vl true [.i .u32 1]),(4,vi 0)]) [] []) .ret)):=
 aF (by kernel_rfl)
theorem f29(b:Bool)(xs:List D)(c:Bool)(ys:List D):rk Tryz.prog aE (.call 105 [vl b xs,vl c ys] [])=aC (rk Tryz.prog aE) (aM (decide (0<=IntKind.i64.wrap (IntKind.i64.wrap ((xs.length:Int)+(ys.length:Int))+1))) (aM (decide (IntKind.i64.wrap (IntKind.i64.wrap ((xs.length:Int)+(ys.length:Int))+1)=IntKind.i64.wrap (IntKind.i64.wrap ((xs.length:Int)+(ys.length:Int))+1))) (aM (decide (IntKind.i64.wrap (IntKind.i64.wrap ((xs.length:Int)+(ys.length:Int))+1)<=4294967296)) (.call (.at_ 105 0 [false,true,false,true,true] (sv 68 [(0,vl b xs),(1,vl c ys),(5,.m 0 0 (IntKind.i64.wrap (IntKind.i64.wrap ((xs.length:Int)+(ys.length:Int))+1)).toNat),(6,vi 0)]) [] [.cells (List.replicate (IntKind.i64.wrap (IntKind.i64.wrap ((xs.length:Int)+(ys.length:Int))+1)).toNat (.d (.i .u32 0))) []]) .ret)))):=
 aF (by kernel_rfl)
theorem f57(b:Bool)(xs:List D)(n:Int):rk Tryz.prog aE (.call 155 [vl b xs,vi n] [])=aC (rk Tryz.prog aE) (aT (decide (n<(xs.length:Int))) (ob (bh xs n) fun a=>aM (a.width==1) (ob xs[n.toNat]? fun c=>ob c.cells[0]? fun e=>bD .u32 e fun f => .ret (vu (IntKind.u64.wrap f),[]))) (.ret (vu 0,[]))):=
 aF (by kernel_rfl)
theorem f28(b:Bool)(xs:List D)(c:Bool)(ys:List D):rk Tryz.prog aE (.call 109 [vl b xs,vl c ys] [])=aC (rk Tryz.prog aE) (.call (.at_ 109 0 [false,true,false,true,true,true] (sv 42 [(0,vl b xs),(1,vl c ys),(5,vl true []),(6,vu 0),(7,vi 0)]) [(5,1)] []) .ret):=
 aF (by kernel_rfl)
theorem f44(b:Bool)(xs:List D)(c:Bool)(ys:List D):rk Tryz.prog aE (.call 108 [vl b xs,vl c ys] [])=aC (rk Tryz.prog aE) (.call (.at_ 108 0 [false,true,false,true] (sv 30 [(0,vl b xs),(1,vl c ys),(5,vi (IntKind.i64.wrap ((if (ys.length:Int)>(xs.length:Int) then(ys.length:Int) else(xs.length:Int))-1)))]) [] []) .ret):=
 aF (by kernel_rfl)
theorem f69(b:Bool)(xs:List D)(c:Bool)(ys:List D):rk Tryz.prog aE (.call 154 [vl b xs,vl c ys] [])=aC (rk Tryz.prog aE) (cV (.call 108 [vl b xs,vl c ys] []) fun a=>aW a fun e=>bD .i64 e fun f=>aT (decide (f<0)) (.ret (.t [vl true [],vb false],[])) (.call (.at_ 154 0 [false,true,false,true,true,true,true] (sv 40 [(0,vl b xs),(1,vl c ys),(6,vl true []),(7,vu 0),(8,vi 0)]) [(6,1)] []) .ret)):=
 aF (by kernel_rfl)
theorem f59(b:Bool)(xs:List D)(n:Int):rk Tryz.prog aE (.call 153 [vl b xs,vi n] [])=aC (rk Tryz.prog aE) (cV (.call 155 [vl b xs,vi (IntKind.i64.wrap (n.tdiv 32))] []) fun a=>aW a fun c=>bD .u64 c fun e=>aM (decide (0<=n.tmod 32)) (.ret (vu (IntKind.u64.wrap ((BitVec.ofInt IntKind.u64.bits (e.fdiv (2^min (n.tmod 32).toNat 64)) &&& BitVec.ofInt IntKind.u64.bits 1).toNat:Int)),[]))):=
 aF (by kernel_rfl)
theorem f41(b:Bool)(xs:List D):rk Tryz.prog aE (.call 103 [vl b xs] [])=aC (rk Tryz.prog aE) (cV (.call 152 [vl b xs] []) fun a=>aW a fun c=>dZ c fun e f => .call (.at_ 103 0 [false,false,true,true,true] (sv 22 [(3,vl e f),(4,vi (IntKind.i64.wrap (32*(f.length:Int))))]) [] []) .ret):=
 aF (by kernel_rfl)
theorem f40(b:Bool)(xs:List D)(n:Int):rk Tryz.prog aE (.call 102 [vl b xs,vi n] [])=aC (rk Tryz.prog aE) (aM (decide (0<=IntKind.i64.wrap (IntKind.i64.wrap ((xs.length:Int)+IntKind.i64.wrap ((if 0>n then 0 else n).tdiv 32))+1))) (aM (decide (IntKind.i64.wrap (IntKind.i64.wrap ((xs.length:Int)+IntKind.i64.wrap ((if 0>n then 0 else n).tdiv 32))+1)=IntKind.i64.wrap (IntKind.i64.wrap ((xs.length:Int)+IntKind.i64.wrap ((if 0>n then 0 else n).tdiv 32))+1))) (aM (decide (IntKind.i64.wrap (IntKind.i64.wrap ((xs.length:Int)+IntKind.i64.wrap ((if 0>n then 0 else n).tdiv 32))+1)<=4294967296)) (.call (.at_ 102 0 [false,true,false,true,true] (sv 53 [(0,vl b xs),(1,vi n),(5,.m 0 0 (IntKind.i64.wrap (IntKind.i64.wrap ((xs.length:Int)+IntKind.i64.wrap ((if 0>n then 0 else n).tdiv 32))+1)).toNat),(6,vi 0)]) [] [.cells (List.replicate (IntKind.i64.wrap (IntKind.i64.wrap ((xs.length:Int)+IntKind.i64.wrap ((if 0>n then 0 else n).tdiv 32))+1)).toNat (.d (.i .u32 0))) []]) .ret)))):=
 aF (by kernel_rfl)
theorem f43(b:Bool)(xs:List D)(c:Bool)(ys:List D):rk Tryz.prog aE (.call 107 [vl b xs,vl c ys] [])=aC (rk Tryz.prog aE) (cV (.call 152 [vl c ys] []) fun a=>aW a fun e=>dZ e fun f g=>aT ((g.length:Int)==0) (.ret (.t [vl true [],vl true [],vb false],[])) (aM (decide (0<=IntKind.i64.wrap ((xs.length:Int)+1))) (aM (decide (IntKind.i64.wrap ((xs.length:Int)+1)=IntKind.i64.wrap ((xs.length:Int)+1))) (aM (decide (IntKind.i64.wrap ((xs.length:Int)+1)<=4294967296)) (.call (.at_ 107 0 [false,true,false,true,true,true,true] (sv 60 [(0,vl b xs),(1,vl c ys),(7,.m 0 0 (IntKind.i64.wrap ((xs.length:Int)+1)).toNat),(8,vl true []),(9,vi (IntKind.i64.wrap (IntKind.i64.wrap (32*(xs.length:Int))-1)))]) [(8,1)] [.cells (List.replicate (IntKind.i64.wrap ((xs.length:Int)+1)).toNat (.d (.i .u32 0))) []]) .ret))))):=
 aF (by kernel_rfl)
theorem f45(b:Bool)(xs:List D):rk Tryz.prog aE (.call 110 [vl b xs] [])=aC (rk Tryz.prog aE) (cV (.call 155 [vl b xs,vi 0] []) fun a=>aW a fun c=>bD .u64 c fun e=>cV (.call 155 [vl b xs,vi 1] []) fun f=>aW f fun g=>bD .u64 g fun h => .ret (vu (IntKind.u64.wrap ((BitVec.ofInt IntKind.u64.bits e ||| BitVec.ofInt IntKind.u64.bits (IntKind.u64.wrap (h*4294967296))).toNat:Int)),[])):=
 aF (by kernel_rfl)
theorem f42(b:Bool)(xs:List D)(c:Bool)(ys:List D)(n:Int):rk Tryz.prog aE (.call 104 [vl b xs,vl c ys,vi n] [])=aC (rk Tryz.prog aE) (aT (decide (n ≥ 0)) (cV (.call 106 [vi n] []) fun a=>aW a fun e=>dZ e fun f g=>cV (.call 105 [vl c ys,vl f g] []) fun h=>aW h fun j=>dZ j fun k m=>cV (.call 108 [vl b xs,vl k m] []) fun o=>aW o fun p=>bD .i64 p fun q => .ret (vb (decide (q ≥ 0)),[])) (cV (.call 106 [vi (IntKind.i64.wrap (0-n))] []) fun r=>aW r fun s=>dZ s fun t zu=>cV (.call 105 [vl b xs,vl t zu] []) fun v=>aW v fun w=>dZ w fun x y=>cV (.call 108 [vl x y,vl c ys] []) fun z=>aW z fun a0=>bD .i64 a0 fun a1 => .ret (vb (decide (a1 ≥ 0)),[]))):=
 aF (by kernel_rfl)
theorem f16(q:Int):rk Tryz.prog aE (.call 48 [vu q] [])=aC (rk Tryz.prog aE) (aT (q.fdiv 9223372036854775808==1) (.call (.at_ 48 0 [true,true,true] (sv 147 [(0,vu q),(3,vs [45])]) [] []) .ret) (.call (.at_ 48 0 [true,true,true] (sv 147 [(0,vu q),(3,vs [])]) [] []) .ret)):=
 aF (by kernel_rfl)
theorem x9(b_0:Bool)(l_1:List D)(n_2:Int):rk Tryz.prog aE (.at_ 152 0 [false,false,true,true] (sv 23 [(0,vl b_0 l_1),(3,vi n_2)]) [] [])=aC (rk Tryz.prog aE) (aT (decide (n_2>0)) (ob (bh l_1 (IntKind.i64.wrap (n_2-1))) fun a=>aM (a.width==1) (ob l_1[(IntKind.i64.wrap (n_2-1)).toNat]? fun c=>ob c.cells[0]? fun e=>bD .u32 e fun f => .call (.at_ 152 0 [true,false,false,false,false,true,true] (sv 23 [(0,vl b_0 l_1),(3,vi n_2),(15,vb (f==0))]) [] []) .ret)) (.call (.at_ 152 0 [true,false,false,false,false,true,true] (sv 23 [(0,vl b_0 l_1),(3,vi n_2),(15,vb false)]) [] []) .ret)):=
 aF (by kernel_rfl)
theorem r9(m_0:Nat)(n_1:Int)(l_2:List V):rk Tryz.prog aE (.at_ 152 1 [false,false,true,true] (sv 23 [(0,.m 0 0 m_0),(3,vi n_1)]) [] [.cells l_2 []])=aC (rk Tryz.prog aE) (aT (decide (n_1>0)) (aM (decide (0<=IntKind.i64.wrap (n_1-1)/\IntKind.i64.wrap (n_1-1)<(m_0:Int))) (ob l_2[0+(IntKind.i64.wrap (n_1-1)).toNat]? fun a=>aW a fun c=>bD .u32 c fun e => .call (.at_ 152 1 [true,false,false,false,false,true,true] (sv 23 [(0,.m 0 0 m_0),(3,vi n_1),(15,vb (e==0))]) [] [.cells l_2 []]) .ret)) (.call (.at_ 152 1 [true,false,false,false,false,true,true] (sv 23 [(0,.m 0 0 m_0),(3,vi n_1),(15,vb false)]) [] [.cells l_2 []]) .ret)):=
 aF (by kernel_rfl)
theorem xY(n_0:Int)(b_1:Bool)(l_2:List D)(n_3:Int):rk Tryz.prog aE (.at_ 106 0 [false,true,false,true,true,true] (sv 17 [(0,vi n_0),(3,vl b_1 l_2),(4,vi n_3)]) [] [])=aC (rk Tryz.prog aE) (aT (decide (n_3<n_0)) (cV (.call 105 [vl b_1 l_2,vl true [.i .u32 10]] []) fun a=>aW a fun b=>dZ b fun c e => .call (.at_ 106 0 [false,true,false,true,true,true] (sv 17 [(0,vi n_0),(3,vl c e),(4,vi (IntKind.i64.wrap (n_3+1)))]) [] []) .ret) (.ret (vl b_1 l_2,[]))):=
 aF (by kernel_rfl)
theorem xX(b_0:Bool)(l_1:List D)(b_2:Bool)(l_3:List D)(m_4:Nat)(n_5:Int)(l_6:List V):rk Tryz.prog aE (.at_ 105 0 [false,true,false,true,true] (sv 68 [(0,vl b_0 l_1),(1,vl b_2 l_3),(5,.m 0 0 m_4),(6,vi n_5)]) [] [.cells l_6 []])=aC (rk Tryz.prog aE) (aT (decide (n_5<(l_1.length:Int))) (.call (.at_ 105 0 [false,true,false,true,false,false,true,false,false,true,false,true,true] (sv 68 [(0,vl b_0 l_1),(1,vl b_2 l_3),(5,.m 0 0 m_4),(6,vi n_5),(7,vu 0),(8,vi 0)]) [] [.cells l_6 []]) .ret) (c1 (.call 152 [.m 0 0 m_4] [.cells l_6 []]) l_6.length [] fun o_0 l_3=>aW o_0 fun d_5=>dZ d_5 fun b_6 l_7 => .ret (vl b_6 l_7,[]))):=
 aF (by kernel_rfl)
theorem xW(b_0:Bool)(l_1:List D)(b_2:Bool)(l_3:List D)(b_4:Bool)(l_5:List D)(n_6 n_7:Int):rk Tryz.prog aE (.at_ 109 0 [false,true,false,true,true,true] (sv 42 [(0,vl b_0 l_1),(1,vl b_2 l_3),(5,vl b_4 l_5),(6,vu n_6),(7,vi n_7)]) [(5,1)] [])=aC (rk Tryz.prog aE) (aT (decide (n_7<(l_1.length:Int))) (.call (.at_ 109 0 [true,false,false,false,true,false,true,true,true] (sv 42 [(0,vl b_0 l_1),(1,vl b_2 l_3),(5,vl b_4 l_5),(6,vu n_6),(7,vi n_7),(21,vb true)]) [(5,1)] []) .ret) (aT (decide (n_7<(l_3.length:Int))) (.call (.at_ 109 0 [true,false,false,false,true,false,true,true,true] (sv 42 [(0,vl b_0 l_1),(1,vl b_2 l_3),(5,vl b_4 l_5),(6,vu n_6),(7,vi n_7),(21,vb true)]) [(5,1)] []) .ret) (.call (.at_ 109 0 [true,false,false,false,true,false,true,true,true] (sv 42 [(0,vl b_0 l_1),(1,vl b_2 l_3),(5,vl b_4 l_5),(6,vu n_6),(7,vi n_7),(21,vb (decide (n_6>0)))]) [(5,1)] []) .ret))):=
 aF (by kernel_rfl)
theorem x2(b_0:Bool)(l_1:List D)(b_2:Bool)(l_3:List D)(n_4:Int):rk Tryz.prog aE (.at_ 108 0 [false,true,false,true] (sv 30 [(0,vl b_0 l_1),(1,vl b_2 l_3),(5,vi n_4)]) [] [])=aC (rk Tryz.prog aE) (aT (decide (n_4 ≥ 0)) (cV (.call 155 [vl b_0 l_1,vi n_4] []) fun a=>aW a fun b=>bD .u64 b fun c=>cV (.call 155 [vl b_2 l_3,vi n_4] []) fun e=>aW e fun f=>bD .u64 f fun g=>aT (decide (c<g)) (.ret (vi (-1),[])) (cV (.call 155 [vl b_0 l_1,vi n_4] []) fun h=>aW h fun j=>bD .u64 j fun k=>cV (.call 155 [vl b_2 l_3,vi n_4] []) fun m=>aW m fun n=>bD .u64 n fun o=>aT (decide (k>o)) (.ret (vi 1,[])) (.call (.at_ 108 0 [false,true,false,true] (sv 30 [(0,vl b_0 l_1),(1,vl b_2 l_3),(5,vi (IntKind.i64.wrap (n_4-1)))]) [] []) .ret))) (.ret (vi 0,[]))):=
 aF (by kernel_rfl)
theorem ux(b_0:Bool)(l_1:List D)(b_2:Bool)(l_3:List D)(b_4:Bool)(l_5:List D)(n_6 n_7:Int):rk Tryz.prog aE (.at_ 154 0 [false,true,false,true,true,true,true] (sv 40 [(0,vl b_0 l_1),(1,vl b_2 l_3),(6,vl b_4 l_5),(7,vu n_6),(8,vi n_7)]) [(6,1)] [])=aC (rk Tryz.prog aE) (aT (decide (n_7<(l_1.length:Int))) (cV (.call 155 [vl b_0 l_1,vi n_7] []) fun a=>aW a fun c=>bD .u64 c fun e=>cV (.call 155 [vl b_2 l_3,vi n_7] []) fun f=>aW f fun g=>bD .u64 g fun h=>aM (bw 1 l_5) (aM (b_4||true) (aM (decide (l_5.length+1<=4294967296)) (.call (.at_ 154 0 [false,true,false,true,true,true,true] (sv 40 [(0,vl b_0 l_1),(1,vl b_2 l_3),(6,vl (b_4&&false) (l_5++[.i .u32 (IntKind.u32.wrap (IntKind.u64.wrap (IntKind.u64.wrap (IntKind.u64.wrap (e+4294967296)-h)-n_6)))])),(7,vu (IntKind.u64.wrap (1-(IntKind.u64.wrap (IntKind.u64.wrap (IntKind.u64.wrap (e+4294967296)-h)-n_6)).fdiv 4294967296))),(8,vi (IntKind.i64.wrap (n_7+1)))]) [(6,1)] []) .ret)))) (cV (.call 152 [vl b_4 l_5] []) fun j=>aW j fun k=>dZ k fun m n => .ret (.t [vl m n,vb true],[]))):=
 aF (by kernel_rfl)
theorem x1(b_0:Bool)(l_1:List D)(n_2:Int):rk Tryz.prog aE (.at_ 103 0 [false,false,true,true,true] (sv 22 [(3,vl b_0 l_1),(4,vi n_2)]) [] [])=aC (rk Tryz.prog aE) (aT (decide (n_2>0)) (cV (.call 153 [vl b_0 l_1,vi (IntKind.i64.wrap (n_2-1))] []) fun a=>aW a fun c=>bD .u64 c fun e => .call (.at_ 103 0 [true,false,false,false,false,true,true,true] (sv 22 [(3,vl b_0 l_1),(4,vi n_2),(18,vb (e==0))]) [] []) .ret) (.call (.at_ 103 0 [true,false,false,false,false,true,true,true] (sv 22 [(3,vl b_0 l_1),(4,vi n_2),(18,vb false)]) [] []) .ret)):=
 aF (by kernel_rfl)
theorem xZ(b_0:Bool)(l_1:List D)(n_2:Int)(m_3:Nat)(n_4:Int)(l_5:List V):rk Tryz.prog aE (.at_ 102 0 [false,true,false,true,true] (sv 53 [(0,vl b_0 l_1),(1,vi n_2),(5,.m 0 0 m_3),(6,vi n_4)]) [] [.cells l_5 []])=aC (rk Tryz.prog aE) (aT (decide (n_4<IntKind.i64.wrap (32*(l_1.length:Int)))) (cV (.call 153 [vl b_0 l_1,vi n_4] []) fun a=>aW a fun c=>bD .u64 c fun e=>aT (e==1) (.call (.at_ 102 0 [true,false,false,true,false,false,true,false,true,true] (sv 53 [(0,vl b_0 l_1),(1,vi n_2),(5,.m 0 0 m_3),(6,vi n_4),(31,vb (decide (IntKind.i64.wrap (n_4+n_2) ≥ 0)))]) [] [.cells l_5 []]) .ret) (.call (.at_ 102 0 [true,false,false,true,false,false,true,false,true,true] (sv 53 [(0,vl b_0 l_1),(1,vi n_2),(5,.m 0 0 m_3),(6,vi n_4),(31,vb false)]) [] [.cells l_5 []]) .ret)) (c1 (.call 152 [.m 0 0 m_3] [.cells l_5 []]) l_5.length [] fun f g=>aW f fun h=>dZ h fun j k => .ret (vl j k,[]))):=
 aF (by kernel_rfl)
theorem pE(b_0:Bool)(l_1:List D)(b_2:Bool)(l_3:List D)(m_4:Nat)(b_5:Bool)(l_6:List D)(n_7:Int)(l_8:List V):rk Tryz.prog aE (.at_ 107 0 [false,true,false,true,true,true,true] (sv 60 [(0,vl b_0 l_1),(1,vl b_2 l_3),(7,.m 0 0 m_4),(8,vl b_5 l_6),(9,vi n_7)]) [(8,1)] [.cells l_8 []])=aC (rk Tryz.prog aE) (aT (decide (n_7 ≥ 0)) (cV (.call 109 [vl b_5 l_6,vl b_5 l_6] []) fun a=>aW a fun c=>dZ c fun e f=>cV (.call 153 [vl b_0 l_1,vi n_7] []) fun g=>aW g fun h=>bD .u64 h fun j=>cV (.call 101 [vu j] []) fun k=>aW k fun n=>dZ n fun o p=>cV (.call 109 [vl e f,vl o p] []) fun q=>aW q fun r=>dZ r fun s zu=>cV (.call 154 [vl s zu,vl b_2 l_3] []) fun v=>dY v fun w=>aM (w.length==2) (aW (w.getD 0 (vb false)) fun x=>dZ x fun y z=>aW (w.getD 1 (vb false)) fun a0=>dQ a0 fun a1=>aT a1 (aM (decide (0<=IntKind.i64.wrap (n_7.tdiv 32)/\IntKind.i64.wrap (n_7.tdiv 32)<(m_4:Int))) (ob l_8[0+(IntKind.i64.wrap (n_7.tdiv 32)).toNat]? fun a2=>aW a2 fun a3=>bD .u32 a3 fun a4=>aM (decide (0<=n_7.tmod 32)) (aM (decide (0<=IntKind.i64.wrap (n_7.tdiv 32)/\IntKind.i64.wrap (n_7.tdiv 32)<(m_4:Int))) (aM (decide (0+(IntKind.i64.wrap (n_7.tdiv 32)).toNat<l_8.length)&&true) (.call (.at_ 107 0 [true,true,false,false,true,false,true,true,true,true] (sv 60 [(0,vl b_0 l_1),(1,vl b_2 l_3),(7,.m 0 0 m_4),(8,vl y z),(9,vi n_7)]) [] [.cells (l_8.set (0+(IntKind.i64.wrap (n_7.tdiv 32)).toNat) (.d (.i .u32 (IntKind.u32.wrap ((BitVec.ofInt IntKind.u32.bits a4 ||| BitVec.ofInt IntKind.u32.bits (IntKind.u32.wrap (1*2^min (n_7.tmod 32).toNat 32))).toNat:Int))))) []]) .ret))))) (.call (.at_ 107 0 [true,true,false,false,true,false,true,true,true,true] (sv 60 [(0,vl b_0 l_1),(1,vl b_2 l_3),(7,.m 0 0 m_4),(8,vl s zu),(9,vi n_7)]) [] [.cells l_8 []]) .ret))) (c1 (.call 152 [.m 0 0 m_4] [.cells l_8 []]) l_8.length [] fun a5 a6=>aW a5 fun a7=>dZ a7 fun a8 a9 => .ret (.t [vl a8 a9,vl b_5 l_6,vb true],[]))):=
 aF (by kernel_rfl)
theorem EM(n_0:Int)(l_1:List UInt8):rk Tryz.prog aE (.at_ 48 0 [true,true,true] (sv 147 [(0,vu n_0),(3,vs l_1)]) [] [])=aC (rk Tryz.prog aE) (aT (IntKind.i64.wrap (IntKind.u64.wrap ((BitVec.ofInt IntKind.u64.bits (n_0.fdiv 4503599627370496) &&& BitVec.ofInt IntKind.u64.bits 2047).toNat:Int))==2047) (.ret (vs [],[])) (aT (IntKind.i64.wrap (IntKind.u64.wrap ((BitVec.ofInt IntKind.u64.bits (n_0.fdiv 4503599627370496) &&& BitVec.ofInt IntKind.u64.bits 2047).toNat:Int))==0) (.call (.at_ 48 0 [true,false,true,true,true,true,true,true] (sv 147 [(3,vs l_1),(4,vi (IntKind.i64.wrap (IntKind.u64.wrap ((BitVec.ofInt IntKind.u64.bits (n_0.fdiv 4503599627370496) &&& BitVec.ofInt IntKind.u64.bits 2047).toNat:Int)))),(5,vu (IntKind.u64.wrap ((BitVec.ofInt IntKind.u64.bits n_0 &&& BitVec.ofInt IntKind.u64.bits 4503599627370495).toNat:Int))),(33,vb (IntKind.u64.wrap ((BitVec.ofInt IntKind.u64.bits n_0 &&& BitVec.ofInt IntKind.u64.bits 4503599627370495).toNat:Int)==0))]) [] []) .ret) (.call (.at_ 48 0 [true,false,true,true,true,true,true,true] (sv 147 [(3,vs l_1),(4,vi (IntKind.i64.wrap (IntKind.u64.wrap ((BitVec.ofInt IntKind.u64.bits (n_0.fdiv 4503599627370496) &&& BitVec.ofInt IntKind.u64.bits 2047).toNat:Int)))),(5,vu (IntKind.u64.wrap ((BitVec.ofInt IntKind.u64.bits n_0 &&& BitVec.ofInt IntKind.u64.bits 4503599627370495).toNat:Int))),(33,vb false)]) [] []) .ret))):=
 aF (by kernel_rfl)
theorem uw(b_0:Bool)(l_1:List D)(n_2:Int)(b_3:Bool):rk Tryz.prog aE (.at_ 152 0 [true,false,false,false,false,true,true] (sv 23 [(0,vl b_0 l_1),(3,vi n_2),(15,vb b_3)]) [] [])=aC (rk Tryz.prog aE) (aT b_3 (.call (.at_ 152 0 [false,false,true,true] (sv 23 [(0,vl b_0 l_1),(3,vi (IntKind.i64.wrap (n_2-1)))]) [] []) .ret) (aM (decide (0<=n_2/\n_2<=(l_1.length:Int))) (aM (bw 1 l_1) (aM (bw 1 (List.take (n_2.toNat-0) (List.drop 0 l_1))) (aM (decide (0+(List.take (n_2.toNat-0) (List.drop 0 l_1)).length<=4294967296)) (.ret (vl (List.take (n_2.toNat-0) (List.drop 0 l_1)).isEmpty ([]++List.take (n_2.toNat-0) (List.drop 0 l_1)),[]))))))):=
 aF (by kernel_rfl)
theorem ql(m_0:Nat)(n_1:Int)(b_2:Bool)(l_3:List V):rk Tryz.prog aE (.at_ 152 1 [true,false,false,false,false,true,true] (sv 23 [(0,.m 0 0 m_0),(3,vi n_1),(15,vb b_2)]) [] [.cells l_3 []])=aC (rk Tryz.prog aE) (aT b_2 (.call (.at_ 152 1 [false,false,true,true] (sv 23 [(0,.m 0 0 m_0),(3,vi (IntKind.i64.wrap (n_1-1)))]) [] [.cells l_3 []]) .ret) (aM (decide (0<=n_1/\n_1<=(m_0:Int))) (ob (dw [.cells l_3 []] 1 (.m 0 0 (n_1.toNat-0))) fun a=>aM (bw 1 a) (aM (decide (0+a.length<=4294967296)) (.ret (vl a.isEmpty ([]++a),[.cells l_3 []])))))):=
 aF (by kernel_rfl)
theorem qk(b_0:Bool)(l_1:List D)(b_2:Bool)(l_3:List D)(m_4:Nat)(n_5 n_6 n_7:Int)(l_8:List V):rk Tryz.prog aE (.at_ 105 0 [false,true,false,true,false,false,true,false,false,true,false,true,true] (sv 68 [(0,vl b_0 l_1),(1,vl b_2 l_3),(5,.m 0 0 m_4),(6,vi n_5),(7,vu n_6),(8,vi n_7)]) [] [.cells l_8 []])=aC (rk Tryz.prog aE) (aT (decide (n_7<(l_3.length:Int))) (aM (decide (0<=IntKind.i64.wrap (n_5+n_7)/\IntKind.i64.wrap (n_5+n_7)<(m_4:Int))) (ob l_8[0+(IntKind.i64.wrap (n_5+n_7)).toNat]? fun a=>aW a fun b=>bD .u32 b fun c=>ob (bh l_1 n_5) fun e=>aM (e.width==1) (ob l_1[n_5.toNat]? fun f=>ob f.cells[0]? fun g=>bD .u32 g fun h=>ob (bh l_3 n_7) fun j=>aM (j.width==1) (ob l_3[n_7.toNat]? fun k=>ob k.cells[0]? fun n=>bD .u32 n fun o=>aM (decide (0<=IntKind.i64.wrap (n_5+n_7)/\IntKind.i64.wrap (n_5+n_7)<(m_4:Int))) (aM (decide (0+(IntKind.i64.wrap (n_5+n_7)).toNat<l_8.length)&&true) (.call (.at_ 105 0 [false,true,false,true,false,false,true,false,false,true,false,true,true] (sv 68 [(0,vl b_0 l_1),(1,vl b_2 l_3),(5,.m 0 0 m_4),(6,vi n_5),(7,vu ((IntKind.u64.wrap (IntKind.u64.wrap (n_6+IntKind.u64.wrap c)+IntKind.u64.wrap (IntKind.u64.wrap h*IntKind.u64.wrap o))).fdiv 4294967296)),(8,vi (IntKind.i64.wrap (n_7+1)))]) [] [.cells (l_8.set (0+(IntKind.i64.wrap (n_5+n_7)).toNat) (.d (.i .u32 (IntKind.u32.wrap (IntKind.u64.wrap (IntKind.u64.wrap (n_6+IntKind.u64.wrap c)+IntKind.u64.wrap (IntKind.u64.wrap h*IntKind.u64.wrap o))))))) []]) .ret)))))) (aM (decide (0<=IntKind.i64.wrap (n_5+(l_3.length:Int))/\IntKind.i64.wrap (n_5+(l_3.length:Int))<(m_4:Int))) (aM (decide (0+(IntKind.i64.wrap (n_5+(l_3.length:Int))).toNat<l_8.length)&&true) (.call (.at_ 105 0 [false,true,false,true,true] (sv 68 [(0,vl b_0 l_1),(1,vl b_2 l_3),(5,.m 0 0 m_4),(6,vi (IntKind.i64.wrap (n_5+1)))]) [] [.cells (l_8.set (0+(IntKind.i64.wrap (n_5+(l_3.length:Int))).toNat) (.d (.i .u32 (IntKind.u32.wrap n_6)))) []]) .ret)))):=
 aF (by kernel_rfl)
theorem pD(b_0:Bool)(l_1:List D)(b_2:Bool)(l_3:List D)(b_4:Bool)(l_5:List D)(n_6 n_7:Int)(b_8:Bool):rk Tryz.prog aE (.at_ 109 0 [true,false,false,false,true,false,true,true,true] (sv 42 [(0,vl b_0 l_1),(1,vl b_2 l_3),(5,vl b_4 l_5),(6,vu n_6),(7,vi n_7),(21,vb b_8)]) [(5,1)] [])=aC (rk Tryz.prog aE) (aT b_8 (cV (.call 155 [vl b_0 l_1,vi n_7] []) fun o_0=>aW o_0 fun d_1=>bD .u64 d_1 fun n_2=>cV (.call 155 [vl b_2 l_3,vi n_7] []) fun o_3=>aW o_3 fun d_4=>bD .u64 d_4 fun n_5=>aM (bw 1 l_5) (aM (b_4||true) (aM (decide (l_5.length+1<=4294967296)) (.call (.at_ 109 0 [false,true,false,true,true,true] (sv 42 [(0,vl b_0 l_1),(1,vl b_2 l_3),(5,vl (b_4&&false) (l_5++[.i .u32 (IntKind.u32.wrap (IntKind.u64.wrap (IntKind.u64.wrap (n_6+n_2)+n_5)))])),(6,vu ((IntKind.u64.wrap (IntKind.u64.wrap (n_6+n_2)+n_5)).fdiv 4294967296)),(7,vi (IntKind.i64.wrap (n_7+1)))]) [(5,1)] []) .ret)))) (cV (.call 152 [vl b_4 l_5] []) fun o_6=>aW o_6 fun d_7=>dZ d_7 fun b_8 l_9 => .ret (vl b_8 l_9,[]))):=
 aF (by kernel_rfl)
theorem ur(b_0:Bool)(l_1:List D)(n_2:Int)(b_3:Bool):rk Tryz.prog aE (.at_ 103 0 [true,false,false,false,false,true,true,true] (sv 22 [(3,vl b_0 l_1),(4,vi n_2),(18,vb b_3)]) [] [])=aC (rk Tryz.prog aE) (aT b_3 (.call (.at_ 103 0 [false,false,true,true,true] (sv 22 [(3,vl b_0 l_1),(4,vi (IntKind.i64.wrap (n_2-1)))]) [] []) .ret) (.ret (vi n_2,[]))):=
 aF (by kernel_rfl)
theorem r7(b_0:Bool)(l_1:List D)(n_2:Int)(m_3:Nat)(n_4:Int)(b_5:Bool)(l_6:List V):rk Tryz.prog aE (.at_ 102 0 [true,false,false,true,false,false,true,false,true,true] (sv 53 [(0,vl b_0 l_1),(1,vi n_2),(5,.m 0 0 m_3),(6,vi n_4),(31,vb b_5)]) [] [.cells l_6 []])=aC (rk Tryz.prog aE) (aT b_5 (aM (decide (0<=IntKind.i64.wrap ((IntKind.i64.wrap (n_4+n_2)).tdiv 32)/\IntKind.i64.wrap ((IntKind.i64.wrap (n_4+n_2)).tdiv 32)<(m_3:Int))) (ob l_6[0+(IntKind.i64.wrap ((IntKind.i64.wrap (n_4+n_2)).tdiv 32)).toNat]? fun a=>aW a fun c=>bD .u32 c fun e=>aM (decide (0<=(IntKind.i64.wrap (n_4+n_2)).tmod 32)) (aM (decide (0<=IntKind.i64.wrap ((IntKind.i64.wrap (n_4+n_2)).tdiv 32)/\IntKind.i64.wrap ((IntKind.i64.wrap (n_4+n_2)).tdiv 32)<(m_3:Int))) (aM (decide (0+(IntKind.i64.wrap ((IntKind.i64.wrap (n_4+n_2)).tdiv 32)).toNat<l_6.length)&&true) (.call (.at_ 102 0 [false,true,false,true,true] (sv 53 [(0,vl b_0 l_1),(1,vi n_2),(5,.m 0 0 m_3),(6,vi (IntKind.i64.wrap (n_4+1)))]) [] [.cells (l_6.set (0+(IntKind.i64.wrap ((IntKind.i64.wrap (n_4+n_2)).tdiv 32)).toNat) (.d (.i .u32 (IntKind.u32.wrap ((BitVec.ofInt IntKind.u32.bits e ||| BitVec.ofInt IntKind.u32.bits (IntKind.u32.wrap (1*2^min ((IntKind.i64.wrap (n_4+n_2)).tmod 32).toNat 32))).toNat:Int))))) []]) .ret))))) (.call (.at_ 102 0 [false,true,false,true,true] (sv 53 [(0,vl b_0 l_1),(1,vi n_2),(5,.m 0 0 m_3),(6,vi (IntKind.i64.wrap (n_4+1)))]) [] [.cells l_6 []]) .ret)):=
 aF (by kernel_rfl)
theorem kn(b_0:Bool)(l_1:List D)(b_2:Bool)(l_3:List D)(m_4:Nat)(b_5:Bool)(l_6:List D)(n_7:Int)(l_8:List V):rk Tryz.prog aE (.at_ 107 0 [true,true,false,false,true,false,true,true,true,true] (sv 60 [(0,vl b_0 l_1),(1,vl b_2 l_3),(7,.m 0 0 m_4),(8,vl b_5 l_6),(9,vi n_7)]) [] [.cells l_8 []])=aC (rk Tryz.prog aE) (.call (.at_ 107 0 [false,true,false,true,true,true,true] (sv 60 [(0,vl b_0 l_1),(1,vl b_2 l_3),(7,.m 0 0 m_4),(8,vl b_5 l_6),(9,vi (IntKind.i64.wrap (n_7-1)))]) [] [.cells l_8 []]) .ret):=
 aF (by kernel_rfl)
theorem uq(l_0:List UInt8)(n_1 n_2:Int)(b_3:Bool):rk Tryz.prog aE (.at_ 48 0 [true,false,true,true,true,true,true,true] (sv 147 [(3,vs l_0),(4,vi n_1),(5,vu n_2),(33,vb b_3)]) [] [])=aC (rk Tryz.prog aE) (aT b_3 (aM (decide (l_0.length+5<4611686018427387904)) (.ret (vs (l_0++[48,46,48,101,48]),[]))) (aT (n_1==0) (.call (.at_ 48 0 [true,true,true,true,true,true,true,true] (sv 147 [(3,vs l_0),(4,vi 1),(5,vu n_2)]) [] []) .ret) (.call (.at_ 48 0 [true,true,true,true,true,true,true,true] (sv 147 [(3,vs l_0),(4,vi n_1),(5,vu (IntKind.u64.wrap ((BitVec.ofInt IntKind.u64.bits n_2 ||| BitVec.ofInt IntKind.u64.bits 4503599627370496).toNat:Int)))]) [] []) .ret))):=
 aF (by kernel_rfl)
theorem lp(b_0:Bool)(l_1:List D)(b_2:Bool)(l_3:List D)(m_4:Nat)(b_5:Bool)(l_6:List D)(n_7:Int)(l_8:List V):rk Tryz.prog aE (.at_ 107 0 [false,true,false,true,true,true,true] (sv 60 [(0,vl b_0 l_1),(1,vl b_2 l_3),(7,.m 0 0 m_4),(8,vl b_5 l_6),(9,vi n_7)]) [] [.cells l_8 []])=aC (rk Tryz.prog aE) (aT (decide (n_7 ≥ 0)) (cV (.call 109 [vl b_5 l_6,vl b_5 l_6] []) fun a=>aW a fun c=>dZ c fun e f=>cV (.call 153 [vl b_0 l_1,vi n_7] []) fun g=>aW g fun h=>bD .u64 h fun j=>cV (.call 101 [vu j] []) fun k=>aW k fun n=>dZ n fun o p=>cV (.call 109 [vl e f,vl o p] []) fun q=>aW q fun r=>dZ r fun s zu=>cV (.call 154 [vl s zu,vl b_2 l_3] []) fun v=>dY v fun w=>aM (w.length==2) (aW (w.getD 0 (vb false)) fun x=>dZ x fun y z=>aW (w.getD 1 (vb false)) fun a0=>dQ a0 fun a1=>aT a1 (aM (decide (0<=IntKind.i64.wrap (n_7.tdiv 32)/\IntKind.i64.wrap (n_7.tdiv 32)<(m_4:Int))) (ob l_8[0+(IntKind.i64.wrap (n_7.tdiv 32)).toNat]? fun a2=>aW a2 fun a3=>bD .u32 a3 fun a4=>aM (decide (0<=n_7.tmod 32)) (aM (decide (0<=IntKind.i64.wrap (n_7.tdiv 32)/\IntKind.i64.wrap (n_7.tdiv 32)<(m_4:Int))) (aM (decide (0+(IntKind.i64.wrap (n_7.tdiv 32)).toNat<l_8.length)&&true) (.call (.at_ 107 0 [true,true,false,false,true,false,true,true,true,true] (sv 60 [(0,vl b_0 l_1),(1,vl b_2 l_3),(7,.m 0 0 m_4),(8,vl y z),(9,vi n_7)]) [] [.cells (l_8.set (0+(IntKind.i64.wrap (n_7.tdiv 32)).toNat) (.d (.i .u32 (IntKind.u32.wrap ((BitVec.ofInt IntKind.u32.bits a4 ||| BitVec.ofInt IntKind.u32.bits (IntKind.u32.wrap (1*2^min (n_7.tmod 32).toNat 32))).toNat:Int))))) []]) .ret))))) (.call (.at_ 107 0 [true,true,false,false,true,false,true,true,true,true] (sv 60 [(0,vl b_0 l_1),(1,vl b_2 l_3),(7,.m 0 0 m_4),(8,vl s zu),(9,vi n_7)]) [] [.cells l_8 []]) .ret))) (c1 (.call 152 [.m 0 0 m_4] [.cells l_8 []]) l_8.length [] fun a5 a6=>aW a5 fun a7=>dZ a7 fun a8 a9 => .ret (.t [vl a8 a9,vl b_5 l_6,vb true],[]))):=
 aF (by kernel_rfl)
theorem CT(l_0:List UInt8)(n_1 n_2:Int):rk Tryz.prog aE (.at_ 48 0 [true,true,true,true,true,true,true,true] (sv 147 [(3,vs l_0),(4,vi n_1),(5,vu n_2)]) [] [])=aC (rk Tryz.prog aE) (cV (.call 101 [vu n_2] []) fun a=>aW a fun b=>dZ b fun c e=>aT (decide (n_1 ≥ 1075)) (cV (.call 102 [vl c e,vi (IntKind.i64.wrap (n_1-1075))] []) fun f=>aW f fun g=>dZ g fun h j => .call (.at_ 48 0 [true,true,true,true,true,true,true,true,true,true] (sv 147 [(3,vs l_0),(6,vl h j),(7,vl true [.i .u32 1])]) [] []) .ret) (cV (.call 102 [vl true [.i .u32 1],vi (IntKind.i64.wrap (1075-n_1))] []) fun k=>aW k fun m=>dZ m fun n o => .call (.at_ 48 0 [true,true,true,true,true,true,true,true,true,true] (sv 147 [(3,vs l_0),(6,vl c e),(7,vl n o)]) [] []) .ret)):=
 aF (by kernel_rfl)
theorem As(l_0:List UInt8)(b_1:Bool)(l_2:List D)(b_3:Bool)(l_4:List D):rk Tryz.prog aE (.at_ 48 0 [true,true,true,true,true,true,true,true,true,true] (sv 147 [(3,vs l_0),(6,vl b_1 l_2),(7,vl b_3 l_4)]) [] [])=aC (rk Tryz.prog aE) (cV (.call 103 [vl b_1 l_2] []) fun a=>aW a fun b=>bD .i64 b fun c=>cV (.call 103 [vl b_3 l_4] []) fun e=>aW e fun f=>bD .i64 f fun g => .call (.at_ 48 0 [false,false,true,true,true,true,true,true,true,true,true,true,true] (sv 147 [(3,vs l_0),(6,vl b_1 l_2),(7,vl b_3 l_4),(8,vi (IntKind.i64.wrap (IntKind.i64.wrap ((IntKind.i64.wrap (IntKind.i64.wrap (c-g)*30103)).tdiv 100000)-2)))]) [] []) .ret):=
 aF (by kernel_rfl)
theorem qh(l_0:List UInt8)(b_1:Bool)(l_2:List D)(b_3:Bool)(l_4:List D)(n_5:Int):rk Tryz.prog aE (.at_ 48 0 [false,false,true,true,true,true,true,true,true,true,true,true,true] (sv 147 [(3,vs l_0),(6,vl b_1 l_2),(7,vl b_3 l_4),(8,vi n_5)]) [] [])=aC (rk Tryz.prog aE) (cV (.call 104 [vl b_1 l_2,vl b_3 l_4,vi (IntKind.i64.wrap (n_5+1))] []) fun a=>aW a fun b=>dQ b fun c=>aT c (.call (.at_ 48 0 [false,false,true,true,true,true,true,true,true,true,true,true,true] (sv 147 [(3,vs l_0),(6,vl b_1 l_2),(7,vl b_3 l_4),(8,vi (IntKind.i64.wrap (n_5+1)))]) [] []) .ret) (aT (decide (IntKind.i64.wrap (16-n_5) ≥ 0)) (cV (.call 106 [vi (IntKind.i64.wrap (16-n_5))] []) fun e=>aW e fun f=>dZ f fun g h=>cV (.call 105 [vl b_1 l_2,vl g h] []) fun j=>aW j fun k=>dZ k fun m n => .call (.at_ 48 0 [true,true,true,true,true,true,true,true,true,true,true,true,true,true] (sv 147 [(3,vs l_0),(6,vl m n),(7,vl b_3 l_4),(8,vi n_5)]) [] []) .ret) (cV (.call 106 [vi (IntKind.i64.wrap (0-IntKind.i64.wrap (16-n_5)))] []) fun o=>aW o fun p=>dZ p fun q r=>cV (.call 105 [vl b_3 l_4,vl q r] []) fun t=>aW t fun zu=>dZ zu fun v w => .call (.at_ 48 0 [true,true,true,true,true,true,true,true,true,true,true,true,true,true] (sv 147 [(3,vs l_0),(6,vl b_1 l_2),(7,vl v w),(8,vi n_5)]) [] []) .ret))):=
 aF (by kernel_rfl)
theorem xQ(l_0:List UInt8)(b_1:Bool)(l_2:List D)(b_3:Bool)(l_4:List D)(n_5:Int):rk Tryz.prog aE (.at_ 48 0 [true,true,true,true,true,true,true,true,true,true,true,true,true,true] (sv 147 [(3,vs l_0),(6,vl b_1 l_2),(7,vl b_3 l_4),(8,vi n_5)]) [] [])=aC (rk Tryz.prog aE) (cV (.call 107 [vl b_1 l_2,vl b_3 l_4] []) fun a=>dY a fun c=>aM (c.length==3) (aW (c.getD 0 (vb false)) fun e=>dZ e fun f g=>aW (c.getD 1 (vb false)) fun h=>dZ h fun j k=>aW (c.getD 2 (vb false)) fun m=>dQ m fun n=>cV (.call 109 [vl j k,vl j k] []) fun o=>aW o fun p=>dZ p fun q r=>cV (.call 108 [vl q r,vl b_3 l_4] []) fun t=>aW t fun zu=>bD .i64 zu fun v=>aT (decide (v>0)) (.call (.at_ 48 0 [true,false,true,true,true,true,true,true,true,true,true,true,true,true,true,true,true,true] (sv 147 [(3,vs l_0),(8,vi n_5),(10,vl f g),(104,vb true)]) [] []) .ret) (aT (v==0) (cV (.call 110 [vl f g] []) fun w=>aW w fun x=>bD .u64 x fun y => .call (.at_ 48 0 [true,false,true,true,true,true,true,true,true,true,true,true,true,true,true,true,true,true] (sv 147 [(3,vs l_0),(8,vi n_5),(10,vl f g),(104,vb (y.tmod 2==1))]) [] []) .ret) (.call (.at_ 48 0 [true,false,true,true,true,true,true,true,true,true,true,true,true,true,true,true,true,true] (sv 147 [(3,vs l_0),(8,vi n_5),(10,vl f g),(104,vb false)]) [] []) .ret)))):=
 aF (by kernel_rfl)
theorem v7(l_0:List UInt8)(n_1:Int)(b_2:Bool)(l_3:List D)(b_4:Bool):rk Tryz.prog aE (.at_ 48 0 [true,false,true,true,true,true,true,true,true,true,true,true,true,true,true,true,true,true] (sv 147 [(3,vs l_0),(8,vi n_1),(10,vl b_2 l_3),(104,vb b_4)]) [] [])=aC (rk Tryz.prog aE) (aT b_4 (cV (.call 101 [vu 1] []) fun a=>aW a fun c=>dZ c fun e f=>cV (.call 109 [vl b_2 l_3,vl e f] []) fun g=>aW g fun h=>dZ h fun j k=>cV (.call 110 [vl j k] []) fun m=>aW m fun n=>bD .u64 n fun o=>aT (o==100000000000000000) (.call (.at_ 48 0 [true,true,true,true,true,true,true,true,true,true,true,true,true,true,true,true,true,true,true] (sv 147 [(3,vs l_0),(8,vi (IntKind.i64.wrap (n_1+1))),(14,vu (IntKind.u64.wrap (o.tdiv 10)))]) [] []) .ret) (.call (.at_ 48 0 [true,true,true,true,true,true,true,true,true,true,true,true,true,true,true,true,true,true,true] (sv 147 [(3,vs l_0),(8,vi n_1),(14,vu o)]) [] []) .ret)) (cV (.call 110 [vl b_2 l_3] []) fun p=>aW p fun q=>bD .u64 q fun r=>aT (r==100000000000000000) (.call (.at_ 48 0 [true,true,true,true,true,true,true,true,true,true,true,true,true,true,true,true,true,true,true] (sv 147 [(3,vs l_0),(8,vi (IntKind.i64.wrap (n_1+1))),(14,vu (IntKind.u64.wrap (r.tdiv 10)))]) [] []) .ret) (.call (.at_ 48 0 [true,true,true,true,true,true,true,true,true,true,true,true,true,true,true,true,true,true,true] (sv 147 [(3,vs l_0),(8,vi n_1),(14,vu r)]) [] []) .ret))):=
 aF (by kernel_rfl)
theorem tD(l_0:List UInt8)(n_1 n_2:Int):rk Tryz.prog aE (.at_ 48 0 [true,true,true,true,true,true,true,true,true,true,true,true,true,true,true,true,true,true,true] (sv 147 [(3,vs l_0),(8,vi n_1),(14,vu n_2)]) [] [])=aC (rk Tryz.prog aE) (cV (.call 100 [vu n_2] []) fun a=>aW a fun b=>fF b fun c=>aM (decide ((0:Int)<=1/\1<=(c.length:Int))) (.call (.at_ 48 0 [false,false,true,true,true,true,true,true,true,true,true,true,true,true,true,true,true,true,true,true,true,true,true] (sv 147 [(3,vs l_0),(8,vi n_1),(15,vs c),(16,vs (List.take (c.length-1) (List.drop 1 c)))]) [] []) .ret)):=
 aF (by kernel_rfl)
theorem ln(l_0:List UInt8)(n_1:Int)(l_2 l_3:List UInt8):rk Tryz.prog aE (.at_ 48 0 [false,false,true,true,true,true,true,true,true,true,true,true,true,true,true,true,true,true,true,true,true,true,true] (sv 147 [(3,vs l_0),(8,vi n_1),(15,vs l_2),(16,vs l_3)]) [] [])=aC (rk Tryz.prog aE) (aT (decide ((l_3.length:Int)>1)) (ob (bh l_3 (IntKind.i64.wrap ((l_3.length:Int)-1))) fun a => .call (.at_ 48 0 [true,false,false,false,false,true,true,true,true,true,true,true,true,true,true,true,true,true,true,true,true,true,true,true,true,true] (sv 147 [(3,vs l_0),(8,vi n_1),(15,vs l_2),(16,vs l_3),(130,vb ((a.toNat:Int)==48))]) [] []) .ret) (.call (.at_ 48 0 [true,false,false,false,false,true,true,true,true,true,true,true,true,true,true,true,true,true,true,true,true,true,true,true,true,true] (sv 147 [(3,vs l_0),(8,vi n_1),(15,vs l_2),(16,vs l_3),(130,vb false)]) [] []) .ret)):=
 aF (by kernel_rfl)
theorem kO(l_0:List UInt8)(n_1:Int)(l_2 l_3:List UInt8)(b_4:Bool):rk Tryz.prog aE (.at_ 48 0 [true,false,false,false,false,true,true,true,true,true,true,true,true,true,true,true,true,true,true,true,true,true,true,true,true,true] (sv 147 [(3,vs l_0),(8,vi n_1),(15,vs l_2),(16,vs l_3),(130,vb b_4)]) [] [])=aC (rk Tryz.prog aE) (aT b_4 (aM (decide (0<=IntKind.i64.wrap ((l_3.length:Int)-1)/\IntKind.i64.wrap ((l_3.length:Int)-1)<=(l_3.length:Int))) (.call (.at_ 48 0 [false,false,true,true,true,true,true,true,true,true,true,true,true,true,true,true,true,true,true,true,true,true,true] (sv 147 [(3,vs l_0),(8,vi n_1),(15,vs l_2),(16,vs (List.take ((IntKind.i64.wrap ((l_3.length:Int)-1)).toNat-0) (List.drop 0 l_3)))]) [] []) .ret)) (aM (decide ((0:Int)<=1/\1<=(l_2.length:Int))) (aM (decide (l_0.length+(List.take 1 (List.drop 0 l_2)).length<4611686018427387904)) (aM (decide ((l_0++List.take 1 (List.drop 0 l_2)).length+1<4611686018427387904)) (aM (decide ((l_0++List.take 1 (List.drop 0 l_2)++[46]).length+l_3.length<4611686018427387904)) (aM (decide ((l_0++List.take 1 (List.drop 0 l_2)++[46]++l_3).length+1<4611686018427387904)) (cV (.call 47 [vi n_1] []) fun a=>aW a fun c=>fF c fun e=>aM (decide ((l_0++List.take 1 (List.drop 0 l_2)++[46]++l_3++[101]).length+e.length<4611686018427387904)) (.ret (vs (l_0++List.take 1 (List.drop 0 l_2)++[46]++l_3++[101]++e),[]))))))))):=
 aF (by kernel_rfl)
end Go.Dn.Dec
namespace Go.Dn.Dec
open Go.Proofs
theorem jz(k:IntKind)(n:Int):(D.i k n).cells[0]?=some (D.i k n):=rfl
theorem j0(k:IntKind)(n:Int):((D.i k n).width==1)=true:=rfl
theorem uT(b:Bool)(a:List Int)(ha:cP a)(hb:a.length<=1000000):∀n:Nat,n<=a.length->aN (a.take n)=aN a->
  rk Tryz.prog aE (Task.at_ 152 0 [false,false,true,true] (sv 23 [(0,V.d (D.l b (ints .u32 a))),(3,V.d (D.i .i64 (n:Int)))]) [] [])=some (.d (nl (aN a)),[])
 |0,hn,hv=>by
  have h0:aN a=0:=by rw[<-hv];rfl
  have e:nl (aN a) = .l true []:=by rw[h0];exact kR bF
  rw[x9,bc (by decide),aA,uw,aY,aH (by simp),av,ba]
  have e2:List.take (((0:Nat):Int).toNat-0) (List.drop 0 (ints .u32 a))=[]:=rfl
  rw[e2,Aw,ba,aH (by decide),aD,e]
  rfl
 |n+1,hn,hv=>by
  have hx:n<a.length:=by omega
  have gx:=List.getElem?_eq_getElem hx
  have hw:IntKind.i64.wrap (((n+1:Nat):Int)-1)=(n:Int):=by rw[wrap_i64]<;>omega
  have hg:(ints .u32 a)[n]?=some (D.i .u32 a[n]):=by rw[dC,gx];rfl
  rw[x9,bf (by omega),hw,bp,Int.toNat_natCast,aJ hg,j0,ba,aJ hg,aJ (jz _ _),bL,aA,uw]
  by_cases h0:a[n]=0
  ·have ih:=uT b a ha hb n (by omega) (by rw[<-hv];exact(dL a n (by rw[gx,h0])).symm)
   rw[h0,da (by rfl),hw,aA,ih]
  ·have e:nl (aN a) = .l (a.take (n+1)).isEmpty (ints .u32 (a.take (n+1))):=by rw[<-hv];exact kR (fP ha hx h0)
   have e2:List.take ((((n+1:Nat):Int)).toNat-0) (List.drop 0 (ints .u32 a))=ints .u32 (a.take (n+1)):=by rw[List.drop_zero,jU];rfl
   rw[cj (beq_eq_false_iff_ne.2 h0),aH (by rw[cC];omega),av,ba,e2,av,ba,aH (by rw[cC,List.length_take];omega),aD,e,fi,List.nil_append]
theorem lF(b:Bool)(a:List Int)(ha:cP a)(hb:a.length<=1000000):rk Tryz.prog aE (Task.call 152 [V.d (D.l b (ints .u32 a))] [])=some (.d (nl (aN a)),[]):=by
 rw[f58,aA,cC]
 exact uT b a ha hb a.length (Nat.le_refl _) (by rw[List.take_length])
theorem sI(a:List Int)(ha:cP a)(hb:a.length<=1000000):∀n:Nat,n<=a.length->aN (a.take n)=aN a->
  rk Tryz.prog aE (Task.at_ 152 1 [false,false,true,true] (sv 23 [(0,V.m 0 0 a.length),(3,V.d (D.i .i64 (n:Int)))]) [] [Ob.cells (cellsOf a) []])=some (.d (nl (aN a)),[Ob.cells (cellsOf a) []])
 |0,hn,hv=>by
  have h0:aN a=0:=by rw[<-hv];rfl
  have e:nl (aN a) = .l true []:=by rw[h0];exact kR bF
  have hv0:dw [Ob.cells (cellsOf a) []] 1 (V.m 0 0 (((0:Nat):Int).toNat-0))=some (ints .u32 (a.take 0)):=gN a 0 (by omega)
  rw[r9,bc (by decide),aA,ql,aY,aH (by simp),aJ hv0,av,ba,aH (by simp),aD,e]
  rfl
 |n+1,hn,hv=>by
  have hx:n<a.length:=by omega
  have gx:=List.getElem?_eq_getElem hx
  have hw:IntKind.i64.wrap (((n+1:Nat):Int)-1)=(n:Int):=by rw[wrap_i64]<;>omega
  have hg:(cellsOf a)[0+n]?=some (V.d (D.i .u32 a[n])):=by rw[Nat.zero_add,cw,gx];rfl
  have hni:(0:Int)<=(n:Int)/\(n:Int)<(a.length:Int):=by omega
  rw[r9,bf (by omega),hw,aH hni,Int.toNat_natCast,aJ hg,bj,bL,aA,ql]
  by_cases h0:a[n]=0
  ·have ih:=sI a ha hb n (by omega) (by rw[<-hv];exact(dL a n (by rw[gx,h0])).symm)
   rw[h0,da (by rfl),hw,aA,ih]
  ·have e:nl (aN a) = .l (a.take (n+1)).isEmpty (ints .u32 (a.take (n+1))):=by rw[<-hv];exact kR (fP ha hx h0)
   have hv1:dw [Ob.cells (cellsOf a) []] 1 (V.m 0 0 ((((n+1:Nat):Int)).toNat-0))=some (ints .u32 (a.take (n+1))):=gN a (n+1) (by omega)
   rw[cj (beq_eq_false_iff_ne.2 h0),aH (by omega),aJ hv1,av,ba,aH (by rw[cC,List.length_take];omega),aD,e,fi,List.nil_append]
theorem pM(a:List Int)(ha:cP a)(hb:a.length<=1000000):rk Tryz.prog aE (Task.call 152 [V.m 0 0 a.length] [Ob.cells (cellsOf a) []])=some (.d (nl (aN a)),[Ob.cells (cellsOf a) []]):=by
 rw[LF,aA]
 exact sI a ha hb a.length (Nat.le_refl _) (by rw[List.take_length])
theorem qg(b:Bool)(x:Nat)(hx:Fits x):rk Tryz.prog aE (Task.call 152 [V.d (D.l b (ws x))] [])=some (.d (.l (nb x) (ws x)),[]):=by
 have:=lF b (aK x) (cd x) (by have:=hx.len;omega)
 rw[bY]at this
 exact this
theorem sQ(n:Nat)(h:n<18446744073709551616):rk Tryz.prog aE (Task.call 101 [V.d (D.i .u64 (n:Int))] [])=some (.d (.l (nb n) (ws n)),[]):=by
 rw[f30]
 have e:[D.i IntKind.u32 (IntKind.u32.wrap n),D.i IntKind.u32 (IntKind.u32.wrap ((n:Int).fdiv 4294967296))]=ints .u32 [((n%W:Nat):Int),((n / W:Nat):Int)]:=by
  rw[ct,ct,ko,oC,kv (by unfold W;omega)];rfl
 have hv:aN [((n%W:Nat):Int),((n / W:Nat):Int)]=n:=by
  simp only[aN,Int.toNat_natCast]
  have:=Nat.mod_add_div n W;omega
 have hu:cP [((n%W:Nat):Int),((n / W:Nat):Int)]:=by
  intro z hz
  have h1:=Nat.mod_lt n ft
  have h2:n / W<4294967296:=by unfold W;omega
  unfold W at *
  simp at hz
  rcases hz with rfl|rfl<;>omega
 have hc:=lF true _ hu (by simp)
 rw[hv,jG]at hc
 rw[e,di hc,aD]
def dg(x i:Nat):Nat:=x / W^i%W
theorem mv(x i:Nat):dg x i<4294967296:=Nat.mod_lt _ ft
theorem fg{x i:Nat}(h:(aK x).length<=i):x / W^i=0:=by
 refine Nat.div_eq_of_lt (Nat.lt_of_lt_of_le (ek x) (Nat.pow_le_pow_right ft h))
theorem Gz{x i:Nat}(h:i<(aK x).length):(ws x)[i]?=some (D.i .u32 ((dg x i:Nat):Int)):=by
 rw[ws,dC,uK x i h];rfl
theorem iI(b:Bool)(x i:Nat):rk Tryz.prog aE (Task.call 155 [V.d (D.l b (ws x)),V.d (D.i .i64 (i:Int))] [])=some (.d (.i .u64 ((dg x i:Nat):Int)),[]):=by
 rw[f57,cM]
 by_cases h:i<(aK x).length
 ·have hl:=mv x i
  have hw:IntKind.u64.wrap ((dg x i:Nat):Int)=((dg x i:Nat):Int):=by rw[aO];omega
  rw[bf (by omega),bp,aJ (Gz h),j0,ba,Int.toNat_natCast,aJ (Gz h),aJ (jz _ _),bL,aD,hw]
 ·rw[bc (by omega),aD]
  have:dg x i=0:=by unfold dg;rw[fg (by omega)];exact Nat.zero_mod _
  rw[this];rfl
theorem rh(b:Bool)(x i:Nat)(hi:i<1000000000):rk Tryz.prog aE (Task.call 153 [V.d (D.l b (ws x)),V.d (D.i .i64 (i:Int))] [])=some (.d (.i .u64 ((x / 2^i%2:Nat):Int)),[]):=by
 rw[f59]
 have e1:(i:Int).tdiv 32=((i / 32:Nat):Int):=dH i 32
 have e2:(i:Int).tmod 32=((i%32:Nat):Int):=ia i 32
 have hw:IntKind.i64.wrap ((i / 32:Nat):Int)=((i / 32:Nat):Int):=by rw[wrap_i64]<;>omega
 have hm:min (((i%32:Nat):Int)).toNat 64=i%32:=by rw[Int.toNat_natCast];omega
 have hd:=mv x (i / 32)
 have hf:((dg x (i / 32):Nat):Int).fdiv (2^(i%32))=((dg x (i / 32) / 2^(i%32):Nat):Int):=by
  have:=jC (dg x (i / 32)) (2^(i%32))
  rwa[Int.natCast_pow]at this
 have hle:dg x (i / 32) / 2^(i%32)<18446744073709551616:=Nat.lt_of_le_of_lt (Nat.div_le_self _ _) (by omega)
 have ha:(BitVec.ofInt IntKind.u64.bits ((dg x (i / 32) / 2^(i%32):Nat):Int) &&& BitVec.ofInt IntKind.u64.bits 1).toNat=x / 2^i%2:=by
  show (BitVec.ofInt 64 ((dg x (i / 32) / 2^(i%32):Nat):Int) &&& BitVec.ofInt 64 1).toNat=_
  rw[BitVec.toNat_and,BitVec.ofInt_natCast,BitVec.toNat_ofNat]
  have:(BitVec.ofInt 64 1).toNat=1:=by decide
  rw[this,Nat.and_one_is_mod,<-xw x i]
  unfold dg
  unfold dg at hle
  rw[Nat.mod_eq_of_lt (show _<2^64 from hle)]
 have hw2:IntKind.u64.wrap ((x / 2^i%2:Nat):Int)=((x / 2^i%2:Nat):Int):=by rw[aO];omega
 rw[e1,hw,de (iI b x (i / 32)),e2,hm,hf,ha,hw2,aH (by omega),aD]
theorem sN(b:Bool)(x:Nat):∀n:Nat,n<1000000000->x<2^n->
  rk Tryz.prog aE (Task.at_ 103 0 [false,false,true,true,true] (sv 22 [(3,V.d (D.l b (ws x))),(4,V.d (D.i .i64 (n:Int)))]) [] [])=some (.d (.i .i64 (bd x:Nat)),[])
 |0,hn,hx=>by
  have:x=0:=by simpa using hx
  subst this
  rw[x1,bc (by decide),aA,ur,aY,aD];rfl
 |n+1,hn,hx=>by
  have hw:IntKind.i64.wrap (((n+1:Nat):Int)-1)=(n:Int):=by rw[wrap_i64]<;>omega
  rw[x1,bf (by omega),hw,de (rh b x n (by omega)),aA,ur]
  have hd:x / 2^n<2:=Nat.div_lt_of_lt_mul (by rw[Nat.mul_comm,Nat.mul_comm,<-Nat.pow_succ];exact hx)
  by_cases h:x<2^n
  ·have e:x / 2^n%2=0:=by rw[Nat.div_eq_of_lt h]
   rw[e,da (by rfl),hw,aA]
   exact sN b x n (by omega) h
  ·have e:x / 2^n%2=1:=by
    have:0<x / 2^n:=Nat.div_pos (by omega) (Nat.pow_pos (by decide))
    omega
   rw[e,cj (by rfl),aD,vS (by omega) hx]
theorem lK(b:Bool)(x:Nat)(hx:Fits x):rk Tryz.prog aE (Task.call 103 [V.d (D.l b (ws x))] [])=some (.d (.i .i64 (bd x:Nat)),[]):=by
 have hl:=hx.len
 have hw:IntKind.i64.wrap (32*((aK x).length:Int))=((32*(aK x).length:Nat):Int):=by rw[wrap_i64]<;>omega
 rw[f41,di (qg b x hx),cM,hw,aA]
 exact sN (nb x) x (32*(aK x).length) (by omega) (by rw[<-kb];exact ek x)
theorem oi(x i:Nat):x / W^i=W*(x / W^(i+1))+dg x i:=by
 unfold dg
 rw[Nat.pow_succ,<-Nat.div_div_eq_div_mul]
 exact(Nat.div_add_mod _ _).symm
theorem ve(b c:Bool)(x y:Nat):∀n:Nat,n<1000000000->x / W^n=y / W^n->
  rk Tryz.prog aE (Task.at_ 108 0 [false,true,false,true] (sv 30 [(0,V.d (D.l b (ws x))),(1,V.d (D.l c (ws y))),(5,V.d (D.i .i64 ((n:Int)-1)))]) [] [])=some (.d (.i .i64 (ef x y)),[])
 |0,hn,h=>by
  have:x=y:=by simpa using h
  subst this
  rw[x2,bc (by decide),aD]
  simp[ef]
 |n+1,hn,h=>by
  have e0:((n+1:Nat):Int)-1=(n:Int):=by omega
  have hw:IntKind.i64.wrap ((n:Int)-1)=(n:Int)-1:=by rw[wrap_i64]<;>omega
  have sx:=oi x n
  rw[h]at sx
  have sy:=oi y n
  have hlt:∀p q:Nat,p / W^n<q / W^n->p<q:=fun p q h=>by
   rcases Nat.lt_or_ge p q with h1|h1
   ·exact h1
   ·exact absurd (Nat.div_le_div_right (c:=W^n) h1) (by omega)
  rw[e0,x2,bf (by omega),de (iI b x n),de (iI c y n)]
  by_cases h1:dg x n<dg y n
  ·have:=hlt x y (by omega)
   rw[bf (by omega),aD,ef,if_pos this]
  ·rw[bc (by omega),de (iI b x n),de (iI c y n)]
   by_cases h2:dg y n<dg x n
   ·have:=hlt y x (by omega)
    rw[bf (by omega),aD,ef,if_neg (by omega),if_pos this]
   ·rw[bc (by omega),hw,aA]
    exact ve b c x y n (by omega) (by omega)
theorem oL(b c:Bool)(x y:Nat)(hx:Fits x)(hy:Fits y):rk Tryz.prog aE (Task.call 108 [V.d (D.l b (ws x)),V.d (D.l c (ws y))] [])=some (.d (.i .i64 (ef x y)),[]):=by
 have lx:=hx.len
 have ly:=hy.len
 have e:IntKind.i64.wrap ((if ((ws y).length:Int)>((ws x).length:Int) then((ws y).length:Int) else((ws x).length:Int))-1)=((max (aK x).length (aK y).length:Nat):Int)-1:=by
  rw[cM,cM,wrap_i64]
  ·split<;>omega
  ·split<;>omega
  ·split<;>omega
 rw[f44,e,aA]
 exact ve b c x y _ (by omega) (by rw[fg (by omega),fg (by omega)])
theorem oP(b:Bool)(x:Nat):rk Tryz.prog aE (Task.call 110 [V.d (D.l b (ws x))] [])=some (.d (.i .u64 ((x%18446744073709551616:Nat):Int)),[]):=by
 have h0:rk Tryz.prog aE (Task.call 155 [V.d (D.l b (ws x)),V.d (D.i .i64 0)] [])=_:=iI b x 0
 have h1:rk Tryz.prog aE (Task.call 155 [V.d (D.l b (ws x)),V.d (D.i .i64 1)] [])=_:=iI b x 1
 have d0:=mv x 0
 have d1:=mv x 1
 have e0:dg x 0=x%4294967296:=by unfold dg;rw[Nat.pow_zero,Nat.div_one];rfl
 have e1:dg x 1=x / 4294967296%4294967296:=by unfold dg;rw[Nat.pow_one];rfl
 have hw:IntKind.u64.wrap (((dg x 1:Nat):Int)*4294967296)=((dg x 1*2^32:Nat):Int):=by rw[aO];omega
 have hor:(BitVec.ofInt IntKind.u64.bits ((dg x 0:Nat):Int) ||| BitVec.ofInt IntKind.u64.bits ((dg x 1*2^32:Nat):Int)).toNat=x%18446744073709551616:=by
  have:=jv (a:=dg x 0) (b:=dg x 1*2^32) (by omega) (by omega)
  rw[nD (by omega)]at this
  refine Eq.trans this ?_
  omega
 have hw2:IntKind.u64.wrap ((x%18446744073709551616:Nat):Int)=((x%18446744073709551616:Nat):Int):=by rw[aO];omega
 rw[f45,de h0,de h1,hw,hor,hw2,aD]
end Go.Dn.Dec
namespace Go.Dn.Dec
open Go.Proofs
def KI(b1 b2:Bool)(x y:Nat)(b4:Bool)(out:List Int)(c i:Nat):Task:=
 Task.at_ 109 0 [false,true,false,true,true,true] (sv 42 [(0,V.d (D.l b1 (ws x))),(1,V.d (D.l b2 (ws y))),(5,V.d (D.l b4 (ints .u32 out))),(6,V.d (D.i .u64 (c:Int))),(7,V.d (D.i .i64 (i:Int)))]) [(5,1)] []
theorem vd(b1 b2:Bool)(x y:Nat)(b4:Bool)(out:List Int)(c i:Nat)(hi:i<=1000000)(hl:out.length=i)(hc:c<4294967296):
  rk Tryz.prog aE (Task.at_ 109 0 [true,false,false,false,true,false,true,true,true]
   (sv 42 [(0,V.d (D.l b1 (ws x))),(1,V.d (D.l b2 (ws y))),(5,V.d (D.l b4 (ints .u32 out))),(6,V.d (D.i .u64 (c:Int))),(7,V.d (D.i .i64 (i:Int))),(21,V.d (D.b true))]) [(5,1)] [])=
  rk Tryz.prog aE (KI b1 b2 x y false (out++[(((c+dg x i+dg y i)%W:Nat):Int)]) ((c+dg x i+dg y i) / W) (i+1)):=by
 have d1:=mv x i
 have d2:=mv y i
 have w1:IntKind.u64.wrap ((c:Int)+((dg x i:Nat):Int))=((c+dg x i:Nat):Int):=by rw[aO];omega
 have w2:IntKind.u64.wrap (((c+dg x i:Nat):Int)+((dg y i:Nat):Int))=((c+dg x i+dg y i:Nat):Int):=by rw[aO];omega
 have w3:IntKind.u32.wrap ((c+dg x i+dg y i:Nat):Int)=(((c+dg x i+dg y i)%W:Nat):Int):=by rw[ct,oC]
 have w4:IntKind.i64.wrap ((i:Int)+1)=((i+1:Nat):Int):=by rw[wrap_i64]<;>omega
 rw[pD,bk,de (iI b1 x i),de (iI b2 y i),av,ba,Bool.or_true,ba,aH (by rw[cC];omega),Bool.and_false,w1,w2,w3,w4,ko,fX,aA]
 rfl
theorem Dz(b1 b2:Bool)(x y:Nat)(L:Nat)(hLx:(aK x).length<=L)(hLy:(aK y).length<=L)(hL:L<=100000):∀(d i:Nat) (b4:Bool) (out:List Int) (c:Nat),i+d=L+1->cP out->out.length=i->c<2->aN out+W^i*(c+x / W^i+y / W^i)=x+y->(d=0->c=0)->
  rk Tryz.prog aE (KI b1 b2 x y b4 out c i)=some (.d (.l (nb (x+y)) (ws (x+y))),[]):=by
 intro d
 induction d with
 |zero=>
  intro i b4 out c hi hu hl hc hv h0
  have zx:x / W^i=0:=fg (by omega)
  have zy:y / W^i=0:=fg (by omega)
  rw[zx,zy,h0 rfl]at hv
  have hn:=lF b4 out hu (by omega)
  rw[show aN out=x+y by simpa using hv,jG]at hn
  unfold KI
  rw[xW,cM,cM,bc (by omega),bc (by omega),aA,pD,h0 rfl,cj (by rfl),di hn,aD]
 |succ d ih=>
  intro i b4 out c hi hu hl hc hv h0
  have d1:=mv x i
  have d2:=mv y i
  have sx:=oi x i
  have sy:=oi y i
  have step:rk Tryz.prog aE (KI b1 b2 x y false (out++[(((c+dg x i+dg y i)%W:Nat):Int)]) ((c+dg x i+dg y i) / W) (i+1))=some (.d (.l (nb (x+y)) (ws (x+y))),[]):=by
   have hq:(c+dg x i+dg y i) / W<2:=Nat.div_lt_of_lt_mul (by unfold W;omega)
   refine ih (i+1) false _ _ (by omega) (hu.snoc (Nat.mod_lt _ ft)) (by simp[hl]) hq ?_ ?_
   ·rw[cU,hl,<-hv,sx,sy]
    have e:=Nat.mod_add_div (c+dg x i+dg y i) W
    simp only[aN,Int.toNat_natCast,Nat.mul_zero,Nat.add_zero]
    rw[Nat.pow_succ,Nat.mul_assoc,Nat.add_assoc,<-Nat.mul_add]
    congr 2
    rw[Nat.mul_add,Nat.mul_add]
    omega
   ·intro hd
    have zx:dg x i=0:=by unfold dg;rw[fg (by omega)];exact Nat.zero_mod _
    have zy:dg y i=0:=by unfold dg;rw[fg (by omega)];exact Nat.zero_mod _
    rw[zx,zy]
    exact Nat.div_eq_of_lt (by unfold W;omega)
  rw[<-step,<-vd b1 b2 x y b4 out c i (by omega) hl (by omega)]
  unfold KI
  rw[xW,cM,cM]
  by_cases h1:i<(aK x).length
  ·rw[bf (by omega),aA]
  ·rw[bc (by omega)]
   by_cases h2:i<(aK y).length
   ·rw[bf (by omega),aA]
   ·rw[bc (by omega),aA]
    by_cases h3:0<c
    ·rw[show decide ((c:Int)>0)=true from decide_eq_true (by omega)]
    ·-- nothing is left
     have hc0:c=0:=by omega
     have zx:x / W^i=0:=fg (by omega)
     have zy:y / W^i=0:=fg (by omega)
     rw[zx,zy,hc0]at hv
     have hn:=lF b4 out hu (by omega)
     rw[show aN out=x+y by simpa using hv,jG]at hn
     rw[show decide ((c:Int)>0)=false from decide_eq_false (by omega),pD,aY,di hn,aD,vd b1 b2 x y b4 out c i (by omega) hl (by omega),step]
theorem kE(b c:Bool)(x y:Nat)(hx:Fits x)(hy:Fits y):rk Tryz.prog aE (Task.call 109 [V.d (D.l b (ws x)),V.d (D.l c (ws y))] [])=some (.d (.l (nb (x+y)) (ws (x+y))),[]):=by
 have lx:=hx.len
 have ly:=hy.len
 rw[f28,aA]
 exact Dz b c x y (max (aK x).length (aK y).length) (by omega) (by omega) (by omega) _ 0 true [] 0 (by rw[Nat.zero_add]) cP.nil rfl (by decide) (by simp[aN]) (by omega)
def LS(b1 b2:Bool)(x y:Nat)(b4:Bool)(out:List Int)(c i:Nat):Task:=
 Task.at_ 154 0 [false,true,false,true,true,true,true] (sv 40 [(0,V.d (D.l b1 (ws x))),(1,V.d (D.l b2 (ws y))),(6,V.d (D.l b4 (ints .u32 out))),(7,V.d (D.i .u64 (c:Int))),(8,V.d (D.i .i64 (i:Int)))]) [(6,1)] []
theorem mod_pow_succ(x i:Nat):x%W^(i+1)=x%W^i+W^i*dg x i:=by
 unfold dg
 rw[Nat.pow_succ,Nat.mod_mul]
theorem DI(b1 b2:Bool)(x y:Nat)(hyx:y<=x)(hL:(aK x).length<=100000):∀(d i:Nat) (b4:Bool) (out:List Int) (c:Nat),i+d=(aK x).length->cP out->out.length=i->c<2->aN out+y%W^i=x%W^i+W^i*c->
  rk Tryz.prog aE (LS b1 b2 x y b4 out c i)=some (.t [.d (.l (nb (x-y)) (ws (x-y))),.d (.b true)],[]):=by
 intro d
 induction d with
 |zero=>
  intro i b4 out c hi hu hl hc hv
  have hxl:=ek x
  have hil:i=(aK x).length:=by omega
  subst hil
  rw[Nat.mod_eq_of_lt hxl,Nat.mod_eq_of_lt (Nat.lt_of_le_of_lt hyx hxl)]at hv
  have hvl:=lQ hu
  rw[hl]at hvl
  have hc0:c=0:=by
   rcases Nat.eq_zero_or_pos c with h|h
   ·exact h
   ·have:c=1:=by omega
    rw[this]at hv;omega
  rw[hc0]at hv
  have hn:=lF b4 out hu (by omega)
  rw[show aN out=x-y by omega,jG]at hn
  unfold LS
  rw[ux,cM,bc (by omega),di hn,aD]
 |succ d ih=>
  intro i b4 out c hi hu hl hc hv
  have d1:=mv x i
  have d2:=mv y i
  obtain⟨D,hD⟩:∃D,D=dg x i+4294967296-dg y i-c:=⟨_,rfl⟩
  have w1:IntKind.u64.wrap (((dg x i:Nat):Int)+4294967296)=((dg x i+4294967296:Nat):Int):=by rw[aO];omega
  have w2:IntKind.u64.wrap (((dg x i+4294967296:Nat):Int)-((dg y i:Nat):Int))=((dg x i+4294967296-dg y i:Nat):Int):=by rw[aO];omega
  have w3:IntKind.u64.wrap (((dg x i+4294967296-dg y i:Nat):Int)-(c:Int))=(D:Int):=by rw[aO];omega
  obtain⟨R,Q,hR,hQ,e⟩:∃R Q,D%W=R/\D / W=Q/\R+4294967296*Q=D:=⟨_,_,rfl,rfl,Nat.mod_add_div D W⟩
  have hR32:R<4294967296:=hR▸Nat.mod_lt _ ft
  have w4:IntKind.u32.wrap (D:Int)=(R:Int):=by rw[ct,oC,hR]
  have hq:Q<=1:=by omega
  have w5:IntKind.u64.wrap (1-(D:Int).fdiv 4294967296)=((1-Q:Nat):Int):=by rw[ko,hQ,aO];omega
  have w6:IntKind.i64.wrap ((i:Int)+1)=((i+1:Nat):Int):=by rw[wrap_i64]<;>omega
  have ih':=ih (i+1) false (out++[(R:Int)]) (1-Q) (by omega) (hu.snoc hR32) (by simp[hl]) (by omega) (by
   rw[cU,hl,mod_pow_succ,mod_pow_succ]
   simp only[aN,Int.toNat_natCast,Nat.mul_zero,Nat.add_zero]
   have k:R+dg y i+c=dg x i+W*(1-Q):=by
    rcases Nat.lt_or_ge Q 1 with h|h
    ·have:Q=0:=by omega
     rw[this]at e⊢;unfold W;omega
    ·have:Q=1:=by omega
     rw[this]at e⊢;unfold W;omega
   have k2:W^i*R+W^i*dg y i+W^i*c=W^i*dg x i+W^(i+1)*(1-Q):=by
    rw[<-Nat.mul_add,<-Nat.mul_add,k,Nat.mul_add,Nat.pow_succ,Nat.mul_assoc]
   omega)
  unfold LS at ih' ⊢
  rw[ux,cM,bf (by omega),de (iI b1 x i),de (iI b2 y i),av,ba,Bool.or_true,ba,aH (by rw[cC];omega),Bool.and_false,w1,w2,w3,w4,w5,w6,fX,aA]
  exact ih'
theorem HZ(b c:Bool)(x y:Nat)(hx:Fits x)(hy:Fits y):rk Tryz.prog aE (Task.call 154 [V.d (D.l b (ws x)),V.d (D.l c (ws y))] [])=some (if x<y then .t [.d (.l true []),.d (.b false)]else .t [.d (.l (nb (x-y)) (ws (x-y))),.d (.b true)],[]):=by
 have lx:=hx.len
 rw[f69,de (oL b c x y hx hy)]
 by_cases h:x<y
 ·rw[if_pos h,bf (by unfold ef;rw[if_pos h];decide),aD]
 ·rw[if_neg h,bc (by unfold ef;rw[if_neg h];split<;>decide),aA]
  exact DI b c x y (by omega) (by omega) _ 0 true [] 0 (by rw[Nat.zero_add]) cP.nil rfl (by decide) (by simp[aN,Nat.mod_one])
end Go.Dn.Dec
namespace Go.Dn.Dec
open Go.Proofs
def J8(bx by_:Bool)(x y:List Int)(n i c k:Nat)(out:List Int):Task:=
 Task.at_ 105 0 [false,true,false,true,false,false,true,false,false,true,false,true,true]
  (sv 68 [(0,V.d (D.l bx (ints .u32 x))),(1,V.d (D.l by_ (ints .u32 y))),(5,V.m 0 0 n),(6,V.d (D.i .i64 (i:Int))),(7,V.d (D.i .u64 (c:Int))),(8,V.d (D.i .i64 (k:Int)))]) [] [Ob.cells (cellsOf out) []]
def IA(bx by_:Bool)(x y:List Int)(n i:Nat)(out:List Int):Task:=
 Task.at_ 105 0 [false,true,false,true,true] (sv 68 [(0,V.d (D.l bx (ints .u32 x))),(1,V.d (D.l by_ (ints .u32 y))),(5,V.m 0 0 n),(6,V.d (D.i .i64 (i:Int)))]) [] [Ob.cells (cellsOf out) []]
theorem A0(bx by_:Bool)(xs y:List Int)(hxs:cP xs)(hy:cP y)(i n x:Nat)(hi:i<xs.length)(ex:xs[i]=(x:Int))(hx:x<4294967296)(hn:i+y.length<n)(hyl:n<=1000000):
  ∀(d k:Nat) (c:Nat) (out:List Int),k+d=y.length->cP out->out.length=n->c<4294967296->(∀j,i+y.length<=j->j<out.length->out[j]?=some 0)->
  ∃(c':Nat) (out':List Int),cP out'/\out'.length=n/\c'<4294967296/\(∀j,i+y.length<=j->j<out'.length->out'[j]?=some 0)/\
   aN out'+W^(i+y.length)*c'=aN out+W^(i+k)*(c+x*aN (y.drop k))/\
   rk Tryz.prog aE (J8 bx by_ xs y n i c k out)=rk Tryz.prog aE (J8 bx by_ xs y n i c' y.length out'):=by
 intro d
 induction d with
 |zero=>
  intro k c out hk hu hl hc hz
  have hky:k=y.length:=by omega
  subst hky
  refine⟨c,out,hu,hl,hc,hz,?_,rfl⟩
  rw[List.drop_length];simp[aN]
 |succ d ih=>
  intro k c out hk hu hl hc hz
  have hky:k<y.length:=by omega
  have gy:=List.getElem?_eq_getElem hky
  have gx:=List.getElem?_eq_getElem hi
  obtain⟨w,ew,hw32⟩:=hy.get hky
  have hj:i+k<out.length:=by omega
  have gj:=List.getElem?_eq_getElem hj
  obtain⟨o,eo,ho32⟩:=hu.get hj
  have hm:=Js hx hw32
  have hT:c+o+x*w<18446744073709551616:=by omega
  have hmod:(c+o+x*w)%W<4294967296:=Nat.mod_lt _ ft
  have hdiv:(c+o+x*w) / W<4294967296:=by unfold W;omega
  obtain⟨c',out',u1,u2,u3,u4,u5,u6⟩:=ih (k+1) ((c+o+x*w) / W) (out.set (i+k) (((c+o+x*w)%W:Nat):Int)) (by omega) (hu.set _ hmod) (by simpa using hl) hdiv (vO hz (by omega) _)
  refine⟨c',out',u1,u2,u3,u4,?_,?_⟩
  ·rw[u5]
   have hs:=jn out (i+k) (((c+o+x*w)%W:Nat):Int) hj
   rw[eo]at hs
   simp only[Int.toNat_natCast]at hs
   have hd:=Nat.mod_add_div (c+o+x*w) W
   rw[iC hky,ew]
   simp only[Int.toNat_natCast]
   have e1:W^(i+(k+1))*((c+o+x*w) / W+x*aN (y.drop (k+1)))=W^(i+k)*(W*((c+o+x*w) / W))+W^(i+k)*(W*(x*aN (y.drop (k+1)))):=by
    rw[show i+(k+1)=(i+k)+1 from rfl,Nat.pow_succ,Nat.mul_assoc,Nat.mul_add,Nat.mul_add]
   have e2:W^(i+k)*(c+x*(w+W*aN (y.drop (k+1))))=W^(i+k)*(c+x*w)+W^(i+k)*(W*(x*aN (y.drop (k+1)))):=by
    rw[<-Nat.mul_add];congr 1
    rw[Nat.mul_add,<-Nat.add_assoc];congr 1
    rw[Nat.mul_left_comm]
   rw[e1,e2]
   have e3:W^(i+k)*((c+o+x*w)%W)+W^(i+k)*(W*((c+o+x*w) / W))=W^(i+k)*(c+x*w)+W^(i+k)*o:=by
    rw[<-Nat.mul_add,hd,<-Nat.mul_add];congr 1;omega
   omega
  ·rw[<-u6]
   unfold J8
   have hw1:IntKind.i64.wrap ((i:Int)+(k:Int))=((i+k:Nat):Int):=by rw[wrap_i64]<;>omega
   have hw2:IntKind.i64.wrap ((k:Int)+1)=((k+1:Nat):Int):=by rw[wrap_i64]<;>omega
   have ho:IntKind.u64.wrap (o:Int)=(o:Int):=by rw[aO];omega
   have hxw:IntKind.u64.wrap (x:Int)=(x:Int):=by rw[aO];omega
   have hww:IntKind.u64.wrap (w:Int)=(w:Int):=by rw[aO];omega
   have hp:IntKind.u64.wrap ((x:Int)*(w:Int))=((x*w:Nat):Int):=by rw[<-Int.natCast_mul,aO,cT (by omega)]
   have hco:IntKind.u64.wrap ((c:Int)+(o:Int))=((c+o:Nat):Int):=by rw[aO];omega
   have hw3:IntKind.u64.wrap (((c+o:Nat):Int)+((x*w:Nat):Int))=((c+o+x*w:Nat):Int):=by rw[<-Int.natCast_add,aO,cT hT]
   have hw4:IntKind.u32.wrap ((c+o+x*w:Nat):Int)=(((c+o+x*w)%W:Nat):Int):=by rw[ct,oC]
   have hw5:((c+o+x*w:Nat):Int).fdiv 4294967296=(((c+o+x*w) / W:Nat):Int):=ko _
   generalize (c+o+x*w:Nat)=T at hw3 hw4 hw5⊢
   have hb1:(0:Int)<=((i+k:Nat):Int)/\((i+k:Nat):Int)<(n:Int):=by omega
   have hb2:0+(i+k)<(cellsOf out).length:=by rw[dp];omega
   have ho1:(cellsOf out)[0+(i+k)]?=some (V.d (D.i .u32 (o:Int))):=by rw[Nat.zero_add,cw,gj,eo];rfl
   have hx1:(ints .u32 xs)[i]?=some (D.i .u32 (x:Int)):=by rw[dC,gx,ex];rfl
   have hy1:(ints .u32 y)[k]?=some (D.i .u32 (w:Int)):=by rw[dC,gy,ew];rfl
   rw[qk,cC,bf (by omega),hw1,aH hb1,Int.toNat_natCast,Int.toNat_natCast,Int.toNat_natCast,aJ ho1,bj,bL,bp,aJ hx1,j0,ba,aJ hx1,aJ (jz _ _),bL,bp,aJ hy1,j0,ba,aJ hy1,aJ (jz _ _),bL,
    aH hb1,Bool.and_true,aH hb2,ho,hxw,hww,hp,hco,hw3,hw4,hw5,hw2,Nat.zero_add,ff,aA]
theorem FR(bx by_:Bool)(x y:List Int)(hx:cP x)(hy:cP y)(n:Nat)(hn:n=x.length+y.length+1)(hb:n<=1000000)(i:Nat)(hi:i<x.length)(out:List Int)(hu:cP out)(hl:out.length=n)(hz:∀j,i+y.length<=j->j<out.length->out[j]?=some 0):
  ∃out',cP out'/\out'.length=n/\(∀j,(i+1)+y.length<=j->j<out'.length->out'[j]?=some 0)/\aN out'=aN out+W^i*(x[i].toNat*aN y)/\
   rk Tryz.prog aE (IA bx by_ x y n i out)=rk Tryz.prog aE (IA bx by_ x y n (i+1) out'):=by
 obtain⟨a,ea,ha32⟩:=hx.get hi
 obtain⟨c',o',u1,u2,u3,u4,u5,u6⟩:=A0 bx by_ x y hx hy i n a hi ea ha32 (by omega) hb y.length 0 0 out (by omega) hu hl (by decide) hz
 have hj:i+y.length<o'.length:=by omega
 refine⟨o'.set (i+y.length) (c':Int),u1.set _ u3,by simpa using u2,fun j h1 h2=>?_,?_,?_⟩
 ·rw[List.getElem?_set_ne (by omega)]
  exact u4 j (by omega) (by simpa using h2)
 ·have hs:=jn o' (i+y.length) (c':Int) hj
  have h0:o'[i+y.length]=0:=by
   have:=u4 (i+y.length) (Nat.le_refl _) hj
   rw[List.getElem?_eq_getElem hj]at this
   exact Option.some.inj this
  rw[h0]at hs
  simp only[Int.toNat_natCast,Int.toNat_zero,Nat.mul_zero,Nat.add_zero]at hs
  rw[hs,u5,List.drop_zero,Nat.add_zero,Nat.zero_add,ea,Int.toNat_natCast]
 ·have e1:rk Tryz.prog aE (IA bx by_ x y n i out)=rk Tryz.prog aE (J8 bx by_ x y n i 0 0 out):=by
   unfold IA J8
   rw[xX,cC,bf (by omega),aA]
   rfl
  rw[e1,u6]
  unfold J8 IA
  have hw1:IntKind.i64.wrap ((i:Int)+(y.length:Int))=((i+y.length:Nat):Int):=by rw[wrap_i64]<;>omega
  have hw2:IntKind.i64.wrap ((i:Int)+1)=((i+1:Nat):Int):=by rw[wrap_i64]<;>omega
  have hw4:IntKind.u32.wrap (c':Int)=(c':Int):=by rw[ct,kv u3]
  have hb1:(0:Int)<=((i+y.length:Nat):Int)/\((i+y.length:Nat):Int)<(n:Int):=by omega
  have hb2:0+(i+y.length)<(cellsOf o').length:=by rw[dp];omega
  rw[qk,cC,bc (by omega),hw1,hw2,hw4,aH hb1,Int.toNat_natCast,Bool.and_true,aH hb2,Nat.zero_add,ff,aA]
theorem A1(bx by_:Bool)(x y:List Int)(hx:cP x)(hy:cP y)(n:Nat)(hn:n=x.length+y.length+1)(hb:n<=1000000):∀(d i:Nat) (out:List Int),i+d=x.length->cP out->out.length=n->(∀j,i+y.length<=j->j<out.length->out[j]?=some 0)->aN out=aN (x.take i)*aN y->
  rk Tryz.prog aE (IA bx by_ x y n i out)=some (.d (.l (nb (aN x*aN y)) (ws (aN x*aN y))),[]):=by
 intro d
 induction d with
 |zero=>
  intro i out hi hu hl hz hv
  have hix:i=x.length:=by omega
  subst hix
  rw[List.take_length]at hv
  unfold IA
  have hc:=pM out hu (by omega)
  rw[hl,hv,jG]at hc
  rw[xX,cC,bc (by omega),cE hc,gF,fp,beq_self_eq_true,ba,show (([]:Fl)==[])=true from rfl,ba,iv];rfl
 |succ d ih=>
  intro i out hi hu hl hz hv
  have hix:i<x.length:=by omega
  obtain⟨o',u1,u2,u3,u4,u5⟩:=FR bx by_ x y hx hy n hn hb i hix out hu hl hz
  rw[u5]
  refine ih (i+1) o' (by omega) u1 u2 u3 ?_
  rw[u4,hv,List.take_add_one,List.getElem?_eq_getElem hix,cU]
  simp only[Option.toList_some,aN,Nat.mul_zero,Nat.add_zero,List.length_take,Nat.min_eq_left (Nat.le_of_lt hix)]
  rw[Nat.add_mul,Nat.mul_assoc]
theorem kG(b c:Bool)(x y:Nat)(hx:Fits x)(hy:Fits y):rk Tryz.prog aE (Task.call 105 [V.d (D.l b (ws x)),V.d (D.l c (ws y))] [])=some (.d (.l (nb (x*y)) (ws (x*y))),[]):=by
 have lx:=hx.len
 have ly:=hy.len
 have h:=A1 b c (aK x) (aK y) (cd x) (cd y) ((aK x).length+(aK y).length+1) rfl (by omega) (aK x).length 0 (List.replicate ((aK x).length+(aK y).length+1) 0) (by omega)
  (fun z hz=>by rw[List.mem_replicate]at hz;omega) (by simp) (fun j _ hj=>by simp at hj;simp[hj]) (by rw[eG];simp[aN])
 rw[bY,bY]at h
 unfold IA at h
 rw[<-eF,Int.natCast_zero]at h
 have hw1:IntKind.i64.wrap (((aK x).length:Int)+((aK y).length:Int))=(((aK x).length+(aK y).length:Nat):Int):=by rw[wrap_i64]<;>omega
 have hw2:IntKind.i64.wrap ((((aK x).length+(aK y).length:Nat):Int)+1)=(((aK x).length+(aK y).length+1:Nat):Int):=by rw[wrap_i64]<;>omega
 rw[f29,cM,cM,hw1,hw2,aH (by omega),aH rfl,aH (by omega),Int.toNat_natCast,aA]
 exact h
theorem vj(n:Nat)(hn:n<=1000):∀(d i:Nat) (b:Bool),i+d=n->
  rk Tryz.prog aE (Task.at_ 106 0 [false,true,false,true,true,true] (sv 17 [(0,V.d (D.i .i64 (n:Int))),(3,V.d (D.l b (ws (10^i)))),(4,V.d (D.i .i64 (i:Int)))]) [] [])=some (.d (.l (if d=0 then b else nb (10^n)) (ws (10^n))),[])
 |0,i,b,h=>by
  have:i=n:=by omega
  subst this
  rw[xY,bc (by omega),aD,if_pos rfl]
 |d+1,i,b,h=>by
  have hw:IntKind.i64.wrap ((i:Int)+1)=((i+1:Nat):Int):=by rw[wrap_i64]<;>omega
  have hm:rk Tryz.prog aE (Task.call 105 [V.d (D.l b (ws (10^i))),V.d (D.l true [D.i IntKind.u32 10])] [])=some (.d (.l (nb (10^i*10)) (ws (10^i*10))),[]):=by
   have:=kG b true (10^i) 10 (ox (by omega)) (by have:=ox (n:=1) (by decide);rwa[Nat.pow_one]at this)
   rw[show ws 10=[D.i IntKind.u32 10] by rw[ws,dA (by decide),show 10 / W=0 by decide,bF];rfl]at this
   exact this
  rw[xY,bf (by omega),di hm,hw,aA,<-Nat.pow_succ]
  have:=vj n hn d (i+1) (nb (10^(i+1))) (by omega)
  have e:(if d=0 then nb (10^(i+1))else nb (10^n))=nb (10^n):=by
   split
   ·rw[show i+1=n by omega]
   ·rfl
  rw[this,e,if_neg (show ¬d+1=0 by omega)]
theorem xe:ws 1=[D.i IntKind.u32 1]:=by
 rw[ws,dA (by decide),show 1 / W=0 by decide,bF];rfl
def tb(n:Nat):Bool:=if n=0 then true else nb (10^n)
theorem mg(n:Nat)(hn:n<=1000):rk Tryz.prog aE (Task.call 106 [V.d (D.i .i64 (n:Int))] [])=some (.d (.l (tb n) (ws (10^n))),[]):=by
 have:=vj n hn n 0 true (by omega)
 rw[Nat.pow_zero,xe]at this
 rw[f31,bc (by omega),aA]
 exact this
end Go.Dn.Dec
namespace Go.Dn.Dec
open Go.Proofs
section
variable {f : Task → Option Out}
theorem Ck{t:Task}{b c:Bool}{l:List D}{e e':V}{K:Bool->List D->Bool->Tr}(h:f t=some (.t [.d (.l b l),.d (.b c)],[])):
  aC f (.call t fun o=>aM o.snd.isEmpty (dY o.fst fun l=>aM (l.length==2) (aW (l.getD 0 e) fun d=>dZ d fun x y=>aW (l.getD 1 e') fun d'=>dQ d' fun z=>K x y z)))=aC f (K b l c):=cE h
end
theorem KF{z k:Nat}(hz:z<2^k)(hk:k<32):IntKind.u32.wrap (((BitVec.ofInt IntKind.u32.bits (z:Int) ||| BitVec.ofInt IntKind.u32.bits (IntKind.u32.wrap (1*2^k))).toNat:Nat):Int)=((z+2^k:Nat):Int)/\z+2^k<4294967296:=by
 have h2:2^k<=2147483648:=Nat.le_trans (Nat.pow_le_pow_right (by decide) (show k<=31 by omega)) (by decide)
 have hlt:z+2^k<4294967296:=by omega
 refine⟨?_,hlt⟩
 have e:(1:Int)*2^k=((2^k:Nat):Int):=by simp
 rw[e,ct (((2^k:Nat)):Int),kv (by omega)]
 have h3:(BitVec.ofInt IntKind.u32.bits (z:Int) ||| BitVec.ofInt IntKind.u32.bits ((2^k:Nat):Int)).toNat=z ||| 2^k:=by
  show (BitVec.ofInt 32 (z:Int) ||| BitVec.ofInt 32 ((2^k:Nat):Int)).toNat=_
  rw[BitVec.toNat_or,BitVec.ofInt_natCast,BitVec.ofInt_natCast,BitVec.toNat_ofNat,BitVec.toNat_ofNat,Nat.mod_eq_of_lt (by omega),Nat.mod_eq_of_lt (by omega)]
 have h4:z ||| 2^k=z+2^k:=by
  have:=nD (a:=1) hz
  rwa[Nat.one_mul]at this
 rw[h3,h4,ct];omega
theorem H3{qs:List Int}(hu:cP qs){p:Nat}(hp:p / 32<qs.length)(hv:aN qs<2^p):
  ∃z:Nat,qs[p / 32]?=some (z:Int)/\IntKind.u32.wrap (((BitVec.ofInt IntKind.u32.bits (z:Int) ||| BitVec.ofInt IntKind.u32.bits (IntKind.u32.wrap (1*2^(p%32)))).toNat:Nat):Int)=((z+2^(p%32):Nat):Int)/\
   cP (qs.set (p / 32) ((z+2^(p%32):Nat):Int))/\aN (qs.set (p / 32) ((z+2^(p%32):Nat):Int))=aN qs+2^p:=by
 have hwd:=xa hu hp
 have hlow:aN qs / W^(p / 32)%W<2^(p%32):=by
  refine Nat.lt_of_le_of_lt (Nat.mod_le _ _) (Nat.div_lt_of_lt_mul ?_)
  rw[xo (p / 32) (p%32),Nat.div_add_mod];exact hv
 have hval:=jn qs (p / 32) ((aN qs / W^(p / 32)%W+2^(p%32):Nat):Int) hp
 rw[hwd,Int.toNat_natCast,Int.toNat_natCast,Nat.mul_add,xo (p / 32) (p%32),Nat.div_add_mod]at hval
 have hg:qs[p / 32]?=some ((aN qs / W^(p / 32)%W:Nat):Int):=by rw[List.getElem?_eq_getElem hp,hwd]
 obtain⟨h1,h2⟩:=KF hlow (Nat.mod_lt _ (by decide))
 exact⟨_,hg,h1,hu.set _ h2,by omega⟩
theorem F0{qs:List Int}(hu:cP qs){i m:Nat}(hp:i / 32<qs.length)(hv:aN qs=2^(i+1)*m):
  ∃z:Nat,qs[i / 32]?=some (z:Int)/\IntKind.u32.wrap (((BitVec.ofInt IntKind.u32.bits (z:Int) ||| BitVec.ofInt IntKind.u32.bits (IntKind.u32.wrap (1*2^(i%32)))).toNat:Nat):Int)=((z+2^(i%32):Nat):Int)/\
   cP (qs.set (i / 32) ((z+2^(i%32):Nat):Int))/\aN (qs.set (i / 32) ((z+2^(i%32):Nat):Int))=2^i*(2*m+1):=by
 have hk:i%32<32:=Nat.mod_lt _ (by decide)
 have hwd:=xa hu hp
 have hz:aN qs / W^(i / 32)%W<4294967296:=Nat.mod_lt _ ft
 have hlow:aN qs / W^(i / 32)%W%2^(i%32+1)=0:=yu (q:=i / 32) (m:=m) hk (by rw[Nat.div_add_mod];exact hv)
 have hval:=jn qs (i / 32) ((aN qs / W^(i / 32)%W+2^(i%32):Nat):Int) hp
 rw[hwd,Int.toNat_natCast,Int.toNat_natCast,Nat.mul_add,xo (i / 32) (i%32),Nat.div_add_mod]at hval
 have hg:qs[i / 32]?=some ((aN qs / W^(i / 32)%W:Nat):Int):=by rw[List.getElem?_eq_getElem hp,hwd]
 obtain⟨h1,h2⟩:=KE hz hk hlow
 refine⟨_,hg,h1,hu.set _ h2,?_⟩
 have:2^(i+1)=2*2^i:=by rw[Nat.pow_succ,Nat.mul_comm]
 have e:2^i*(2*m+1)=2^(i+1)*m+2^i:=by rw[this,Nat.mul_add,Nat.mul_one,<-Nat.mul_assoc,Nat.mul_comm (2^i) 2]
 rw[e];omega
def K7(b:Bool)(x n L i:Nat)(out:List Int):Task:=
 Task.at_ 102 0 [false,true,false,true,true] (sv 53 [(0,V.d (D.l b (ws x))),(1,V.d (D.i .i64 (n:Int))),(5,V.m 0 0 L),(6,V.d (D.i .i64 (i:Int)))]) [] [Ob.cells (cellsOf out) []]
theorem DH(b:Bool)(x n:Nat)(hx:Fits x)(hn:n<=100000)(L:Nat)(hL:L=(aK x).length+n / 32+1):∀(d i:Nat) (out:List Int),i+d=32*(aK x).length->cP out->out.length=L->aN out=x%2^i*2^n->
  rk Tryz.prog aE (K7 b x n L i out)=some (.d (.l (nb (x*2^n)) (ws (x*2^n))),[]):=by
 have lx:=hx.len
 have hw0:IntKind.i64.wrap (32*((aK x).length:Int))=((32*(aK x).length:Nat):Int):=by rw[wrap_i64]<;>omega
 intro d
 induction d with
 |zero=>
  intro i out hi hu hl hv
  have hxl:x<2^i:=by rw[show i=32*(aK x).length by omega,<-kb];exact ek x
  rw[Nat.mod_eq_of_lt hxl]at hv
  have hc:=pM out hu (by omega)
  rw[hl,hv,jG]at hc
  unfold K7
  rw[xZ,cM,hw0,bc (by omega),cE hc,gF,fp,beq_self_eq_true,ba,show (([]:Fl)==[])=true from rfl,ba,iv];rfl
 |succ d ih=>
  intro i out hi hu hl hv
  have hw1:IntKind.i64.wrap ((i:Int)+1)=((i+1:Nat):Int):=by rw[wrap_i64]<;>omega
  have hw2:IntKind.i64.wrap ((i:Int)+(n:Int))=((i+n:Nat):Int):=by rw[wrap_i64]<;>omega
  have hms:x%2^(i+1)=x%2^i+2^i*(x / 2^i%2):=by rw[Nat.pow_succ,Nat.mod_mul]
  have hlow:x%2^i*2^n<2^(i+n):=by rw[Nat.pow_add];exact Nat.mul_lt_mul_of_pos_right (Nat.mod_lt _ (Nat.pow_pos (by decide))) (Nat.pow_pos (by decide))
  unfold K7 at ih⊢
  rw[xZ,cM,hw0,bf (by omega),de (rh b x i (by omega))]
  rcases Nat.mod_two_eq_zero_or_one (x / 2^i)with h|h
  ·rw[h,bO (by decide),aA,r7,aY,hw1,aA]
   exact ih (i+1) out (by omega) hu hl (by rw[hms,h,Nat.mul_zero,Nat.add_zero];exact hv)
  ·have hq:(i+n) / 32<out.length:=by omega
   obtain⟨z,z1,z2,z3,z4⟩:=H3 hu hq (by rw[hv];exact hlow)
   have ht1:((i+n:Nat):Int).tdiv 32=(((i+n) / 32:Nat):Int):=dH (i+n) 32
   have ht2:((i+n:Nat):Int).tmod 32=(((i+n)%32:Nat):Int):=ia (i+n) 32
   have hw3:IntKind.i64.wrap (((i+n) / 32:Nat):Int)=(((i+n) / 32:Nat):Int):=by rw[wrap_i64]<;>omega
   have hmin:min ((i+n)%32) 32=(i+n)%32:=by omega
   have hb1:(0:Int)<=(((i+n) / 32:Nat):Int)/\(((i+n) / 32:Nat):Int)<(L:Int):=by omega
   have hb2:0+(i+n) / 32<(cellsOf out).length:=by rw[dp];omega
   have hg:(cellsOf out)[0+(i+n) / 32]?=some (V.d (D.i .u32 (z:Int))):=by rw[Nat.zero_add,cw,z1];rfl
   rw[h,cm (by decide),hw2,aA,show decide (((i+n:Nat):Int) ≥ 0)=true from decide_eq_true (by omega),r7,bk,hw2,ht1,hw3,aH hb1,Int.toNat_natCast,aJ hg,bj,bL,ht2,aH (by omega),aH hb1,Bool.and_true,aH hb2,Int.toNat_natCast,hmin,z2,hw1,Nat.zero_add,ff,aA]
   exact ih (i+1) _ (by omega) z3 (by simpa using hl) (by rw[z4,hv,hms,h,Nat.mul_one,Nat.add_mul,Nat.pow_add])
theorem ri(b:Bool)(x n:Nat)(hx:Fits x)(hn:n<=100000):rk Tryz.prog aE (Task.call 102 [V.d (D.l b (ws x)),V.d (D.i .i64 (n:Int))] [])=some (.d (.l (nb (x*2^n)) (ws (x*2^n))),[]):=by
 have lx:=hx.len
 have e1:(if (0:Int)>(n:Int)then 0 else(n:Int))=(n:Int):=if_neg (by omega)
 have e2:(n:Int).tdiv 32=((n / 32:Nat):Int):=dH n 32
 have w1:IntKind.i64.wrap ((n / 32:Nat):Int)=((n / 32:Nat):Int):=by rw[wrap_i64]<;>omega
 have w2:IntKind.i64.wrap (((aK x).length:Int)+((n / 32:Nat):Int))=(((aK x).length+n / 32:Nat):Int):=by rw[wrap_i64]<;>omega
 have w3:IntKind.i64.wrap ((((aK x).length+n / 32:Nat):Int)+1)=(((aK x).length+n / 32+1:Nat):Int):=by rw[wrap_i64]<;>omega
 have h:=DH b x n hx hn _ rfl (32*(aK x).length) 0 (List.replicate ((aK x).length+n / 32+1) 0) (by omega) (fun z hz=>by rw[List.mem_replicate]at hz;omega) (by simp) (by rw[eG,Nat.pow_zero,Nat.mod_one,Nat.zero_mul])
 unfold K7 at h
 rw[<-eF,Int.natCast_zero]at h
 rw[f40,cM,e1,e2,w1,w2,w3,aH (by omega),aH rfl,aH (by omega),Int.toNat_natCast,aA]
 exact h
def HR(bx by_:Bool)(x y n:Nat)(br:Bool)(r:Nat)(i:Int)(fl:List (Nat×Nat))(qs:List Int):Task:=
 Task.at_ 107 0 [false,true,false,true,true,true,true] (sv 60 [(0,V.d (D.l bx (ws x))),(1,V.d (D.l by_ (ws y))),(7,V.m 0 0 n),(8,V.d (D.l br (ws r))),(9,V.d (D.i .i64 i))]) fl [Ob.cells (cellsOf qs) []]
theorem DB(bx by_ br:Bool)(x y n r i:Nat)(fl:List (Nat×Nat))(hfl:fl=[(8,1)]\/fl=[])(qs:List Int)(hy:Fits y)(hr:Fits r)(hr2:Fits (r+r))(hr3:Fits (r+r+x / 2^i%2))(hn:n=qs.length)(hi:i<32*n)(hn2:n<=100000)(hu:cP qs)(m:Nat)(hv:aN qs=2^(i+1)*m):
  (r+r+x / 2^i%2<y->rk Tryz.prog aE (HR bx by_ x y n br r (i:Int) fl qs)=rk Tryz.prog aE (HR bx by_ x y n (nb (r+r+x / 2^i%2)) (r+r+x / 2^i%2) ((i:Int)-1) [] qs))/\
  (y<=r+r+x / 2^i%2->∃qs',cP qs'/\qs'.length=n/\aN qs'=2^i*(2*m+1)/\rk Tryz.prog aE (HR bx by_ x y n br r (i:Int) fl qs)=rk Tryz.prog aE (HR bx by_ x y n (nb (r+r+x / 2^i%2-y)) (r+r+x / 2^i%2-y) ((i:Int)-1) [] qs')):=by
 have a1:=kE br br r r hr hr
 have a2:=rh bx x i (by omega)
 have a3:=sQ (x / 2^i%2) (Nat.lt_trans (Nat.mod_lt _ (by decide)) (by decide))
 have a4:=kE (nb (r+r)) (nb (x / 2^i%2)) (r+r) (x / 2^i%2) hr2 (wc.le (by omega))
 have a5:=HZ (nb (r+r+x / 2^i%2)) by_ (r+r+x / 2^i%2) y hr3 hy
 have w1:IntKind.i64.wrap ((i:Int)-1)=(i:Int)-1:=by rw[wrap_i64]<;>omega
 constructor
 ·intro h
  rw[if_pos h]at a5
  unfold HR
  rcases hfl with rfl|rfl
  ·rw[pE,bf (by omega),di a1,de a2,di a3,di a4,Ck a5,aY,aA,kn,w1,aA]
  ·rw[lp,bf (by omega),di a1,de a2,di a3,di a4,Ck a5,aY,aA,kn,w1,aA]
 ·intro h
  rw[if_neg (by omega)]at a5
  have hq:i / 32<qs.length:=by omega
  obtain⟨z,z1,z2,z3,z4⟩:=F0 hu hq hv
  have ht1:(i:Int).tdiv 32=((i / 32:Nat):Int):=dH i 32
  have ht2:(i:Int).tmod 32=((i%32:Nat):Int):=ia i 32
  have hw:IntKind.i64.wrap ((i / 32:Nat):Int)=((i / 32:Nat):Int):=by rw[wrap_i64]<;>omega
  have hmin:min (i%32) 32=i%32:=by omega
  have hb1:(0:Int)<=((i / 32:Nat):Int)/\((i / 32:Nat):Int)<(n:Int):=by omega
  have hb2:0+i / 32<(cellsOf qs).length:=by rw[dp];omega
  have hg:(cellsOf qs)[0+i / 32]?=some (V.d (D.i .u32 (z:Int))):=by rw[Nat.zero_add,cw,z1];rfl
  refine⟨_,z3,by simp[hn],z4,?_⟩
  unfold HR
  rcases hfl with rfl|rfl
  ·rw[pE,bf (by omega),di a1,de a2,di a3,di a4,Ck a5,bk,ht1,hw,aH hb1,Int.toNat_natCast,aJ hg,bj,bL,ht2,aH (by omega),aH hb1,Bool.and_true,aH hb2,Int.toNat_natCast,hmin,z2,Nat.zero_add,ff,aA,kn,w1,aA]
  ·rw[lp,bf (by omega),di a1,de a2,di a3,di a4,Ck a5,bk,ht1,hw,aH hb1,Int.toNat_natCast,aJ hg,bj,bL,ht2,aH (by omega),aH hb1,Bool.and_true,aH hb2,Int.toNat_natCast,hmin,z2,Nat.zero_add,ff,aA,kn,w1,aA]
theorem DA(bx by_:Bool)(x y:Nat)(hx:Fits x)(hy:Fits (y*2))(hy0:0<y)(n:Nat)(hnl:n=(aK x).length+1):∀(i:Nat) (fl:List (Nat×Nat)) (r:Nat) (qs:List Int),(fl=[(8,1)]\/fl=[])->i<=32*(aK x).length->r=x / 2^i%y->aN qs=2^i*(x / 2^i / y)->cP qs->qs.length=n->
  rk Tryz.prog aE (HR bx by_ x y n (nb r) r ((i:Int)-1) fl qs)=some (.t [.d (.l (nb (x / y)) (ws (x / y))),.d (.l (nb (x%y)) (ws (x%y))),.d (.b true)],[]):=by
 have lx:=hx.len
 intro i
 induction i with
 |zero=>
  intro fl r qs hfl hi hr hv hu hl
  rw[Nat.pow_zero,Nat.div_one]at hr
  rw[Nat.pow_zero,Nat.div_one,Nat.one_mul]at hv
  have hc:=pM qs hu (by omega)
  rw[hl,hv,jG]at hc
  unfold HR
  rw[hr]
  rcases hfl with rfl|rfl
  ·rw[pE,bc (by omega),cE hc,gF,fp,beq_self_eq_true,ba,show (([]:Fl)==[])=true from rfl,ba,iv];rfl
  ·rw[lp,bc (by omega),cE hc,gF,fp,beq_self_eq_true,ba,show (([]:Fl)==[])=true from rfl,ba,iv];rfl
 |succ i ih=>
  intro fl r qs hfl hi hr hv hu hl
  have hry:r<y:=by rw[hr];exact Nat.mod_lt _ hy0
  have e:(((i+1:Nat):Int)-1)=(i:Int):=by omega
  have hb:=Nat.mod_two_eq_zero_or_one (x / 2^i)
  have fr:Fits r:=hy.le (by omega)
  have fr2:Fits (r+r):=hy.le (by omega)
  have fr1:Fits (r+r+x / 2^i%2):=hy.le (by omega)
  have hX:x / 2^i=2*(x / 2^(i+1))+x / 2^i%2:=by
   rw[Nat.pow_succ,<-Nat.div_div_eq_div_mul]
   have:=Nat.div_add_mod (x / 2^i) 2
   omega
  have hdm:=Nat.div_add_mod (x / 2^(i+1)) y
  rw[<-hr]at hdm
  have hXY:x / 2^i=y*(2*(x / 2^(i+1) / y))+(r+r+x / 2^i%2):=by
   have:y*(2*(x / 2^(i+1) / y))=2*(y*(x / 2^(i+1) / y)):=by rw[Nat.mul_left_comm]
   omega
  rw[e]
  have hm:=DB bx by_ (nb r) x y n r i fl hfl qs (hy.le (by omega)) fr fr2 fr1 hl.symm (by omega) (by omega) hu (x / 2^(i+1) / y) hv
  by_cases hlt:r+r+x / 2^i%2<y
  ·rw[hm.1 hlt]
   have hq:x / 2^i / y=2*(x / 2^(i+1) / y):=by
    conv=>lhs;rw[hXY]
    rw[Nat.mul_add_div hy0,Nat.div_eq_of_lt hlt,Nat.add_zero]
   have hrr:x / 2^i%y=r+r+x / 2^i%2:=by
    conv=>lhs;rw[hXY]
    rw[Nat.mul_add_mod,Nat.mod_eq_of_lt hlt]
   refine ih [] _ qs (Or.inr rfl) (by omega) hrr.symm ?_ hu hl
   rw[hv,hq,Nat.pow_succ,Nat.mul_assoc]
  ·obtain⟨qs',u1,u2,u3,u4⟩:=hm.2 (by omega)
   rw[u4]
   have hq:x / 2^i / y=2*(x / 2^(i+1) / y)+1:=by
    conv=>lhs;rw[hXY]
    have hd1:(r+r+x / 2^i%2) / y=1:=Nat.div_eq_of_lt_le (by omega) (by omega)
    rw[Nat.mul_add_div hy0,hd1]
   have hrr:x / 2^i%y=r+r+x / 2^i%2-y:=by
    conv=>lhs;rw[hXY]
    rw[Nat.mul_add_mod,Nat.mod_eq_sub_mod (by omega),Nat.mod_eq_of_lt (by omega)]
   refine ih [] _ qs' (Or.inr rfl) (by omega) hrr.symm ?_ u1 u2
   rw[u3,hq]
theorem Cb(b c:Bool)(x y:Nat)(hx:Fits x)(hy:Fits (y*2))(hy0:0<y):rk Tryz.prog aE (Task.call 107 [V.d (D.l b (ws x)),V.d (D.l c (ws y))] [])=some (.t [.d (.l (nb (x / y)) (ws (x / y))),.d (.l (nb (x%y)) (ws (x%y))),.d (.b true)],[]):=by
 have lx:=hx.len
 have hyl:(aK y).length≠0:=fun e=>by
  have:=(dJ y).1 (List.length_eq_zero_iff.1 e);omega
 have w1:IntKind.i64.wrap (((aK x).length:Int)+1)=(((aK x).length+1:Nat):Int):=by rw[wrap_i64]<;>omega
 have w2:IntKind.i64.wrap (32*((aK x).length:Int))=((32*(aK x).length:Nat):Int):=by rw[wrap_i64]<;>omega
 have w3:IntKind.i64.wrap (((32*(aK x).length:Nat):Int)-1)=((32*(aK x).length:Nat):Int)-1:=by rw[wrap_i64]<;>omega
 have hx0:x / 2^(32*(aK x).length)=0:=Nat.div_eq_of_lt (by rw[<-kb];exact ek x)
 have h:=DA b c x y hx hy hy0 _ rfl (32*(aK x).length) [(8,1)] 0 (List.replicate ((aK x).length+1) 0) (Or.inl rfl) (Nat.le_refl _) (by rw[hx0,Nat.zero_mod]) (by rw[hx0,Nat.zero_div,Nat.mul_zero,eG]) (fun z hz=>by rw[List.mem_replicate]at hz;omega) (by simp)
 unfold HR at h
 rw[<-eF,o9]at h
 rw[f43,di (qg c y (hy.le (by omega))),cM,cM,bO (by omega),w1,w2,w3,aH (by omega),aH rfl,aH (by omega),Int.toNat_natCast,aA]
 exact h
end Go.Dn.Dec
namespace Go.Dn.Dec
open Go.Proofs
set_option exponentiation.threshold 5000000
section
variable {f : Task → Option Out}
theorem F5{t:Task}{b c z:Bool}{l m:List D}{e e' e'':V}{K:Bool->List D->Bool->List D->Bool->Tr}(h:f t=some (.t [.d (.l b l),.d (.l c m),.d (.b z)],[])):
  aC f (.call t fun o=>aM o.snd.isEmpty (dY o.fst fun l=>aM (l.length==3) (aW (l.getD 0 e) fun d=>dZ d fun x y=>aW (l.getD 1 e') fun d'=>dZ d' fun u v=>aW (l.getD 2 e'') fun d''=>dQ d'' fun w=>K x y u v w)))=aC f (K b l c m z):=cE h
end
end Go.Dn.Dec
namespace Go.Dn.Dec
structure Tok where
 kind:Nat
 text:List UInt8
 n:Int
 d:Nat
 at_:Nat
def Ea(c:UInt8):Bool:=c==9||c==10||c==13||c==32
def ns(c:UInt8):Bool:=c==95||(decide (97<=c.toNat)&&decide (c.toNat<=122))||(decide (65<=c.toNat)&&decide (c.toNat<=90))
def cX(c:UInt8):Bool:=aG c||(decide (97<=c.toNat)&&decide (c.toNat<=102))||(decide (65<=c.toNat)&&decide (c.toNat<=70))
def du(c:UInt8):Bool:=ns c||aG c||c==46
def ij(r:List UInt8):Nat:=if r.dropWhile (· != 10)=[]then r.length else(r.takeWhile (· != 10)).length+1
def mZ:List UInt8->Option Nat
 | []=>none
 |c::r=>if c=42/\r.head?=some 47 then some 2 else(mZ r).map (· + 1)
def gv:Nat->List UInt8->Nat->Nat×Bool
 |0,_,k=>(k,true)
 |f+1,r,k=>match r with
  | []=>(k,true)
  |c::q=>
   if Ea c=true then gv f q (k+1)
   else if c=35\/(c=47/\q.head?=some 47)then gv f (r.drop (ij r)) (k+ij r)
   else if c=47/\q.head?=some 42 then
    match mZ (q.drop 1) with
    |none=>(k,false)
    |some n=>gv f (r.drop (2+n)) (k+(2+n))
   else(k,true)
abbrev Cz:=(Tok×Nat) ⊕ (Int×Nat)
def mw:List UInt8->Bool
 | []=>false
 |c::r=>(c==46&&r.head?==some 46)||mw r
def uP(r:List UInt8)(at_:Nat):Cz:=
 let w:=r.takeWhile du
 if 120<w.length then .inr (4,at_)
 else if w.getLast?=some 46\/mw w=true then .inr (2,at_)
 else .inl (⟨1,w,0,0,at_⟩,w.length)
def nX(r:List UInt8)(n at_:Nat)(t:Tok):Cz:=
 match r.drop n with
 | [] => .inl (t,n)
 |c::_=>if (ns c||c==46)=true then .inr (2,at_+n)else .inl (t,n)
def wk(r:List UInt8)(at_:Nat):Cz:=
 let h:=(r.drop 2).takeWhile cX
 if 16<h.length then .inr (4,at_)
 else if 2^63<=fN h then .inr (5,at_)
 else nX r (2+h.length) at_ ⟨2,[],(fN h:Int),0,at_⟩
def cH(t:List UInt8):Nat:=
 match t with
 |c::d::q=>if c=46/\aG d=true then 1+((d::q).takeWhile aG).length else 0
 |_=>0
def gX(q:List UInt8):Nat:=
 match q with
 |d::_=>if d=43\/d=45 then 2 else 1
 | []=>1
def dP(t:List UInt8):Nat:=
 match t with
 | []=>0
 |c::q=>if c=101\/c=69 then(if ((t.drop (gX q)).takeWhile aG)=[]then 0 else gX q+((t.drop (gX q)).takeWhile aG).length)else 0
def fu(r:List UInt8):Nat:=
 match r with
 |c::_=>if c=43\/c=45 then 1 else 0
 | []=>0
def eE(neg:Bool)(v:Nat):Int×Bool:=if neg=true then(-(v:Int),decide (v<=2^63)) else((v:Int),decide (v<2^63))
def wH(r:List UInt8)(at_:Nat):Cz:=
 let sg:=fu r
 let u:=r.drop sg
 if sg=0/\r.head?=some 48/\(r.drop 1).head?=some 120/\((r.drop 2).takeWhile cX)≠[]then wk r at_
 else if u.takeWhile aG=[]/\cH u=0 then .inr (2,at_)
 else
  let ds:=u.takeWhile aG
  let a:=cH (u.drop ds.length)
  let b:=dP (u.drop (ds.length+a))
  let n:=sg+(ds.length+(a+b))
  if a=0/\b=0 then
   let v:=eE (r.head?==some 45) (cy ds)
   if 60<ds.length then .inr (4,at_)
   else if v.2=false then .inr (5,at_)
   else nX r n at_ ⟨2,[],v.1,0,at_⟩
  else
   let p:=dc (r.take n)
   if p.2≠0 then .inr (p.2,at_)else nX r n at_ ⟨3,[],0,p.1,at_⟩
def qL(q:UInt8)(r:List UInt8)(at_:Nat):Cz:=
 let t:=r.takeWhile (· != q)
 if r.dropWhile (· != q)=[]\/t.contains 10=true then .inr (2,at_)
 else .inl (⟨4,t,0,0,at_⟩,t.length+2)
def eD:List UInt8:=[123,125,40,41,91,93,60,62,44,59,58,61,42]
def jo(r:List UInt8)(at_:Nat):Cz:=
 match r with
 | [] => .inr (2,at_)
 |c::q=>
  if ns c=true then uP r at_
  else if aG c=true\/c=43\/c=45\/c=46 then wH r at_
  else if c=34\/c=39 then qL c q at_
  else if eD.contains c=true then .inl (⟨5,[c],0,0,at_⟩,1)
  else .inr (2,at_)
abbrev Lh:=List Tok×Int×Nat
def wy:Nat->List UInt8->Nat->List Tok->Lh
 |0,_,_,_=>([],0,0)
 |f+1,r,at_,l=>
  match gv r.length r 0 with
  |(k,false)=>([],2,at_+k)
  |(k,true)=>
   if r.length<=k then(l++[⟨6,[],0,0,at_+r.length⟩],0,0)
   else match jo (r.drop k) (at_+k) with
    | .inr (e,w)=>([],e,w)
    | .inl (t,n)=>wy f (r.drop (k+n)) (at_+k+n) (l++[t])
def lexB(s:List UInt8):Lh:=if 2000<s.length then([],4,0)else wy (s.length+1) s 0 []
end Go.Dn.Dec
namespace Go.Dn.Dec
open Go.Proofs
theorem t41(n:Int)(s:List UInt8)(a e w:Int)(b:Bool)(l:List D):rk Tryz.prog aE (.call 86 [.p 0 0,vi n] [.cells [vs s,vi a,vi e,vi w,vl b l] [(4,5)]])=aC (rk Tryz.prog aE) (aT (decide (IntKind.i64.wrap (a+n) ≥ (s.length:Int))) (.ret (.d (.i .u8 0),[.cells [vs s,vi a,vi e,vi w,vl b l] [(4,5)]])) (ob (bh s (IntKind.i64.wrap (a+n))) fun c => .ret (.d (.i .u8 (c.toNat:Int)),[.cells [vs s,vi a,vi e,vi w,vl b l] [(4,5)]]))):=
 aF (by kernel_rfl)
theorem t42(t s:List UInt8)(a e w:Int)(b:Bool)(l:List D):rk Tryz.prog aE (.call 87 [.p 0 0,vs t] [.cells [vs s,vi a,vi e,vi w,vl b l] [(4,5)]])=aC (rk Tryz.prog aE) (aM (decide (0<=a/\a<=(s.length:Int))) (cV (.call 123 [vs (List.take (s.length-a.toNat) (List.drop a.toNat s)),vs t] []) fun c=>aW c fun f=>bD .i64 f fun g=>aT (decide (g<0)) (.ret (vb false,[.cells [vs s,vi a,vi e,vi w,vl b l] [(4,5)]])) (.ret (vb true,[.cells [vs s,vi (IntKind.i64.wrap (a+IntKind.i64.wrap (g+(t.length:Int)))),vi e,vi w,vl b l] [(4,5)]])))):=
 aF (by kernel_rfl)
theorem t43(n m:Int)(s:List UInt8)(a e w:Int)(b:Bool)(l:List D):rk Tryz.prog aE (.call 88 [.p 0 0,vi n,vi m] [.cells [vs s,vi a,vi e,vi w,vl b l] [(4,5)]])=aC (rk Tryz.prog aE) (aT (e==0) (.ret (.t [],[.cells [vs s,vi a,vi n,vi m,vl b l] [(4,5)]])) (.ret (.t [],[.cells [vs s,vi a,vi e,vi w,vl b l] [(4,5)]]))):=
 aF (by kernel_rfl)
theorem t44(c:Int):rk Tryz.prog aE (.call 89 [.d (.i .u8 c)] [])=aC (rk Tryz.prog aE) (aT (c==95) (.ret (vb true,[])) (aT (decide (c ≥ 97)) (aT (decide (c<=122)) (.ret (vb true,[])) (aT (decide (c ≥ 65)) (.ret (vb (decide (c<=90)),[])) (.ret (vb false,[])))) (aT (decide (c ≥ 65)) (.ret (vb (decide (c<=90)),[])) (.ret (vb false,[]))))):=
 aF (by kernel_rfl)
theorem t46(c:Int):rk Tryz.prog aE (.call 91 [.d (.i .u8 c)] [])=aC (rk Tryz.prog aE) (aT (decide (c ≥ 48)) (.ret (vb (decide (c<=57)),[])) (.ret (vb false,[]))):=
 aF (by kernel_rfl)
theorem t82(c:Int):rk Tryz.prog aE (.call 139 [.d (.i .u8 c)] [])=aC (rk Tryz.prog aE) (cV (.call 91 [.d (.i .u8 c)] []) fun a=>aW a fun e=>dQ e fun f=>aT f (.ret (vb true,[])) (aT (decide (c ≥ 97)) (aT (decide (c<=102)) (.ret (vb true,[])) (aT (decide (c ≥ 65)) (.ret (vb (decide (c<=70)),[])) (.ret (vb false,[])))) (aT (decide (c ≥ 65)) (.ret (vb (decide (c<=70)),[])) (.ret (vb false,[]))))):=
 aF (by kernel_rfl)
theorem t80(c:Int):rk Tryz.prog aE (.call 137 [.d (.i .u8 c)] [])=aC (rk Tryz.prog aE) (cV (.call 89 [.d (.i .u8 c)] []) fun a=>aW a fun e=>dQ e fun f=>aT f (.ret (vb true,[])) (cV (.call 91 [.d (.i .u8 c)] []) fun g=>aW g fun h=>dQ h fun j=>aT j (.ret (vb true,[])) (.ret (vb (c==46),[])))):=
 aF (by kernel_rfl)
theorem LY(s:List UInt8)(a e w:Int)(b:Bool)(l:List D):rk Tryz.prog aE (.call 136 [.p 0 0,.f 137 []] [.cells [vs s,vi a,vi e,vi w,vl b l] [(4,5)]])=aC (rk Tryz.prog aE) (.call (.at_ 136 1 [false] (sv 34 [(0,.p 0 0),(1,.f 137 [])]) [] [.cells [vs s,vi a,vi e,vi w,vl b l] [(4,5)]]) .ret):=
 aF (by kernel_rfl)
theorem LW(s:List UInt8)(a e w:Int)(b:Bool)(l:List D):rk Tryz.prog aE (.call 136 [.p 0 0,.f 91 []] [.cells [vs s,vi a,vi e,vi w,vl b l] [(4,5)]])=aC (rk Tryz.prog aE) (.call (.at_ 136 1 [false] (sv 34 [(0,.p 0 0),(1,.f 91 [])]) [] [.cells [vs s,vi a,vi e,vi w,vl b l] [(4,5)]]) .ret):=
 aF (by kernel_rfl)
theorem LX(s:List UInt8)(a e w:Int)(b:Bool)(l:List D):rk Tryz.prog aE (.call 136 [.p 0 0,.f 139 []] [.cells [vs s,vi a,vi e,vi w,vl b l] [(4,5)]])=aC (rk Tryz.prog aE) (.call (.at_ 136 1 [false] (sv 34 [(0,.p 0 0),(1,.f 139 [])]) [] [.cells [vs s,vi a,vi e,vi w,vl b l] [(4,5)]]) .ret):=
 aF (by kernel_rfl)
theorem t20(s:List UInt8)(a e w:Int)(b:Bool)(l:List D):rk Tryz.prog aE (.call 43 [.p 0 0] [.cells [vs s,vi a,vi e,vi w,vl b l] [(4,5)]])=aC (rk Tryz.prog aE) (aT (decide (a ≥ (s.length:Int))) (.ret (vb false,[.cells [vs s,vi a,vi e,vi w,vl b l] [(4,5)]])) (ob (bh s a) fun c=>cV (.call 85 [vs [9,10,13,32],.d (.i .u8 (c.toNat:Int))] []) fun f=>aW f fun g=>bD .i64 g fun h=>aT (decide (h ≥ 0)) (.ret (vb true,[.cells [vs s,vi (IntKind.i64.wrap (a+1)),vi e,vi w,vl b l] [(4,5)]])) (ob (bh s a) fun j=>aT ((j.toNat:Int)==35) (.call (.at_ 43 1 [true,true,true,true,true,false,false,true,true] (sv 106 [(0,.p 0 0),(3,vi a),(38,vb true)]) [] [.cells [vs s,vi a,vi e,vi w,vl b l] [(4,5)]]) .ret) (ob (bh s a) fun k=>aT ((k.toNat:Int)==47) (c1 (.call 86 [.p 0 0,vi 1] [.cells [vs s,vi a,vi e,vi w,vl b l] [(4,5)]]) 5 [(4,5)] fun m n=>aW m fun o=>bD .u8 o fun q => .call (.at_ 43 1 [true,true,true,true,true,false,false,true,true] (sv 106 [(0,.p 0 0),(3,vi a),(38,vb (q==47))]) [] [.cells n [(4,5)]]) .ret) (.call (.at_ 43 1 [true,true,true,true,true,false,false,true,true] (sv 106 [(0,.p 0 0),(3,vi a),(38,vb false)]) [] [.cells [vs s,vi a,vi e,vi w,vl b l] [(4,5)]]) .ret))))):=
 aF (by kernel_rfl)
theorem t45(s:List UInt8)(a e w:Int)(b:Bool)(l:List D):rk Tryz.prog aE (.call 90 [.p 0 0] [.cells [vs s,vi a,vi e,vi w,vl b l] [(4,5)]])=aC (rk Tryz.prog aE) (c1 (.call 136 [.p 0 0,.f 137 []] [.cells [vs s,vi a,vi e,vi w,vl b l] [(4,5)]]) 5 [(4,5)] fun c g=>dY c fun h=>aM (h.length==0) (ob g[0]? fun j=>aW j fun k=>fF k fun m=>ob g[1]? fun n=>aW n fun o=>bD .i64 o fun q=>aM (decide (0<=q/\q<=(m.length:Int))) (aM (decide (0<=a/\a<=(q.toNat:Int))) (aT (decide (((List.take (q.toNat-a.toNat) (List.drop a.toNat m)).length:Int)>120)) (c1 (.call 88 [.p 0 0,vi 4,vi a] [.cells g [(4,5)]]) g.length [(4,5)] fun r t=>dY r fun zu=>aM (zu.length==0) (.call (.at_ 90 1 [true,true,true,true] (sv 58 [(0,.p 0 0),(2,vi a),(3,vs (List.take (q.toNat-a.toNat) (List.drop a.toNat m)))]) [] [.cells t [(4,5)]]) .ret)) (cV (.call 138 [vs (List.take (q.toNat-a.toNat) (List.drop a.toNat m)),vs [46]] []) fun v=>aW v fun x=>dQ x fun y=>aT y (.call (.at_ 90 1 [true,true,true,false,false,true,true,true] (sv 58 [(0,.p 0 0),(2,vi a),(3,vs (List.take (q.toNat-a.toNat) (List.drop a.toNat m))),(34,vb true)]) [] [.cells g [(4,5)]]) .ret) (cV (.call 57 [vs (List.take (q.toNat-a.toNat) (List.drop a.toNat m)),vs [46,46]] []) fun z=>aW z fun a0=>dQ a0 fun a1 => .call (.at_ 90 1 [true,true,true,false,false,true,true,true] (sv 58 [(0,.p 0 0),(2,vi a),(3,vs (List.take (q.toNat-a.toNat) (List.drop a.toNat m))),(34,vb a1)]) [] [.cells g [(4,5)]]) .ret)))))):=
 aF (by kernel_rfl)
theorem t84(s:List UInt8)(a e w:Int)(b:Bool)(l:List D):rk Tryz.prog aE (.call 141 [.p 0 0] [.cells [vs s,vi a,vi e,vi w,vl b l] [(4,5)]])=aC (rk Tryz.prog aE) (c1 (.call 86 [.p 0 0,vi 0] [.cells [vs s,vi a,vi e,vi w,vl b l] [(4,5)]]) 5 [(4,5)] fun c f=>aW c fun g=>bD .u8 g fun h=>cV (.call 89 [.d (.i .u8 h)] []) fun j=>aW j fun k=>dQ k fun m=>aT m (.call (.at_ 141 1 [true,true] (sv 22 [(0,.p 0 0),(12,vb true)]) [] [.cells f [(4,5)]]) .ret) (.call (.at_ 141 1 [true,true] (sv 22 [(0,.p 0 0),(12,vb (h==46))]) [] [.cells f [(4,5)]]) .ret)):=
 aF (by kernel_rfl)
theorem t83(n:Int)(s:List UInt8)(a e w:Int)(b:Bool)(l:List D):rk Tryz.prog aE (.call 140 [.p 0 0,vi n] [.cells [vs s,vi a,vi e,vi w,vl b l] [(4,5)]])=aC (rk Tryz.prog aE) (c1 (.call 136 [.p 0 0,.f 139 []] [.cells [vs s,vi (IntKind.i64.wrap (a+2)),vi e,vi w,vl b l] [(4,5)]]) 5 [(4,5)] fun c g=>dY c fun h=>aM (h.length==0) (ob g[0]? fun j=>aW j fun k=>fF k fun m=>ob g[1]? fun o=>aW o fun q=>bD .i64 q fun r=>aM (decide (0<=r/\r<=(m.length:Int))) (aM (decide (0<=IntKind.i64.wrap (a+2)/\IntKind.i64.wrap (a+2)<=(r.toNat:Int))) (aT (decide (((List.take (r.toNat-(IntKind.i64.wrap (a+2)).toNat) (List.drop (IntKind.i64.wrap (a+2)).toNat m)).length:Int)>16)) (c1 (.call 88 [.p 0 0,vi 4,vi n] [.cells g [(4,5)]]) g.length [(4,5)] fun zu v=>dY zu fun x=>aM (x.length==0) (.call (.at_ 140 1 [true,true,true,true,true,true] (sv 71 [(0,.p 0 0),(1,vi n),(6,vu 0)]) [] [.cells v [(4,5)]]) .ret)) (cV (.call 182 [vs (List.take (r.toNat-(IntKind.i64.wrap (a+2)).toNat) (List.drop (IntKind.i64.wrap (a+2)).toNat m)),vi 16,vi 64] []) fun y=>dY y fun z=>aM (z.length==2) (aW (z.getD 0 (vb false)) fun a0=>bD .u64 a0 fun a1=>aM (mj (.t [vu a1,z.getD 1 (vb false)])==0) (.call (.at_ 140 1 [true,true,true,true,true,true] (sv 71 [(0,.p 0 0),(1,vi n),(6,vu a1)]) [] [.cells g [(4,5)]]) .ret))))))):=
 aF (by kernel_rfl)
theorem t85(s:List UInt8)(a e w:Int)(b:Bool)(l:List D):rk Tryz.prog aE (.call 142 [.p 0 0] [.cells [vs s,vi a,vi e,vi w,vl b l] [(4,5)]])=aC (rk Tryz.prog aE) (c1 (.call 86 [.p 0 0,vi 0] [.cells [vs s,vi a,vi e,vi w,vl b l] [(4,5)]]) 5 [(4,5)] fun c f=>aW c fun g=>bD .u8 g fun h=>aT (h==46) (c1 (.call 86 [.p 0 0,vi 1] [.cells f [(4,5)]]) f.length [(4,5)] fun j k=>aW j fun m=>bD .u8 m fun n=>cV (.call 91 [.d (.i .u8 n)] []) fun o=>aW o fun q=>dQ q fun r => .call (.at_ 142 1 [true,false,true,true] (sv 73 [(0,.p 0 0),(3,vb false),(18,vb r)]) [] [.cells k [(4,5)]]) .ret) (.call (.at_ 142 1 [true,false,true,true] (sv 73 [(0,.p 0 0),(3,vb false),(18,vb false)]) [] [.cells f [(4,5)]]) .ret)):=
 aF (by kernel_rfl)
theorem t86(s:List UInt8):rk Tryz.prog aE (.call 143 [vs s] [])=aC (rk Tryz.prog aE) (ob (bh s 0) fun a=>cV (.call 183 [vs s,vs [43,45]] []) fun c=>aW c fun e=>fF e fun f=>cV (.call 183 [vs f,vs [48]] []) fun g=>aW g fun h=>fF h fun j=>aT (decide ((j.length:Int)>19)) (.ret (.t [vi 0,vb false],[])) (.call (.at_ 143 0 [false,true,false,true,true,true,true,true] (sv 40 [(4,vb ((a.toNat:Int)==45)),(5,vs j),(6,vu 0),(18,.it 0)]) [] [.iter j 0]) .ret)):=
 aF (by kernel_rfl)
theorem t47(s:List UInt8)(a e w:Int)(b:Bool)(l:List D):rk Tryz.prog aE (.call 92 [.p 0 0] [.cells [vs s,vi a,vi e,vi w,vl b l] [(4,5)]])=aC (rk Tryz.prog aE) (ob (bh s a) fun c=>aT ((c.toNat:Int)==43) (.call (.at_ 92 1 [true,false,true] (sv 192 [(0,.p 0 0),(2,vi a),(42,vb true)]) [] [.cells [vs s,vi a,vi e,vi w,vl b l] [(4,5)]]) .ret) (ob (bh s a) fun f => .call (.at_ 92 1 [true,false,true] (sv 192 [(0,.p 0 0),(2,vi a),(42,vb ((f.toNat:Int)==45))]) [] [.cells [vs s,vi a,vi e,vi w,vl b l] [(4,5)]]) .ret)):=
 aF (by kernel_rfl)
theorem t48(s:List UInt8)(a e w:Int)(b:Bool)(l:List D):rk Tryz.prog aE (.call 93 [.p 0 0] [.cells [vs s,vi a,vi e,vi w,vl b l] [(4,5)]])=aC (rk Tryz.prog aE) (ob (bh s a) fun c=>aM (decide (0<=IntKind.i64.wrap (a+1)/\IntKind.i64.wrap (a+1)<=(s.length:Int))) (cV (.call 85 [vs (List.take (s.length-(IntKind.i64.wrap (a+1)).toNat) (List.drop (IntKind.i64.wrap (a+1)).toNat s)),.d (.i .u8 (c.toNat:Int))] []) fun f=>aW f fun g=>bD .i64 g fun h=>aT (decide (h<0)) (.call (.at_ 93 1 [true,false,true,true,true] (sv 100 [(0,.p 0 0),(2,vi a),(4,vi h),(60,vb true)]) [] [.cells [vs s,vi a,vi e,vi w,vl b l] [(4,5)]]) .ret) (aM (decide (0<=IntKind.i64.wrap (IntKind.i64.wrap (a+1)+h)/\IntKind.i64.wrap (IntKind.i64.wrap (a+1)+h)<=(s.length:Int))) (aM (decide (0<=IntKind.i64.wrap (a+1)/\IntKind.i64.wrap (a+1)<=((IntKind.i64.wrap (IntKind.i64.wrap (a+1)+h)).toNat:Int))) (cV (.call 85 [vs (List.take ((IntKind.i64.wrap (IntKind.i64.wrap (a+1)+h)).toNat-(IntKind.i64.wrap (a+1)).toNat) (List.drop (IntKind.i64.wrap (a+1)).toNat s)),.d (.i .u8 10)] []) fun j=>aW j fun k=>bD .i64 k fun m => .call (.at_ 93 1 [true,false,true,true,true] (sv 100 [(0,.p 0 0),(2,vi a),(4,vi h),(60,vb (decide (m ≥ 0)))]) [] [.cells [vs s,vi a,vi e,vi w,vl b l] [(4,5)]]) .ret))))):=
 aF (by kernel_rfl)
theorem t21(s:List UInt8)(a e w:Int)(b:Bool)(l:List D):rk Tryz.prog aE (.call 44 [.p 0 0] [.cells [vs s,vi a,vi e,vi w,vl b l] [(4,5)]])=aC (rk Tryz.prog aE) (ob (bh s a) fun c=>cV (.call 89 [.d (.i .u8 (c.toNat:Int))] []) fun f=>aW f fun g=>dQ g fun h=>aT h (c1 (.call 90 [.p 0 0] [.cells [vs s,vi a,vi e,vi w,vl b l] [(4,5)]]) 5 [(4,5)] fun j k=>dY j fun m=>aM (m.length==0) (.ret (.t [],[.cells k [(4,5)]]))) (cV (.call 91 [.d (.i .u8 (c.toNat:Int))] []) fun n=>aW n fun o=>dQ o fun q=>aT q (.call (.at_ 44 1 [true,true,true,false,true] (sv 85 [(0,.p 0 0),(2,.d (.i .u8 (c.toNat:Int))),(28,vb true)]) [] [.cells [vs s,vi a,vi e,vi w,vl b l] [(4,5)]]) .ret) (aT ((c.toNat:Int)==43) (.call (.at_ 44 1 [true,true,true,false,true] (sv 85 [(0,.p 0 0),(2,.d (.i .u8 (c.toNat:Int))),(28,vb true)]) [] [.cells [vs s,vi a,vi e,vi w,vl b l] [(4,5)]]) .ret) (aT ((c.toNat:Int)==45) (.call (.at_ 44 1 [true,true,true,false,true] (sv 85 [(0,.p 0 0),(2,.d (.i .u8 (c.toNat:Int))),(28,vb true)]) [] [.cells [vs s,vi a,vi e,vi w,vl b l] [(4,5)]]) .ret) (.call (.at_ 44 1 [true,true,true,false,true] (sv 85 [(0,.p 0 0),(2,.d (.i .u8 (c.toNat:Int))),(28,vb ((c.toNat:Int)==46))]) [] [.cells [vs s,vi a,vi e,vi w,vl b l] [(4,5)]]) .ret))))):=
 aF (by kernel_rfl)
theorem t10(s:List UInt8):rk Tryz.prog aE (.call 19 [vs s] [])=aC (rk Tryz.prog aE) (aT (decide ((s.length:Int)>2000)) (.ret (.t [vl true [],vi 4,vi 0],[])) (.call (.at_ 19 0 [false,true,true,true] (sv 72 [(0,vs s),(5,.p 0 0)]) [] [.cells [vs s,vi 0,vi 0,vi 0,vl true []] [(4,5)]]) .ret)):=
 aF (by kernel_rfl)
theorem t9:rk Tryz.prog aE (.call 18 [] [])=aC (rk Tryz.prog aE) (cV (.call 19 [vs [97,32,61,32,49]] []) fun a=>dY a fun c=>aM (c.length==3) (aW (c.getD 0 (vb false)) fun e=>dZ e fun f g=>aW (c.getD 1 (vb false)) fun h=>bD .i64 h fun i=>aW (c.getD 2 (vb false)) fun j=>bD .i64 j fun k=>cV (.call 19 [vs [97,32,63]] []) fun l=>dY l fun m=>aM (m.length==3) (aW (m.getD 0 (vb false)) fun n=>dZ n fun o p=>aW (m.getD 1 (vb false)) fun q=>bD .i64 q fun r=>aW (m.getD 2 (vb false)) fun t=>bD .i64 t fun zu=>aT (i==0) (aT ((g.length:Int)==4) (ob (bh g 2) fun v=>aM (v.width==5) (ob g[2]? fun w=>ob w.cells[2]? fun x=>bD .i64 x fun y=>aT (y==1) (ob (bh g 3) fun z=>aM (z.width==5) (ob g[3]? fun a0=>ob a0.cells[0]? fun a1=>bD .i64 a1 fun a2=>aT (a2==6) (aT (r==2) (.ret (vb (zu==2),[])) (.ret (vb false,[]))) (.ret (vb false,[])))) (.ret (vb false,[])))) (.ret (vb false,[]))) (.ret (vb false,[]))))):=
 aF (by kernel_rfl)
theorem Cm(l_0:List UInt8)(n_1 n_2 n_3:Int)(b_4:Bool)(l_5:List D):rk Tryz.prog aE (.at_ 136 1 [false] (sv 34 [(0,.p 0 0),(1,.f 137 [])]) [] [.cells [vs l_0,vi n_1,vi n_2,vi n_3,vl b_4 l_5] [(4,5)]])=aC (rk Tryz.prog aE) (aT (decide (n_1<(l_0.length:Int))) (ob (bh l_0 n_1) fun a=>cV (.call 137 [.d (.i .u8 (a.toNat:Int))] []) fun c=>aW c fun e=>dQ e fun g => .call (.at_ 136 1 [true,false,false,false] (sv 34 [(0,.p 0 0),(1,.f 137 []),(26,vb g)]) [] [.cells [vs l_0,vi n_1,vi n_2,vi n_3,vl b_4 l_5] [(4,5)]]) .ret) (.call (.at_ 136 1 [true,false,false,false] (sv 34 [(0,.p 0 0),(1,.f 137 []),(26,vb false)]) [] [.cells [vs l_0,vi n_1,vi n_2,vi n_3,vl b_4 l_5] [(4,5)]]) .ret)):=
 aF (by kernel_rfl)
theorem vE(l_0:List UInt8)(n_1 n_2 n_3:Int)(b_4:Bool)(l_5:List D):rk Tryz.prog aE (.at_ 136 1 [false] (sv 34 [(0,.p 0 0),(1,.f 91 [])]) [] [.cells [vs l_0,vi n_1,vi n_2,vi n_3,vl b_4 l_5] [(4,5)]])=aC (rk Tryz.prog aE) (aT (decide (n_1<(l_0.length:Int))) (ob (bh l_0 n_1) fun a=>cV (.call 91 [.d (.i .u8 (a.toNat:Int))] []) fun c=>aW c fun e=>dQ e fun g => .call (.at_ 136 1 [true,false,false,false] (sv 34 [(0,.p 0 0),(1,.f 91 []),(26,vb g)]) [] [.cells [vs l_0,vi n_1,vi n_2,vi n_3,vl b_4 l_5] [(4,5)]]) .ret) (.call (.at_ 136 1 [true,false,false,false] (sv 34 [(0,.p 0 0),(1,.f 91 []),(26,vb false)]) [] [.cells [vs l_0,vi n_1,vi n_2,vi n_3,vl b_4 l_5] [(4,5)]]) .ret)):=
 aF (by kernel_rfl)
theorem vF(l_0:List UInt8)(n_1 n_2 n_3:Int)(b_4:Bool)(l_5:List D):rk Tryz.prog aE (.at_ 136 1 [false] (sv 34 [(0,.p 0 0),(1,.f 139 [])]) [] [.cells [vs l_0,vi n_1,vi n_2,vi n_3,vl b_4 l_5] [(4,5)]])=aC (rk Tryz.prog aE) (aT (decide (n_1<(l_0.length:Int))) (ob (bh l_0 n_1) fun a=>cV (.call 139 [.d (.i .u8 (a.toNat:Int))] []) fun c=>aW c fun e=>dQ e fun g => .call (.at_ 136 1 [true,false,false,false] (sv 34 [(0,.p 0 0),(1,.f 139 []),(26,vb g)]) [] [.cells [vs l_0,vi n_1,vi n_2,vi n_3,vl b_4 l_5] [(4,5)]]) .ret) (.call (.at_ 136 1 [true,false,false,false] (sv 34 [(0,.p 0 0),(1,.f 139 []),(26,vb false)]) [] [.cells [vs l_0,vi n_1,vi n_2,vi n_3,vl b_4 l_5] [(4,5)]]) .ret)):=
 aF (by kernel_rfl)
theorem iN(n_0:Int)(b_1:Bool)(l_2:List UInt8)(n_3 n_4 n_5:Int)(b_6:Bool)(l_7:List D):rk Tryz.prog aE (.at_ 43 1 [true,true,true,true,true,false,false,true,true] (sv 106 [(0,.p 0 0),(3,vi n_0),(38,vb b_1)]) [] [.cells [vs l_2,vi n_3,vi n_4,vi n_5,vl b_6 l_7] [(4,5)]])=aC (rk Tryz.prog aE) (aT b_1 (c1 (.call 87 [.p 0 0,vs [10]] [.cells [vs l_2,vi n_3,vi n_4,vi n_5,vl b_6 l_7] [(4,5)]]) 5 [(4,5)] fun o_0 l_3=>aW o_0 fun d_5=>dQ d_5 fun b_6=>aT (!b_6) (ob l_3[0]? fun v_7=>aW v_7 fun d_8=>fF d_8 fun l_9=>aM (decide (1<l_3.length)&&true) (.ret (vb true,[.cells (l_3.set 1 (vi (l_9.length:Int))) [(4,5)]]))) (.ret (vb true,[.cells l_3 [(4,5)]]))) (ob (bh l_2 n_3) fun c_10=>aT ((c_10.toNat:Int)==47) (c1 (.call 86 [.p 0 0,vi 1] [.cells [vs l_2,vi n_3,vi n_4,vi n_5,vl b_6 l_7] [(4,5)]]) 5 [(4,5)] fun o_11 l_14=>aW o_11 fun d_16=>bD .u8 d_16 fun n_17 => .call (.at_ 43 1 [true,true,true,true,true,true,true,false,false,true,true] (sv 106 [(0,.p 0 0),(3,vi n_0),(77,vb (n_17==42))]) [] [.cells l_14 [(4,5)]]) .ret) (.call (.at_ 43 1 [true,true,true,true,true,true,true,false,false,true,true] (sv 106 [(0,.p 0 0),(3,vi n_0),(77,vb false)]) [] [.cells [vs l_2,vi n_3,vi n_4,vi n_5,vl b_6 l_7] [(4,5)]]) .ret))):=
 aF (by kernel_rfl)
theorem Gd(n_0:Int)(l_1:List UInt8)(l_2:List V):rk Tryz.prog aE (.at_ 90 1 [true,true,true,true] (sv 58 [(0,.p 0 0),(2,vi n_0),(3,vs l_1)]) [] [.cells l_2 [(4,5)]])=aC (rk Tryz.prog aE) (ob l_2[4]? fun a=>aW ((sv 58 [(0,.p 0 0),(2,vi n_0),(3,vs l_1),(46,.p 0 0),(47,.p 0 0),(48,.p 0 0),(49,.p 0 4),(50,a),(51,vs l_1),(52,vi n_0),(53,.d (.g [.i .i64 1,.s l_1,.i .i64 0,.i .u64 0,.i .i64 n_0])),(54,vl true [.g [.i .i64 1,.s l_1,.i .i64 0,.i .u64 0,.i .i64 n_0]])]).getD 50 V.u) fun b=>dZ b fun c e=>aM (bw 5 e) (aM (c||true) (aM (decide (e.length+1<=4294967296)) (aM (decide (4<l_2.length)&&true) (.ret (.t [],[.cells (l_2.set 4 (vl (c&&false) (e++[.g [.i .i64 1,.s l_1,.i .i64 0,.i .u64 0,.i .i64 n_0]]))) [(4,5)]])))))):=
 aF (by kernel_rfl)
theorem vD(n_0:Int)(l_1:List UInt8)(b_2:Bool)(l_3:List V):rk Tryz.prog aE (.at_ 90 1 [true,true,true,false,false,true,true,true] (sv 58 [(0,.p 0 0),(2,vi n_0),(3,vs l_1),(34,vb b_2)]) [] [.cells l_3 [(4,5)]])=aC (rk Tryz.prog aE) (aT b_2 (c1 (.call 88 [.p 0 0,vi 2,vi n_0] [.cells l_3 [(4,5)]]) l_3.length [(4,5)] fun a c=>dY a fun e=>aM (e.length==0) (.call (.at_ 90 1 [true,true,true,true] (sv 58 [(0,.p 0 0),(2,vi n_0),(3,vs l_1)]) [] [.cells c [(4,5)]]) .ret)) (.call (.at_ 90 1 [true,true,true,true] (sv 58 [(0,.p 0 0),(2,vi n_0),(3,vs l_1)]) [] [.cells l_3 [(4,5)]]) .ret)):=
 aF (by kernel_rfl)
theorem H9(b_0:Bool)(l_1:List V):rk Tryz.prog aE (.at_ 141 1 [true,true] (sv 22 [(0,.p 0 0),(12,vb b_0)]) [] [.cells l_1 [(4,5)]])=aC (rk Tryz.prog aE) (aT b_0 (ob l_1[1]? fun a=>aW a fun c=>bD .i64 c fun e=>c1 (.call 88 [.p 0 0,vi 2,vi e] [.cells l_1 [(4,5)]]) l_1.length [(4,5)] fun f g=>dY f fun h=>aM (h.length==0) (.ret (.t [],[.cells g [(4,5)]]))) (.ret (.t [],[.cells l_1 [(4,5)]]))):=
 aF (by kernel_rfl)
theorem pX(n_0 n_1:Int)(l_2:List V):rk Tryz.prog aE (.at_ 140 1 [true,true,true,true,true,true] (sv 71 [(0,.p 0 0),(1,vi n_0),(6,vu n_1)]) [] [.cells l_2 [(4,5)]])=aC (rk Tryz.prog aE) (aT (n_1.fdiv 9223372036854775808 != 0) (c1 (.call 88 [.p 0 0,vi 5,vi n_0] [.cells l_2 [(4,5)]]) l_2.length [(4,5)] fun a b=>dY a fun c=>aM (c.length==0) (.call (.at_ 140 1 [true,true,true,true,true,true,true] (sv 71 [(0,.p 0 0),(1,vi n_0),(6,vu n_1)]) [] [.cells b [(4,5)]]) .ret)) (.call (.at_ 140 1 [true,true,true,true,true,true,true] (sv 71 [(0,.p 0 0),(1,vi n_0),(6,vu n_1)]) [] [.cells l_2 [(4,5)]]) .ret)):=
 aF (by kernel_rfl)
theorem zE(b_0 b_1:Bool)(l_2:List V):rk Tryz.prog aE (.at_ 142 1 [true,false,true,true] (sv 73 [(0,.p 0 0),(3,vb b_0),(18,vb b_1)]) [] [.cells l_2 [(4,5)]])=aC (rk Tryz.prog aE) (aT b_1 (ob l_2[1]? fun a=>aW a fun c=>bD .i64 c fun e=>aM (decide (1<l_2.length)&&true) (c1 (.call 136 [.p 0 0,.f 91 []] [.cells (l_2.set 1 (vi (IntKind.i64.wrap (e+1)))) [(4,5)]]) ((l_2.set 1 (vi (IntKind.i64.wrap (e+1)))).length) [(4,5)] fun g h=>dY g fun j=>aM (j.length==0) (c1 (.call 86 [.p 0 0,vi 0] [.cells h [(4,5)]]) h.length [(4,5)] fun k l=>aW k fun m=>bD .u8 m fun n=>aT (n==101) (.call (.at_ 142 1 [true,true,false,true,true,true] (sv 73 [(0,.p 0 0),(3,vb true),(41,vb true)]) [] [.cells l [(4,5)]]) .ret) (.call (.at_ 142 1 [true,true,false,true,true,true] (sv 73 [(0,.p 0 0),(3,vb true),(41,vb (n==69))]) [] [.cells l [(4,5)]]) .ret)))) (c1 (.call 86 [.p 0 0,vi 0] [.cells l_2 [(4,5)]]) l_2.length [(4,5)] fun o q=>aW o fun r=>bD .u8 r fun s=>aT (s==101) (.call (.at_ 142 1 [true,true,false,true,true,true] (sv 73 [(0,.p 0 0),(3,vb b_0),(41,vb true)]) [] [.cells q [(4,5)]]) .ret) (.call (.at_ 142 1 [true,true,false,true,true,true] (sv 73 [(0,.p 0 0),(3,vb b_0),(41,vb (s==69))]) [] [.cells q [(4,5)]]) .ret))):=
 aF (by kernel_rfl)
theorem oW(n_0:Int)(b_1:Bool)(l_2:List UInt8)(n_3 n_4 n_5:Int)(b_6:Bool)(l_7:List D):rk Tryz.prog aE (.at_ 92 1 [true,false,true] (sv 192 [(0,.p 0 0),(2,vi n_0),(42,vb b_1)]) [] [.cells [vs l_2,vi n_3,vi n_4,vi n_5,vl b_6 l_7] [(4,5)]])=aC (rk Tryz.prog aE) (aT b_1 (c1 (.call 86 [.p 0 0,vi 0] [.cells [vs l_2,vi (IntKind.i64.wrap (n_3+1)),vi n_4,vi n_5,vl b_6 l_7] [(4,5)]]) 5 [(4,5)] fun a c=>aW a fun e=>bD .u8 e fun f=>cV (.call 91 [.d (.i .u8 f)] []) fun g=>aW g fun h=>dQ h fun j=>aT (!j) (c1 (.call 86 [.p 0 0,vi 0] [.cells c [(4,5)]]) c.length [(4,5)] fun k m=>aW k fun n=>bD .u8 n fun o=>aT (o==46) (c1 (.call 86 [.p 0 0,vi 1] [.cells m [(4,5)]]) m.length [(4,5)] fun q r=>aW q fun t=>bD .u8 t fun zu=>cV (.call 91 [.d (.i .u8 zu)] []) fun v=>aW v fun w=>dQ w fun x => .call (.at_ 92 1 [true,false,true,true] (sv 192 [(0,.p 0 0),(2,vi n_0),(103,vb !x)]) [] [.cells r [(4,5)]]) .ret) (.call (.at_ 92 1 [true,false,true,true] (sv 192 [(0,.p 0 0),(2,vi n_0),(103,vb true)]) [] [.cells m [(4,5)]]) .ret)) (.call (.at_ 92 1 [true,false,true,true] (sv 192 [(0,.p 0 0),(2,vi n_0),(103,vb false)]) [] [.cells c [(4,5)]]) .ret)) (ob (bh l_2 n_3) fun y=>aT ((y.toNat:Int)==48) (c1 (.call 86 [.p 0 0,vi 1] [.cells [vs l_2,vi n_3,vi n_4,vi n_5,vl b_6 l_7] [(4,5)]]) 5 [(4,5)] fun z a0=>aW z fun a1=>bD .u8 a1 fun a2=>aT (a2==120) (c1 (.call 86 [.p 0 0,vi 2] [.cells a0 [(4,5)]]) a0.length [(4,5)] fun a3 a4=>aW a3 fun a5=>bD .u8 a5 fun a6=>cV (.call 139 [.d (.i .u8 a6)] []) fun a7=>aW a7 fun a8=>dQ a8 fun a9 => .call (.at_ 92 1 [true,true,true,false,true] (sv 192 [(0,.p 0 0),(2,vi n_0),(77,vb a9)]) [] [.cells a4 [(4,5)]]) .ret) (.call (.at_ 92 1 [true,true,true,false,true] (sv 192 [(0,.p 0 0),(2,vi n_0),(77,vb false)]) [] [.cells a0 [(4,5)]]) .ret)) (.call (.at_ 92 1 [true,true,true,false,true] (sv 192 [(0,.p 0 0),(2,vi n_0),(77,vb false)]) [] [.cells [vs l_2,vi n_3,vi n_4,vi n_5,vl b_6 l_7] [(4,5)]]) .ret))):=
 aF (by kernel_rfl)
theorem zC(n_0 n_1:Int)(b_2:Bool)(l_3:List UInt8)(n_4 n_5 n_6:Int)(b_7:Bool)(l_8:List D):rk Tryz.prog aE (.at_ 93 1 [true,false,true,true,true] (sv 100 [(0,.p 0 0),(2,vi n_0),(4,vi n_1),(60,vb b_2)]) [] [.cells [vs l_3,vi n_4,vi n_5,vi n_6,vl b_7 l_8] [(4,5)]])=aC (rk Tryz.prog aE) (aT b_2 (c1 (.call 88 [.p 0 0,vi 2,vi n_0] [.cells [vs l_3,vi n_4,vi n_5,vi n_6,vl b_7 l_8] [(4,5)]]) 5 [(4,5)] fun o_0 l_3=>dY o_0 fun l_5=>aM (l_5.length==0) (.ret (.t [],[.cells l_3 [(4,5)]]))) (aM (decide (0<=IntKind.i64.wrap (IntKind.i64.wrap (n_0+1)+n_1)/\IntKind.i64.wrap (IntKind.i64.wrap (n_0+1)+n_1)<=(l_3.length:Int))) (aM (decide (0<=IntKind.i64.wrap (n_0+1)/\IntKind.i64.wrap (n_0+1)<=((IntKind.i64.wrap (IntKind.i64.wrap (n_0+1)+n_1)).toNat:Int))) (aM (bw 5 l_8) (aM (b_7||true) (aM (decide (l_8.length+1<=4294967296)) (.ret (.t [],[.cells [vs l_3,vi (IntKind.i64.wrap (n_4+IntKind.i64.wrap (n_1+2))),vi n_5,vi n_6,vl (b_7&&false) (l_8++[.g [.i .i64 4,.s (List.take ((IntKind.i64.wrap (IntKind.i64.wrap (n_0+1)+n_1)).toNat-(IntKind.i64.wrap (n_0+1)).toNat) (List.drop (IntKind.i64.wrap (n_0+1)).toNat l_3)),.i .i64 0,.i .u64 0,.i .i64 n_0]])] [(4,5)]])))))))):=
 aF (by kernel_rfl)
theorem zz(n_0:Int)(b_1:Bool)(l_2:List UInt8)(n_3 n_4 n_5:Int)(b_6:Bool)(l_7:List D):rk Tryz.prog aE (.at_ 44 1 [true,true,true,false,true] (sv 85 [(0,.p 0 0),(2,.d (.i .u8 n_0)),(28,vb b_1)]) [] [.cells [vs l_2,vi n_3,vi n_4,vi n_5,vl b_6 l_7] [(4,5)]])=aC (rk Tryz.prog aE) (aT b_1 (c1 (.call 92 [.p 0 0] [.cells [vs l_2,vi n_3,vi n_4,vi n_5,vl b_6 l_7] [(4,5)]]) 5 [(4,5)] fun a c=>dY a fun e=>aM (e.length==0) (.ret (.t [],[.cells c [(4,5)]]))) (aT (n_0==34) (.call (.at_ 44 1 [true,true,true,true,true,false,true] (sv 85 [(0,.p 0 0),(2,.d (.i .u8 n_0)),(45,vb true)]) [] [.cells [vs l_2,vi n_3,vi n_4,vi n_5,vl b_6 l_7] [(4,5)]]) .ret) (.call (.at_ 44 1 [true,true,true,true,true,false,true] (sv 85 [(0,.p 0 0),(2,.d (.i .u8 n_0)),(45,vb (n_0==39))]) [] [.cells [vs l_2,vi n_3,vi n_4,vi n_5,vl b_6 l_7] [(4,5)]]) .ret))):=
 aF (by kernel_rfl)
theorem zw(l_0 l_1:List UInt8)(n_2 n_3 n_4:Int)(b_5:Bool)(l_6:List D):rk Tryz.prog aE (.at_ 19 0 [false,true,true,true] (sv 72 [(0,vs l_0),(5,.p 0 0)]) [] [.cells [vs l_1,vi n_2,vi n_3,vi n_4,vl b_5 l_6] [(4,5)]])=aC (rk Tryz.prog aE) (.call (.at_ 19 0 [false,false,false,false,false,true,true,true] (sv 72 [(0,vs l_0),(5,.p 0 0)]) [] [.cells [vs l_1,vi n_2,vi n_3,vi n_4,vl b_5 l_6] [(4,5)]]) .ret):=
 aF (by kernel_rfl)
theorem zD(b_0:Bool)(l_1:List UInt8)(n_2 n_3 n_4:Int)(b_5:Bool)(l_6:List D):rk Tryz.prog aE (.at_ 136 1 [true,false,false,false] (sv 34 [(0,.p 0 0),(1,.f 137 []),(26,vb b_0)]) [] [.cells [vs l_1,vi n_2,vi n_3,vi n_4,vl b_5 l_6] [(4,5)]])=aC (rk Tryz.prog aE) (aT b_0 (.call (.at_ 136 1 [false] (sv 34 [(0,.p 0 0),(1,.f 137 [])]) [] [.cells [vs l_1,vi (IntKind.i64.wrap (n_2+1)),vi n_3,vi n_4,vl b_5 l_6] [(4,5)]]) .ret) (.ret (.t [],[.cells [vs l_1,vi n_2,vi n_3,vi n_4,vl b_5 l_6] [(4,5)]]))):=
 aF (by kernel_rfl)
theorem s6(b_0:Bool)(l_1:List UInt8)(n_2 n_3 n_4:Int)(b_5:Bool)(l_6:List D):rk Tryz.prog aE (.at_ 136 1 [true,false,false,false] (sv 34 [(0,.p 0 0),(1,.f 91 []),(26,vb b_0)]) [] [.cells [vs l_1,vi n_2,vi n_3,vi n_4,vl b_5 l_6] [(4,5)]])=aC (rk Tryz.prog aE) (aT b_0 (.call (.at_ 136 1 [false] (sv 34 [(0,.p 0 0),(1,.f 91 [])]) [] [.cells [vs l_1,vi (IntKind.i64.wrap (n_2+1)),vi n_3,vi n_4,vl b_5 l_6] [(4,5)]]) .ret) (.ret (.t [],[.cells [vs l_1,vi n_2,vi n_3,vi n_4,vl b_5 l_6] [(4,5)]]))):=
 aF (by kernel_rfl)
theorem s7(b_0:Bool)(l_1:List UInt8)(n_2 n_3 n_4:Int)(b_5:Bool)(l_6:List D):rk Tryz.prog aE (.at_ 136 1 [true,false,false,false] (sv 34 [(0,.p 0 0),(1,.f 139 []),(26,vb b_0)]) [] [.cells [vs l_1,vi n_2,vi n_3,vi n_4,vl b_5 l_6] [(4,5)]])=aC (rk Tryz.prog aE) (aT b_0 (.call (.at_ 136 1 [false] (sv 34 [(0,.p 0 0),(1,.f 139 [])]) [] [.cells [vs l_1,vi (IntKind.i64.wrap (n_2+1)),vi n_3,vi n_4,vl b_5 l_6] [(4,5)]]) .ret) (.ret (.t [],[.cells [vs l_1,vi n_2,vi n_3,vi n_4,vl b_5 l_6] [(4,5)]]))):=
 aF (by kernel_rfl)
theorem kH(n_0:Int)(b_1:Bool)(l_2:List UInt8)(n_3 n_4 n_5:Int)(b_6:Bool)(l_7:List D):rk Tryz.prog aE (.at_ 43 1 [true,true,true,true,true,true,true,false,false,true,true] (sv 106 [(0,.p 0 0),(3,vi n_0),(77,vb b_1)]) [] [.cells [vs l_2,vi n_3,vi n_4,vi n_5,vl b_6 l_7] [(4,5)]])=aC (rk Tryz.prog aE) (aT b_1 (c1 (.call 87 [.p 0 0,vs [42,47]] [.cells [vs l_2,vi (IntKind.i64.wrap (n_3+2)),vi n_4,vi n_5,vl b_6 l_7] [(4,5)]]) 5 [(4,5)] fun o_0 l_3=>aW o_0 fun d_5=>dQ d_5 fun b_6=>aT (!b_6) (c1 (.call 88 [.p 0 0,vi 2,vi n_0] [.cells l_3 [(4,5)]]) l_3.length [(4,5)] fun o_7 l_10=>dY o_7 fun l_12=>aM (l_12.length==0) (.ret (vb false,[.cells l_10 [(4,5)]]))) (.ret (vb true,[.cells l_3 [(4,5)]]))) (.ret (vb false,[.cells [vs l_2,vi n_3,vi n_4,vi n_5,vl b_6 l_7] [(4,5)]]))):=
 aF (by kernel_rfl)
theorem DV(n_0 n_1:Int)(l_2:List V):rk Tryz.prog aE (.at_ 140 1 [true,true,true,true,true,true,true] (sv 71 [(0,.p 0 0),(1,vi n_0),(6,vu n_1)]) [] [.cells l_2 [(4,5)]])=aC (rk Tryz.prog aE) (ob l_2[4]? fun a=>aW ((sv 71 [(0,.p 0 0),(1,vi n_0),(6,vu n_1),(58,.p 0 0),(59,.p 0 0),(60,.p 0 0),(61,.p 0 4),(62,a),(63,vu n_1),(64,vi (IntKind.i64.wrap n_1)),(65,vi n_0),(66,.d (.g [.i .i64 2,.s [],.i .i64 (IntKind.i64.wrap n_1),.i .u64 0,.i .i64 n_0])),(67,vl true [.g [.i .i64 2,.s [],.i .i64 (IntKind.i64.wrap n_1),.i .u64 0,.i .i64 n_0]])]).getD 62 V.u) fun b=>dZ b fun c e=>aM (bw 5 e) (aM (c||true) (aM (decide (e.length+1<=4294967296)) (aM (decide (4<l_2.length)&&true) (.ret (.t [],[.cells (l_2.set 4 (vl (c&&false) (e++[.g [.i .i64 2,.s [],.i .i64 (IntKind.i64.wrap n_1),.i .u64 0,.i .i64 n_0]]))) [(4,5)]])))))):=
 aF (by kernel_rfl)
theorem vG(b_0 b_1:Bool)(l_2:List V):rk Tryz.prog aE (.at_ 142 1 [true,true,false,true,true,true] (sv 73 [(0,.p 0 0),(3,vb b_0),(41,vb b_1)]) [] [.cells l_2 [(4,5)]])=aC (rk Tryz.prog aE) (aT b_1 (c1 (.call 86 [.p 0 0,vi 1] [.cells l_2 [(4,5)]]) l_2.length [(4,5)] fun a c=>aW a fun e=>bD .u8 e fun f=>aT (f==43) (.call (.at_ 142 1 [true,true,false,true,false,true,true,false,true,true,true] (sv 73 [(0,.p 0 0),(3,vb b_0),(5,vi 1),(51,vb true)]) [] [.cells c [(4,5)]]) .ret) (.call (.at_ 142 1 [true,true,false,true,false,true,true,false,true,true,true] (sv 73 [(0,.p 0 0),(3,vb b_0),(5,vi 1),(51,vb (f==45))]) [] [.cells c [(4,5)]]) .ret)) (.ret (vb b_0,[.cells l_2 [(4,5)]]))):=
 aF (by kernel_rfl)
theorem qI(b_0:Bool)(l_1:List UInt8)(n_2:Int)(l_3:List UInt8)(m_4:Nat):rk Tryz.prog aE (.at_ 143 0 [false,true,false,true,true,true,true,true] (sv 40 [(4,vb b_0),(5,vs l_1),(6,vu n_2),(18,.it 0)]) [] [.iter l_3 m_4])=aC (rk Tryz.prog aE) (aT (decide (m_4<l_3.length)) (ob (bh l_1 (m_4:Int)) fun a => .call (.at_ 143 0 [false,true,false,true,true,true,true,true] (sv 40 [(4,vb b_0),(5,vs l_1),(6,vu (IntKind.u64.wrap (IntKind.u64.wrap (10*n_2)+IntKind.u64.wrap (IntKind.u8.wrap ((a.toNat:Int)-48))))),(18,.it 0)]) [] [.iter l_3 (m_4+(Utf8.decode (ByteArray.mk l_3.toArray) m_4).snd)]) .ret) (aT b_0 (.ret (.t [vi (IntKind.i64.wrap (0-IntKind.i64.wrap n_2)),vb (decide (n_2<=9223372036854775808))],[])) (.ret (.t [vi (IntKind.i64.wrap n_2),vb (decide (n_2<9223372036854775808))],[])))):=
 aF (by kernel_rfl)
theorem lP(n_0:Int)(b_1:Bool)(l_2:List V):rk Tryz.prog aE (.at_ 92 1 [true,false,true,true] (sv 192 [(0,.p 0 0),(2,vi n_0),(103,vb b_1)]) [] [.cells l_2 [(4,5)]])=aC (rk Tryz.prog aE) (aT b_1 (c1 (.call 88 [.p 0 0,vi 2,vi n_0] [.cells l_2 [(4,5)]]) l_2.length [(4,5)] fun a c=>dY a fun e=>aM (e.length==0) (.ret (.t [],[.cells c [(4,5)]]))) (ob l_2[1]? fun g=>aW g fun h=>bD .i64 h fun j=>c1 (.call 136 [.p 0 0,.f 91 []] [.cells l_2 [(4,5)]]) l_2.length [(4,5)] fun k l=>dY k fun m=>aM (m.length==0) (ob l[1]? fun n=>aW n fun o=>bD .i64 o fun q=>c1 (.call 142 [.p 0 0] [.cells l [(4,5)]]) l.length [(4,5)] fun r zu=>aW r fun v=>dQ v fun w=>ob zu[0]? fun x=>aW x fun y=>fF y fun z=>ob zu[1]? fun a0=>aW a0 fun a1=>bD .i64 a1 fun a2=>aM (decide (0<=a2/\a2<=(z.length:Int))) (aM (decide (0<=n_0/\n_0<=(a2.toNat:Int))) (aT (!w) (cV (.call 143 [vs (List.take (a2.toNat-n_0.toNat) (List.drop n_0.toNat z))] []) fun a3=>dY a3 fun a4=>aM (a4.length==2) (aW (a4.getD 0 (vb false)) fun a5=>bD .i64 a5 fun a6=>aW (a4.getD 1 (vb false)) fun a7=>dQ a7 fun a8=>aT (decide (IntKind.i64.wrap (q-j)>60)) (c1 (.call 88 [.p 0 0,vi 4,vi n_0] [.cells zu [(4,5)]]) zu.length [(4,5)] fun a9 aa=>dY a9 fun ab=>aM (ab.length==0) (.call (.at_ 92 1 [true,true,false,true,false,true,true,true,true,true,true,true,true,true] (sv 192 [(0,.p 0 0),(2,vi n_0),(7,.p 1 0),(8,vi a6),(9,vb a8)]) [] [.cells [vi 3,vs [],vi 0,vu 0,vi n_0] [],.cells aa [(4,5)]]) .ret)) (.call (.at_ 92 1 [true,true,false,true,false,true,true,true,true,true,true,true,true,true] (sv 192 [(0,.p 0 0),(2,vi n_0),(7,.p 1 0),(8,vi a6),(9,vb a8)]) [] [.cells [vi 3,vs [],vi 0,vu 0,vi n_0] [],.cells zu [(4,5)]]) .ret))) (cV (.call 144 [vs (List.take (a2.toNat-n_0.toNat) (List.drop n_0.toNat z))] []) fun ac=>dY ac fun ad=>aM (ad.length==2) (aW (ad.getD 0 (vb false)) fun ae=>bD .u64 ae fun af=>aW (ad.getD 1 (vb false)) fun ag=>bD .i64 ag fun ah=>aT (ah != 0) (c1 (.call 88 [.p 0 0,vi ah,vi n_0] [.cells zu [(4,5)]]) zu.length [(4,5)] fun ai aj=>dY ai fun ak=>aM (ak.length==0) (.call (.at_ 92 1 [true,true,true,true,false,true,true,true,true,true,true,true,true,true] (sv 192 [(0,.p 0 0),(7,.p 1 0),(10,vu af)]) [] [.cells [vi 3,vs [],vi 0,vu 0,vi n_0] [],.cells aj [(4,5)]]) .ret)) (.call (.at_ 92 1 [true,true,true,true,false,true,true,true,true,true,true,true,true,true] (sv 192 [(0,.p 0 0),(7,.p 1 0),(10,vu af)]) [] [.cells [vi 3,vs [],vi 0,vu 0,vi n_0] [],.cells zu [(4,5)]]) .ret)))))))):=
 aF (by kernel_rfl)
theorem nK(n_0:Int)(b_1:Bool)(l_2:List UInt8)(n_3 n_4 n_5:Int)(b_6:Bool)(l_7:List D):rk Tryz.prog aE (.at_ 92 1 [true,true,true,false,true] (sv 192 [(0,.p 0 0),(2,vi n_0),(77,vb b_1)]) [] [.cells [vs l_2,vi n_3,vi n_4,vi n_5,vl b_6 l_7] [(4,5)]])=aC (rk Tryz.prog aE) (aT b_1 (c1 (.call 140 [.p 0 0,vi n_0] [.cells [vs l_2,vi n_3,vi n_4,vi n_5,vl b_6 l_7] [(4,5)]]) 5 [(4,5)] fun a c=>dY a fun e=>aM (e.length==0) (c1 (.call 141 [.p 0 0] [.cells c [(4,5)]]) c.length [(4,5)] fun f g=>dY f fun h=>aM (h.length==0) (.ret (.t [],[.cells g [(4,5)]])))) (c1 (.call 86 [.p 0 0,vi 0] [.cells [vs l_2,vi n_3,vi n_4,vi n_5,vl b_6 l_7] [(4,5)]]) 5 [(4,5)] fun j k=>aW j fun m=>bD .u8 m fun n=>cV (.call 91 [.d (.i .u8 n)] []) fun o=>aW o fun q=>dQ q fun r=>aT (!r) (c1 (.call 86 [.p 0 0,vi 0] [.cells k [(4,5)]]) k.length [(4,5)] fun zu v=>aW zu fun w=>bD .u8 w fun x=>aT (x==46) (c1 (.call 86 [.p 0 0,vi 1] [.cells v [(4,5)]]) v.length [(4,5)] fun y z=>aW y fun a0=>bD .u8 a0 fun a1=>cV (.call 91 [.d (.i .u8 a1)] []) fun a2=>aW a2 fun a3=>dQ a3 fun a4 => .call (.at_ 92 1 [true,false,true,true] (sv 192 [(0,.p 0 0),(2,vi n_0),(103,vb !a4)]) [] [.cells z [(4,5)]]) .ret) (.call (.at_ 92 1 [true,false,true,true] (sv 192 [(0,.p 0 0),(2,vi n_0),(103,vb true)]) [] [.cells v [(4,5)]]) .ret)) (.call (.at_ 92 1 [true,false,true,true] (sv 192 [(0,.p 0 0),(2,vi n_0),(103,vb false)]) [] [.cells k [(4,5)]]) .ret))):=
 aF (by kernel_rfl)
theorem pW(n_0:Int)(b_1:Bool)(l_2:List UInt8)(n_3 n_4 n_5:Int)(b_6:Bool)(l_7:List D):rk Tryz.prog aE (.at_ 44 1 [true,true,true,true,true,false,true] (sv 85 [(0,.p 0 0),(2,.d (.i .u8 n_0)),(45,vb b_1)]) [] [.cells [vs l_2,vi n_3,vi n_4,vi n_5,vl b_6 l_7] [(4,5)]])=aC (rk Tryz.prog aE) (aT b_1 (c1 (.call 93 [.p 0 0] [.cells [vs l_2,vi n_3,vi n_4,vi n_5,vl b_6 l_7] [(4,5)]]) 5 [(4,5)] fun a c=>dY a fun e=>aM (e.length==0) (.ret (.t [],[.cells c [(4,5)]]))) (cV (.call 85 [vs [123,125,40,41,91,93,60,62,44,59,58,61,42],.d (.i .u8 n_0)] []) fun f=>aW f fun h=>bD .i64 h fun j=>aT (decide (j ≥ 0)) (aM (bw 5 l_7) (aM (b_6||true) (aM (decide (l_7.length+1<=4294967296)) (.ret (.t [],[.cells [vs l_2,vi (IntKind.i64.wrap (n_3+1)),vi n_4,vi n_5,vl (b_6&&false) (l_7++[.g [.i .i64 5,.s (Utf8.encode (IntKind.i32.wrap n_0)).data.toList,.i .i64 0,.i .u64 0,.i .i64 n_3]])] [(4,5)]]))))) (c1 (.call 88 [.p 0 0,vi 2,vi n_3] [.cells [vs l_2,vi n_3,vi n_4,vi n_5,vl b_6 l_7] [(4,5)]]) 5 [(4,5)] fun k m=>dY k fun n=>aM (n.length==0) (.ret (.t [],[.cells m [(4,5)]]))))):=
 aF (by kernel_rfl)
theorem jR(l_0 l_1:List UInt8)(n_2 n_3 n_4:Int)(b_5:Bool)(l_6:List D):rk Tryz.prog aE (.at_ 19 0 [false,false,false,false,false,true,true,true] (sv 72 [(0,vs l_0),(5,.p 0 0)]) [] [.cells [vs l_1,vi n_2,vi n_3,vi n_4,vl b_5 l_6] [(4,5)]])=aC (rk Tryz.prog aE) (c1 (.call 43 [.p 0 0] [.cells [vs l_1,vi n_2,vi n_3,vi n_4,vl b_5 l_6] [(4,5)]]) 5 [(4,5)] fun a c=>aW a fun e=>dQ e fun f=>aT f (.call (.at_ 19 0 [false,false,false,false,false,true,true,true] (sv 72 [(0,vs l_0),(5,.p 0 0)]) [] [.cells c [(4,5)]]) .ret) (ob c[2]? fun h=>aW h fun j=>bD .i64 j fun k=>aT (k != 0) (ob c[2]? fun m=>aW m fun n=>bD .i64 n fun o=>ob c[3]? fun q=>aW q fun r=>bD .i64 r fun v => .ret (.t [vl true [],vi o,vi v],[])) (ob c[1]? fun w=>aW w fun x=>bD .i64 x fun y=>ob c[0]? fun z=>aW z fun a0=>fF a0 fun a1=>aT (decide (y ≥ (a1.length:Int))) (ob c[4]? fun a2=>aW ((sv 72 [(0,vs l_0),(5,.p 0 0),(13,.p 0 0),(14,.p 0 0),(15,.p 0 0),(16,vb f),(17,.p 0 0),(18,.p 0 0),(19,.p 0 0),(20,.p 0 2),(21,vi k),(22,vb (k != 0)),(33,.p 0 0),(34,.p 0 0),(35,.p 0 0),(36,.p 0 1),(37,vi y),(38,.p 0 0),(39,.p 0 0),(40,.p 0 0),(41,.p 0 0),(42,vs a1),(43,vi (a1.length:Int)),(44,vb (decide (y ≥ (a1.length:Int)))),(45,.p 0 0),(46,.p 0 0),(47,.p 0 4),(48,a2),(49,vs l_0),(50,vi (l_0.length:Int)),(51,.d (.g [.i .i64 6,.s [],.i .i64 0,.i .u64 0,.i .i64 (l_0.length:Int)])),(52,vl true [.g [.i .i64 6,.s [],.i .i64 0,.i .u64 0,.i .i64 (l_0.length:Int)]])]).getD 48 V.u) fun a3=>dZ a3 fun a4 a5=>aM (bw 5 a5) (aM (a4||true) (aM (decide (a5.length+1<=4294967296)) (.ret (.t [vl (a4&&false) (a5++[.g [.i .i64 6,.s [],.i .i64 0,.i .u64 0,.i .i64 (l_0.length:Int)]]),vi 0,vi 0],[]))))) (c1 (.call 44 [.p 0 0] [.cells c [(4,5)]]) c.length [(4,5)] fun a6 a7=>dY a6 fun a8=>aM (a8.length==0) (ob a7[2]? fun a9=>aW a9 fun aa=>bD .i64 aa fun ab=>aT (ab != 0) (ob a7[2]? fun ac=>aW ac fun ad=>bD .i64 ad fun ae=>ob a7[3]? fun af=>aW af fun ag=>bD .i64 ag fun ah => .ret (.t [vl true [],vi ae,vi ah],[])) (.call (.at_ 19 0 [false,true,true,true] (sv 72 [(0,vs l_0),(5,.p 0 0)]) [] [.cells a7 [(4,5)]]) .ret)))))):=
 aF (by kernel_rfl)
theorem kI(b_0:Bool)(n_1:Int)(b_2:Bool)(l_3:List V):rk Tryz.prog aE (.at_ 142 1 [true,true,false,true,false,true,true,false,true,true,true] (sv 73 [(0,.p 0 0),(3,vb b_0),(5,vi n_1),(51,vb b_2)]) [] [.cells l_3 [(4,5)]])=aC (rk Tryz.prog aE) (aT b_2 (c1 (.call 86 [.p 0 0,vi 2] [.cells l_3 [(4,5)]]) l_3.length [(4,5)] fun a c=>aW a fun e=>bD .u8 e fun g=>cV (.call 91 [.d (.i .u8 g)] []) fun h=>aW h fun j=>dQ j fun k=>aT k (ob c[1]? fun l=>aW l fun m=>bD .i64 m fun n=>aM (decide (1<c.length)&&true) (c1 (.call 136 [.p 0 0,.f 91 []] [.cells (c.set 1 (vi (IntKind.i64.wrap (n+2)))) [(4,5)]]) ((c.set 1 (vi (IntKind.i64.wrap (n+2)))).length) [(4,5)] fun o q=>dY o fun r=>aM (r.length==0) (.ret (vb true,[.cells q [(4,5)]])))) (.ret (vb b_0,[.cells c [(4,5)]]))) (c1 (.call 86 [.p 0 0,vi n_1] [.cells l_3 [(4,5)]]) l_3.length [(4,5)] fun s t=>aW s fun zu=>bD .u8 zu fun v=>cV (.call 91 [.d (.i .u8 v)] []) fun w=>aW w fun x=>dQ x fun y=>aT y (ob t[1]? fun z=>aW z fun a0=>bD .i64 a0 fun a1=>aM (decide (1<t.length)&&true) (c1 (.call 136 [.p 0 0,.f 91 []] [.cells (t.set 1 (vi (IntKind.i64.wrap (a1+n_1)))) [(4,5)]]) ((t.set 1 (vi (IntKind.i64.wrap (a1+n_1)))).length) [(4,5)] fun a2 a3=>dY a2 fun a4=>aM (a4.length==0) (.ret (vb true,[.cells a3 [(4,5)]])))) (.ret (vb b_0,[.cells t [(4,5)]])))):=
 aF (by kernel_rfl)
theorem qH(n_0 n_1:Int)(b_2:Bool)(n_3:Int)(l_4:List UInt8)(n_5 n_6 n_7:Int)(l_8:List V):rk Tryz.prog aE (.at_ 92 1 [true,true,false,true,false,true,true,true,true,true,true,true,true,true] (sv 192 [(0,.p 0 0),(2,vi n_0),(7,.p 1 0),(8,vi n_1),(9,vb b_2)]) [] [.cells [vi n_3,vs l_4,vi n_5,vu n_6,vi n_7] [],.cells l_8 [(4,5)]])=aC (rk Tryz.prog aE) (aT (!b_2) (c1 (.call 88 [.p 0 0,vi 5,vi n_0] [.cells l_8 [(4,5)]]) l_8.length [(4,5)] fun a c=>dY a fun e=>aM (e.length==0) (.call (.at_ 92 1 [true,true,true,false,true,false,true,true,true,true,true,true,true,true,true] (sv 192 [(0,.p 0 0),(7,.p 1 0),(8,vi n_1)]) [] [.cells [vi n_3,vs l_4,vi n_5,vu n_6,vi n_7] [],.cells c [(4,5)]]) .ret)) (.call (.at_ 92 1 [true,true,true,false,true,false,true,true,true,true,true,true,true,true,true] (sv 192 [(0,.p 0 0),(7,.p 1 0),(8,vi n_1)]) [] [.cells [vi n_3,vs l_4,vi n_5,vu n_6,vi n_7] [],.cells l_8 [(4,5)]]) .ret)):=
 aF (by kernel_rfl)
theorem zA(n_0 n_1:Int)(l_2:List UInt8)(n_3 n_4 n_5:Int)(l_6:List V):rk Tryz.prog aE (.at_ 92 1 [true,true,true,true,false,true,true,true,true,true,true,true,true,true] (sv 192 [(0,.p 0 0),(7,.p 1 0),(10,vu n_0)]) [] [.cells [vi n_1,vs l_2,vi n_3,vu n_4,vi n_5] [],.cells l_6 [(4,5)]])=aC (rk Tryz.prog aE) (.call (.at_ 92 1 [true,true,true,true,true,true,true,true,true,true] (sv 192 [(0,.p 0 0),(7,.p 1 0)]) [] [.cells [vi n_1,vs l_2,vi n_3,vu n_0,vi n_5] [],.cells l_6 [(4,5)]]) .ret):=
 aF (by kernel_rfl)
theorem zB(n_0 n_1:Int)(l_2:List UInt8)(n_3 n_4 n_5:Int)(l_6:List V):rk Tryz.prog aE (.at_ 92 1 [true,true,true,false,true,false,true,true,true,true,true,true,true,true,true] (sv 192 [(0,.p 0 0),(7,.p 1 0),(8,vi n_0)]) [] [.cells [vi n_1,vs l_2,vi n_3,vu n_4,vi n_5] [],.cells l_6 [(4,5)]])=aC (rk Tryz.prog aE) (.call (.at_ 92 1 [true,true,true,true,true,true,true,true,true,true] (sv 192 [(0,.p 0 0),(7,.p 1 0)]) [] [.cells [vi 2,vs l_2,vi n_0,vu n_4,vi n_5] [],.cells l_6 [(4,5)]]) .ret):=
 aF (by kernel_rfl)
theorem Bh(n_0:Int)(l_1:List UInt8)(n_2 n_3 n_4:Int)(l_5:List V):rk Tryz.prog aE (.at_ 92 1 [true,true,true,true,true,true,true,true,true,true] (sv 192 [(0,.p 0 0),(7,.p 1 0)]) [] [.cells [vi n_0,vs l_1,vi n_2,vu n_3,vi n_4] [],.cells l_5 [(4,5)]])=aC (rk Tryz.prog aE) (ob l_5[4]? fun a=>aW ((sv 192 [(0,.p 0 0),(7,.p 1 0),(180,.p 0 0),(181,.p 0 0),(182,.p 0 0),(183,.p 0 4),(184,a),(185,.d (.g [.i .i64 n_0,.s l_1,.i .i64 n_2,.i .u64 n_3,.i .i64 n_4])),(186,vl true [.g [.i .i64 n_0,.s l_1,.i .i64 n_2,.i .u64 n_3,.i .i64 n_4]])]).getD 184 V.u) fun b=>dZ b fun c e=>aM (bw 5 e) (aM (c||true) (aM (decide (e.length+1<=4294967296)) (aM (decide (4<l_5.length)&&true) (c1 (.call 141 [.p 0 0] [.cells (l_5.set 4 (vl (c&&false) (e++[.g [.i .i64 n_0,.s l_1,.i .i64 n_2,.i .u64 n_3,.i .i64 n_4]]))) [(4,5)]]) ((l_5.set 4 (vl (c&&false) (e++[.g [.i .i64 n_0,.s l_1,.i .i64 n_2,.i .u64 n_3,.i .i64 n_4]]))).length) [(4,5)] fun f h=>dY f fun j=>aM (j.length==0) (.ret (.t [],[.cells h [(4,5)]]))))))):=
 aF (by kernel_rfl)
end Go.Dn.Dec
namespace Go.Dn.Dec
open Go.Proofs
def bo(s:List UInt8)(a e w:Int)(b:Bool)(l:List D):Ob := .cells [.d (.s s),.d (.i .i64 a),.d (.i .i64 e),.d (.i .i64 w),.d (.l b l)] [(4,5)]
theorem sw(c:UInt8):rk Tryz.prog aE (Task.call 89 [V.d (D.i .u8 (c.toNat:Int))] [])=some (.d (.b (ns c)),[]):=by
 rw[t44]
 have e95:((c.toNat:Int)==95)=(c==95):=by
  by_cases h:c=95
  ·subst h;rfl
  ·have:c.toNat≠95:=fun e=>h (UInt8.toNat_inj.1 e)
   rw[beq_eq_false_iff_ne.2 (by omega),beq_eq_false_iff_ne.2 h]
 unfold ns
 rw[e95]
 cases h95:(c==95) with
 |true=>rw[bk,aD];rfl
 |false=>
  rw[aY,Bool.false_or]
  have d90:decide ((c.toNat:Int)<=90)=decide (c.toNat<=90):=by congr 1;exact propext (by omega)
  by_cases h1:97<=c.toNat
  ·rw[bf (by omega)]
   by_cases h2:c.toNat<=122
   ·rw[bf (by omega),aD,decide_eq_true h1,decide_eq_true h2];rfl
   ·rw[bc (by omega),bf (by omega),aD,d90,decide_eq_true h1,decide_eq_false h2,decide_eq_true (show 65<=c.toNat by omega)];rfl
  ·rw[bc (by omega),decide_eq_false h1]
   by_cases h3:65<=c.toNat
   ·rw[bf (by omega),aD,d90,decide_eq_true h3];rfl
   ·rw[bc (by omega),aD,decide_eq_false h3];rfl
theorem gk(c:UInt8):rk Tryz.prog aE (Task.call 91 [V.d (D.i .u8 (c.toNat:Int))] [])=some (.d (.b (aG c)),[]):=by
 rw[t46]
 unfold aG
 have d57:decide ((c.toNat:Int)<=57)=decide (c.toNat<=57):=by congr 1;exact propext (by omega)
 by_cases h:48<=c.toNat
 ·rw[bf (by omega),aD,d57,decide_eq_true h];rfl
 ·rw[bc (by omega),aD,decide_eq_false h];rfl
theorem fR(s:List UInt8)(a n:Nat)(e w:Int)(b:Bool)(l:List D)(ha:a+n<=1000000):rk Tryz.prog aE (Task.call 86 [V.p 0 0,V.d (D.i .i64 (n:Int))] [bo s a e w b l])=
  some (.d (.i .u8 (((s.drop a).getD n 0).toNat:Int)),[bo s a e w b l]):=by
 have hw:IntKind.i64.wrap ((a:Int)+(n:Int))=((a+n:Nat):Int):=by rw[wrap_i64]<;>omega
 unfold bo
 rw[t41,hw]
 by_cases h:a+n<s.length
 ·have g:bh s ((a+n:Nat):Int)=some ((s.drop a).getD n 0):=by
   rw[bp,List.getD_eq_getElem?_getD,List.getElem?_drop,List.getElem?_eq_getElem h];rfl
  rw[bc (by omega),aJ g,aD]
 ·have g:(s.drop a).getD n 0=0:=by
   rw[List.getD_eq_getElem?_getD,List.getElem?_drop,List.getElem?_eq_none (by omega)];rfl
  rw[bf (by omega),aD,g];rfl
theorem fK(s:List UInt8)(a e w n m:Int)(b:Bool)(l:List D):rk Tryz.prog aE (Task.call 88 [V.p 0 0,V.d (D.i .i64 n),V.d (D.i .i64 m)] [bo s a e w b l])=
  some (.t [],[bo s a (if e=0 then n else e) (if e=0 then m else w) b l]):=by
 unfold bo
 rw[t43]
 by_cases h:e=0
 ·rw[cm h,aD,if_pos h,if_pos h]
 ·rw[bO h,aD,if_neg h,if_neg h]
end Go.Dn.Dec
namespace Go.Dn.Dec
open Go.Proofs
theorem vr(e w:Int)(b:Bool)(l:List D):∀(r p:List UInt8),(p++r).length<=1000000->
  rk Tryz.prog aE (Task.at_ 136 1 [false] (sv 34 [(0,V.p 0 0),(1,V.f 91 [])]) [] [bo (p++r) (p.length:Int) e w b l])=some (.t [],[bo (p++r) ((p.length+(r.takeWhile aG).length:Nat):Int) e w b l])
 | [],p,hl=>by
  unfold bo
  rw[List.append_nil,vE,bc (by omega),aA,s6,aY,aD];rfl
 |c::r,p,hl=>by
  have hi:p.length<(p++c::r).length:=by simp
  have g:bh (p++c::r) (p.length:Int)=some c:=by rw[bp];simp
  have hpl:(p++[c]).length=p.length+1:=by simp
  have hlen:p.length+(r.length+1)<=1000000:=by simpa using hl
  have w1:IntKind.i64.wrap ((p.length:Int)+1)=(((p++[c]).length:Nat):Int):=by rw[hpl,wrap_i64]<;>omega
  have ih:=vr e w b l r (p++[c]) (by simpa using hl)
  rw[List.append_assoc,List.singleton_append]at ih
  unfold bo at ih⊢
  rw[vE,bf (by omega),aJ g,dh (gk c),aA,s6]
  cases hd:aG c with
  |true=>
   rw[bk,w1,aA,ih,List.takeWhile_cons,hd,if_pos rfl,List.length_cons,hpl,show p.length+1+(r.takeWhile aG).length=p.length+((r.takeWhile aG).length+1) by omega]
  |false=>
   rw[aY,aD,List.takeWhile_cons,hd,if_neg (by decide)];rfl
theorem lN(s:List UInt8)(a:Nat)(ha:a<=s.length)(hs:s.length<=1000000)(e w:Int)(b:Bool)(l:List D):
  rk Tryz.prog aE (Task.call 136 [V.p 0 0,V.f 91 []] [bo s (a:Int) e w b l])=some (.t [],[bo s ((a+((s.drop a).takeWhile aG).length:Nat):Int) e w b l]):=by
 have h:=vr e w b l (s.drop a) (s.take a) (by rw[List.take_append_drop];exact hs)
 rw[List.take_append_drop,List.length_take,Nat.min_eq_left ha]at h
 unfold bo at h⊢
 rw[LW,aA]
 exact h
theorem Is(c:UInt8):rk Tryz.prog aE (Task.call 139 [V.d (D.i .u8 (c.toNat:Int))] [])=some (.d (.b (cX c)),[]):=by
 rw[t82,dh (gk c)]
 unfold cX
 have d70:decide ((c.toNat:Int)<=70)=decide (c.toNat<=70):=by congr 1;exact propext (by omega)
 cases hd:aG c with
 |true=>rw[bk,aD];rfl
 |false=>
  rw[aY,Bool.false_or]
  by_cases h1:97<=c.toNat
  ·rw[bf (by omega)]
   by_cases h2:c.toNat<=102
   ·rw[bf (by omega),aD,decide_eq_true h1,decide_eq_true h2];rfl
   ·rw[bc (by omega),bf (by omega),aD,d70,decide_eq_true h1,decide_eq_false h2,decide_eq_true (show 65<=c.toNat by omega)];rfl
  ·rw[bc (by omega),decide_eq_false h1]
   by_cases h3:65<=c.toNat
   ·rw[bf (by omega),aD,d70,decide_eq_true h3];rfl
   ·rw[bc (by omega),aD,decide_eq_false h3];rfl
theorem LL(c:UInt8):rk Tryz.prog aE (Task.call 137 [V.d (D.i .u8 (c.toNat:Int))] [])=some (.d (.b (du c)),[]):=by
 rw[t80,dh (sw c)]
 unfold du
 have e46:((c.toNat:Int)==46)=(c==46):=by
  by_cases h:c=46
  ·subst h;rfl
  ·have:c.toNat≠46:=fun e=>h (UInt8.toNat_inj.1 e)
   rw[beq_eq_false_iff_ne.2 (by omega),beq_eq_false_iff_ne.2 h]
 cases hl:ns c with
 |true=>rw[bk,aD];rfl
 |false=>
  rw[aY,dh (gk c)]
  cases hd:aG c with
  |true=>rw[bk,aD];rfl
  |false=>rw[aY,aD,e46];rfl
theorem Cg(e w:Int)(b:Bool)(l:List D):∀(r p:List UInt8),(p++r).length<=1000000->
  rk Tryz.prog aE (Task.at_ 136 1 [false] (sv 34 [(0,V.p 0 0),(1,V.f 139 [])]) [] [bo (p++r) (p.length:Int) e w b l])=some (.t [],[bo (p++r) ((p.length+(r.takeWhile cX).length:Nat):Int) e w b l])
 | [],p,hl=>by
  unfold bo
  rw[List.append_nil,vF,bc (by omega),aA,s7,aY,aD];rfl
 |c::r,p,hl=>by
  have hi:p.length<(p++c::r).length:=by simp
  have g:bh (p++c::r) (p.length:Int)=some c:=by rw[bp];simp
  have hpl:(p++[c]).length=p.length+1:=by simp
  have hlen:p.length+(r.length+1)<=1000000:=by simpa using hl
  have w1:IntKind.i64.wrap ((p.length:Int)+1)=(((p++[c]).length:Nat):Int):=by rw[hpl,wrap_i64]<;>omega
  have ih:=Cg e w b l r (p++[c]) (by simpa using hl)
  rw[List.append_assoc,List.singleton_append]at ih
  unfold bo at ih⊢
  rw[vF,bf (by omega),aJ g,dh (Is c),aA,s7]
  cases hd:cX c with
  |true=>
   rw[bk,w1,aA,ih,List.takeWhile_cons,hd,if_pos rfl,List.length_cons,hpl,show p.length+1+(r.takeWhile cX).length=p.length+((r.takeWhile cX).length+1) by omega]
  |false=>
   rw[aY,aD,List.takeWhile_cons,hd,if_neg (by decide)];rfl
theorem DJ(s:List UInt8)(a:Nat)(ha:a<=s.length)(hs:s.length<=1000000)(e w:Int)(b:Bool)(l:List D):
  rk Tryz.prog aE (Task.call 136 [V.p 0 0,V.f 139 []] [bo s (a:Int) e w b l])=some (.t [],[bo s ((a+((s.drop a).takeWhile cX).length:Nat):Int) e w b l]):=by
 have h:=Cg e w b l (s.drop a) (s.take a) (by rw[List.take_append_drop];exact hs)
 rw[List.take_append_drop,List.length_take,Nat.min_eq_left ha]at h
 unfold bo at h⊢
 rw[LX,aA]
 exact h
theorem zf(e w:Int)(b:Bool)(l:List D):∀(r p:List UInt8),(p++r).length<=1000000->
  rk Tryz.prog aE (Task.at_ 136 1 [false] (sv 34 [(0,V.p 0 0),(1,V.f 137 [])]) [] [bo (p++r) (p.length:Int) e w b l])=some (.t [],[bo (p++r) ((p.length+(r.takeWhile du).length:Nat):Int) e w b l])
 | [],p,hl=>by
  unfold bo
  rw[List.append_nil,Cm,bc (by omega),aA,zD,aY,aD];rfl
 |c::r,p,hl=>by
  have hi:p.length<(p++c::r).length:=by simp
  have g:bh (p++c::r) (p.length:Int)=some c:=by rw[bp];simp
  have hpl:(p++[c]).length=p.length+1:=by simp
  have hlen:p.length+(r.length+1)<=1000000:=by simpa using hl
  have w1:IntKind.i64.wrap ((p.length:Int)+1)=(((p++[c]).length:Nat):Int):=by rw[hpl,wrap_i64]<;>omega
  have ih:=zf e w b l r (p++[c]) (by simpa using hl)
  rw[List.append_assoc,List.singleton_append]at ih
  unfold bo at ih⊢
  rw[Cm,bf (by omega),aJ g,dh (LL c),aA,zD]
  cases hd:du c with
  |true=>
   rw[bk,w1,aA,ih,List.takeWhile_cons,hd,if_pos rfl,List.length_cons,hpl,show p.length+1+(r.takeWhile du).length=p.length+((r.takeWhile du).length+1) by omega]
  |false=>
   rw[aY,aD,List.takeWhile_cons,hd,if_neg (by decide)];rfl
theorem A5(s:List UInt8)(a:Nat)(ha:a<=s.length)(hs:s.length<=1000000)(e w:Int)(b:Bool)(l:List D):
  rk Tryz.prog aE (Task.call 136 [V.p 0 0,V.f 137 []] [bo s (a:Int) e w b l])=some (.t [],[bo s ((a+((s.drop a).takeWhile du).length:Nat):Int) e w b l]):=by
 have h:=zf e w b l (s.drop a) (s.take a) (by rw[List.take_append_drop];exact hs)
 rw[List.take_append_drop,List.length_take,Nat.min_eq_left ha]at h
 unfold bo at h⊢
 rw[LY,aA]
 exact h
end Go.Dn.Dec
namespace Go.Dn.Dec
open Go.Proofs
def nW(s:List UInt8)(a:Nat):Bool:=ns ((s.drop a).getD 0 0)||(s.drop a).getD 0 0==46
theorem xv(s:List UInt8)(a:Nat)(e w:Int)(b:Bool)(l:List D)(ha:a<=1000000):rk Tryz.prog aE (Task.call 141 [V.p 0 0] [bo s (a:Int) e w b l])=
  some (.t [],[if nW s a=true then bo s a (if e=0 then 2 else e) (if e=0 then(a:Int)else w) b l else bo s a e w b l]):=by
 have hp:=fR s a 0 e w b l (by omega)
 rw[Int.natCast_zero]at hp
 have main:∀bb:Bool,rk Tryz.prog aE (Task.at_ 141 1 [true,true] (sv 22 [(0,V.p 0 0),(12,V.d (D.b bb))]) [] [bo s (a:Int) e w b l])=
   some (.t [],[if bb=true then bo s a (if e=0 then 2 else e) (if e=0 then(a:Int)else w) b l else bo s a e w b l]):=by
  intro bb
  have hf:=fK s (a:Int) e w 2 (a:Int) b l
  unfold bo at hf⊢
  rw[H9]
  cases bb with
  |false=>rw[aY,aD,if_neg (by decide)]
  |true=>
   rw[bk,aJ (a:=V.d (D.i .i64 (a:Int))) (by rfl),bj]
   rw[bl,if_pos rfl,dz hf (by rfl) (by rfl),aD,if_pos rfl]
 have e46:((((s.drop a).getD 0 0).toNat:Int)==46)=((s.drop a).getD 0 0==46):=by
  generalize (s.drop a).getD 0 0=c
  by_cases h:c=46
  ·subst h;rfl
  ·have:c.toNat≠46:=fun e=>h (UInt8.toNat_inj.1 e)
   rw[beq_eq_false_iff_ne.2 (by omega),beq_eq_false_iff_ne.2 h]
 unfold nW
 unfold bo at hp main⊢
 rw[t84,cr hp (by rfl) (by rfl),dh (sw _)]
 cases hl:ns ((s.drop a).getD 0 0) with
 |true=>rw[bk,aA,main,Bool.true_or]
 |false=>rw[aY,aA,e46,main,Bool.false_or]
end Go.Dn.Dec
namespace Go.Dn.Dec
open Go.Proofs
theorem sc(t:List UInt8):∀(s:List UInt8) (n:Nat),cc t s=some n->n<=s.length
 | [],n,h=>by
  unfold cc at h
  split at h
  ·cases h;exact Nat.le_refl _
  ·cases h
 |c::r,n,h=>by
  unfold cc at h
  split at h
  ·cases h;exact Nat.zero_le _
  ·cases he:cc t r with
   |none=>rw[he]at h;cases h
   |some m=>
    rw[he]at h
    have:=sc t r m he
    have e:m+1=n:=Option.some.inj h
    rw[List.length_cons];omega
theorem Cu(s t:List UInt8)(a:Nat)(e w:Int)(b:Bool)(l:List D)(ha:a<=s.length)(hs:s.length<=100000)(ht:t.length<=1000):rk Tryz.prog aE (Task.call 87 [V.p 0 0,V.d (D.s t)] [bo s (a:Int) e w b l])=
  match cc t (s.drop a) with
  |none=>some (.d (.b false),[bo s (a:Int) e w b l])
  |some n=>some (.d (.b true),[bo s ((a+(n+t.length):Nat):Int) e w b l]):=by
 have hd:List.take (s.length-(a:Int).toNat) (List.drop (a:Int).toNat s)=s.drop a:=by
  rw[Int.toNat_natCast,List.take_of_length_le];rw[List.length_drop];exact Nat.le_refl _
 have hc:rk Tryz.prog aE (Task.call 123 [V.d (D.s (s.drop a)),V.d (D.s t)] [])=some (.d (.i .i64 (mm (cc t (s.drop a)))),[]):=by
  rw[eQ (g:=ji) rfl]
  have:(s.drop a).length<=100000/\t.length<=100000:=⟨by rw[List.length_drop];omega,by omega⟩
  simp only[ji,if_pos this]
 unfold bo
 rw[t42,aH (by omega),hd,de hc]
 cases hf:cc t (s.drop a) with
 |none=>rw[bf (by show (-1:Int)<0;decide),aD]
 |some n=>
  have hn:=sc t _ n hf
  rw[List.length_drop]at hn
  have w1:IntKind.i64.wrap (mm (some n)+(t.length:Int))=((n+t.length:Nat):Int):=by
   show IntKind.i64.wrap ((n:Int)+(t.length:Int))=_
   rw[wrap_i64]<;>omega
  have w2:IntKind.i64.wrap ((a:Int)+((n+t.length:Nat):Int))=((a+(n+t.length):Nat):Int):=by rw[wrap_i64]<;>omega
  rw[bc (by show ¬((n:Int)<0);omega),w1,w2,aD]
end Go.Dn.Dec
namespace Go.Dn.Dec
open Go.Proofs
theorem uB:∀r:List UInt8,ij r=match cc [10] r with
  |none=>r.length
  |some n=>n+1
 | []=>rfl
 |c::r=>by
  have ih:=uB r
  unfold cc
  by_cases h:c=10
  ·subst h
   rw[if_pos (by simp[List.isPrefixOf])]
   unfold ij
   rw[List.dropWhile_cons,List.takeWhile_cons]
   simp
  ·have hp:¬([10]:List UInt8).isPrefixOf (c::r)=true:=by
    simp[List.isPrefixOf];exact fun e=>h e.symm
   rw[if_neg hp]
   have e:ij (c::r)=ij r+1:=by
    have hb:(c != 10)=true:=bne_iff_ne.2 h
    unfold ij
    rw[List.dropWhile_cons,List.takeWhile_cons,hb,if_pos rfl,if_pos rfl]
    split
    ·rw[List.length_cons]
    ·rw[List.length_cons]
   rw[e,ih]
   cases cc [10] r with
   |none=>rw[List.length_cons];rfl
   |some n=>rfl
theorem yc:∀r:List UInt8,mZ r=(cc [42,47] r).map (· + 2)
 | []=>rfl
 |c::r=>by
  have ih:=yc r
  unfold mZ cc
  by_cases h:c=42/\r.head?=some 47
  ·rw[if_pos h]
   have hp:([42,47]:List UInt8).isPrefixOf (c::r)=true:=by
    obtain⟨rfl,h2⟩:=h
    cases r with
    |nil=>cases h2
    |cons d q=>cases h2;simp[List.isPrefixOf]
   rw[if_pos hp];rfl
  ·rw[if_neg h]
   have hp:¬([42,47]:List UInt8).isPrefixOf (c::r)=true:=by
    intro hp
    apply h
    cases r with
    |nil=>simp[List.isPrefixOf]at hp
    |cons d q=>
     simp[List.isPrefixOf]at hp
     exact⟨hp.1.symm,by rw[<-hp.2];rfl⟩
   rw[if_neg hp,ih]
   cases cc [42,47] r<;>rfl
theorem oR(c:UInt8):rk Tryz.prog aE (Task.call 85 [V.d (D.s [9,10,13,32]),V.d (D.i .u8 (c.toNat:Int))] [])=some (.d (.i .i64 (mm (([9,10,13,32]:List UInt8).findIdx? fun d=>d==c))),[]):=by
 rw[eQ (g:=eh) rfl]
 have hlt:=c.toNat_lt
 have h:([9,10,13,32]:List UInt8).length<=100000/\(0:Int)<=(c.toNat:Int)/\(c.toNat:Int)<256:=⟨by decide,by omega,by omega⟩
 simp only[eh,if_pos h,Int.toNat_natCast,UInt8.ofNat_toNat]
theorem jO(c:UInt8):decide (mm (([9,10,13,32]:List UInt8).findIdx? fun d=>d==c) ≥ 0)=Ea c:=by
 unfold Ea
 by_cases h1:c=9
 ·subst h1;decide
 ·by_cases h2:c=10
  ·subst h2;decide
  ·by_cases h3:c=13
   ·subst h3;decide
   ·by_cases h4:c=32
    ·subst h4;decide
    ·have e:(([9,10,13,32]:List UInt8).findIdx? fun d=>d==c)=none:=by
      simp[List.findIdx?_cons,Ne.symm h1,Ne.symm h2,Ne.symm h3,Ne.symm h4]
     rw[e]
     simp[h1,h2,h3,h4,mm]
end Go.Dn.Dec
namespace Go.Dn.Dec
open Go.Proofs
def wO(s:List UInt8)(a:Nat)(w:Int)(b:Bool)(l:List D):Option Out:=
 match s.drop a with
 | []=>some (.d (.b false),[bo s a 0 w b l])
 |c::q=>
  if Ea c=true then some (.d (.b true),[bo s ((a+1:Nat):Int) 0 w b l])
  else if c=35\/(c=47/\q.head?=some 47)then some (.d (.b true),[bo s ((a+ij (c::q):Nat):Int) 0 w b l])
  else if c=47/\q.head?=some 42 then
   match mZ (q.drop 1) with
   |none=>some (.d (.b false),[bo s ((a+2:Nat):Int) 2 (a:Int) b l])
   |some n=>some (.d (.b true),[bo s ((a+(2+n):Nat):Int) 0 w b l])
  else some (.d (.b false),[bo s a 0 w b l])
theorem Cs(c:UInt8):((c.toNat:Int)==35)=decide (c=35):=mJ c 35
theorem qN(c:UInt8):((c.toNat:Int)==47)=decide (c=47):=mJ c 47
theorem IE(c:UInt8):((c.toNat:Int)==42)=decide (c=42):=mJ c 42
theorem AV(s:List UInt8)(a:Nat)(ha:a<=s.length)(hs:s.length<=10000)(w:Int)(b:Bool)(l:List D):
  rk Tryz.prog aE (Task.at_ 43 1 [true,true,true,true,true,false,false,true,true] (sv 106 [(0,V.p 0 0),(3,V.d (D.i .i64 (a:Int))),(38,V.d (D.b true))]) [] [bo s a 0 w b l])=
   some (.d (.b true),[bo s ((a+ij (s.drop a):Nat):Int) 0 w b l]):=by
 have hu:=Cu s [10] a 0 w b l ha (by omega) (by decide)
 rw[uB (s.drop a)]
 cases hf:cc [10] (s.drop a) with
 |none=>
  rw[hf]at hu
  simp only at hu⊢
  rw[List.length_drop,show a+(s.length-a)=s.length by omega]
  unfold bo at hu⊢
  rw[iN,bk,gB hu (by rfl) (by rfl),iL,aJ (a:=V.d (D.s s)) (by rfl),bj,fU,Bool.and_true,aH (by simp),aD]
  rfl
 |some n=>
  rw[hf]at hu
  simp only at hu⊢
  unfold bo at hu⊢
  rw[iN,bk,gB hu (by rfl) (by rfl),jP,aD]
  rfl
theorem AW(s:List UInt8)(a:Nat)(ha:a+2<=s.length)(hs:s.length<=10000)(w:Int)(b:Bool)(l:List D):
  rk Tryz.prog aE (Task.at_ 43 1 [true,true,true,true,true,true,true,false,false,true,true] (sv 106 [(0,V.p 0 0),(3,V.d (D.i .i64 (a:Int))),(77,V.d (D.b true))]) [] [bo s a 0 w b l])=
   match mZ (s.drop (a+2)) with
   |none=>some (.d (.b false),[bo s ((a+2:Nat):Int) 2 (a:Int) b l])
   |some n=>some (.d (.b true),[bo s ((a+(2+n):Nat):Int) 0 w b l]):=by
 have hu:=Cu s [42,47] (a+2) 0 w b l ha (by omega) (by decide)
 have w2:IntKind.i64.wrap ((a:Int)+2)=((a+2:Nat):Int):=by rw[wrap_i64]<;>omega
 rw[yc (s.drop (a+2))]
 cases hf:cc [42,47] (s.drop (a+2)) with
 |none=>
  rw[hf]at hu
  have hfl:=fK s ((a+2:Nat):Int) 0 w 2 (a:Int) b l
  rw[if_pos rfl,if_pos rfl]at hfl
  simp only[Option.map_none]at hu⊢
  unfold bo at hu hfl⊢
  rw[kH,bk,w2,gB hu (by rfl) (by rfl),iL,dz hfl (by rfl) (by rfl),aD]
 |some n=>
  rw[hf]at hu
  simp only[Option.map_some]at hu⊢
  rw[show a+(2+(n+2))=a+2+(n+2) by omega]
  unfold bo at hu⊢
  rw[kH,bk,w2,gB hu (by rfl) (by rfl),jP,aD]
  rfl
theorem B5(s:List UInt8)(a:Nat)(ha:a<=s.length)(hs:s.length<=10000)(w:Int)(b:Bool)(l:List D):
  rk Tryz.prog aE (Task.call 43 [V.p 0 0] [bo s a 0 w b l])=wO s a w b l:=by
 unfold wO
 have hlen:(s.drop a).length=s.length-a:=List.length_drop ..
 cases hr:s.drop a with
 |nil=>
  rw[hr,List.length_nil]at hlen
  unfold bo
  rw[t20,bf (by omega),aD]
 |cons c q=>
  rw[hr,List.length_cons]at hlen
  have g:bh s (a:Int)=some c:=by
   rw[bp]
   have:=congrArg List.head? hr
   rw[List.head?_drop]at this
   simpa using this
  have hp:rk Tryz.prog aE (Task.call 86 [V.p 0 0,V.d (D.i .i64 1)] [bo s (a:Int) 0 w b l])=_:=fR s a 1 0 w b l (by omega)
  have hnx:∀d:UInt8,d≠0->((s.drop a).getD 1 0=d↔q.head?=some d):=by
   intro d hd
   rw[hr]
   cases q with
   |nil=>simp[Ne.symm hd]
   |cons x q=>simp
  have hpl:=AV s a ha hs w b l
  rw[hr]at hpl
  have w1:IntKind.i64.wrap ((a:Int)+1)=((a+1:Nat):Int):=by rw[wrap_i64]<;>omega
  generalize (s.drop a).getD 1 0=nx at hp hnx
  have rest:¬(c=35\/(c=47/\q.head?=some 47))->
    rk Tryz.prog aE (Task.at_ 43 1 [true,true,true,true,true,false,false,true,true] (sv 106 [(0,V.p 0 0),(3,V.d (D.i .i64 (a:Int))),(38,V.d (D.b false))]) [] [bo s a 0 w b l])=
    (if c=47/\q.head?=some 42 then
   match mZ (q.drop 1) with
   |none=>some (.d (.b false),[bo s ((a+2:Nat):Int) 2 (a:Int) b l])
   |some n=>some (.d (.b true),[bo s ((a+(2+n):Nat):Int) 0 w b l])
  else some (.d (.b false),[bo s a 0 w b l])):=by
   intro _
   have stop:rk Tryz.prog aE (Task.at_ 43 1 [true,true,true,true,true,true,true,false,false,true,true] (sv 106 [(0,V.p 0 0),(3,V.d (D.i .i64 (a:Int))),(77,V.d (D.b false))]) [] [bo s a 0 w b l])=some (.d (.b false),[bo s a 0 w b l]):=by
    unfold bo
    rw[kH,aY,aD]
   by_cases h47:c=47
   ·by_cases h42:nx=42
    ·have hq:=(hnx 42 (by decide)).1 h42
     have h2:a+2<=s.length:=by
      cases q with
      |nil=>cases hq
      |cons x q=>simp at hlen;omega
     have hn:=AW s a h2 hs w b l
     have e2:s.drop (a+2)=q.drop 1:=by rw[<-List.drop_drop,hr];rfl
     rw[e2]at hn
     rw[if_pos ⟨h47,hq⟩,<-hn]
     unfold bo at hp⊢
     rw[iN,aY,aJ g,qN,bf h47,cr hp (by rfl) (by rfl),aA,IE,decide_eq_true h42]
    ·rw[if_neg (fun h=>h42 ((hnx 42 (by decide)).2 h.2)),<-stop]
     unfold bo at hp⊢
     rw[iN,aY,aJ g,qN,bf h47,cr hp (by rfl) (by rfl),aA,IE,decide_eq_false h42]
   ·rw[if_neg (fun h=>h47 h.1),<-stop]
    unfold bo
    rw[iN,aY,aJ g,qN,bc h47,aA]
  simp only
  by_cases hsp:Ea c=true
  ·rw[if_pos hsp]
   unfold bo
   rw[t20,bc (by omega),aJ g,de (oR c),jO,hsp,bk,w1,aD]
  ·have hsp':Ea c=false:=by simpa using hsp
   rw[if_neg hsp]
   by_cases h35:c=35
   ·rw[if_pos (Or.inl h35),<-hpl]
    unfold bo
    rw[t20,bc (by omega),aJ g,de (oR c),jO,hsp',aY,aJ g,Cs,bf h35,aA]
   ·by_cases h47:c=47
    ·by_cases hn:nx=47
     ·rw[if_pos (Or.inr ⟨h47,(hnx 47 (by decide)).1 hn⟩),<-hpl]
      unfold bo at hp⊢
      rw[t20,bc (by omega),aJ g,de (oR c),jO,hsp',aY,aJ g,Cs,bc h35,aJ g,qN,bf h47,cr hp (by rfl) (by rfl),aA,qN,decide_eq_true hn]
     ·have hno:¬(c=35\/(c=47/\q.head?=some 47)):=by
       rintro(h|⟨-,h⟩)
       ·exact h35 h
       ·exact hn ((hnx 47 (by decide)).2 h)
      rw[if_neg hno,<-rest hno]
      unfold bo at hp⊢
      rw[t20,bc (by omega),aJ g,de (oR c),jO,hsp',aY,aJ g,Cs,bc h35,aJ g,qN,bf h47,cr hp (by rfl) (by rfl),aA,qN,decide_eq_false hn]
    ·have hno:¬(c=35\/(c=47/\q.head?=some 47)):=by
      rintro(h|⟨h,-⟩)
      ·exact h35 h
      ·exact h47 h
     rw[if_neg hno,<-rest hno]
     unfold bo
     rw[t20,bc (by omega),aJ g,de (oR c),jO,hsp',aY,aJ g,Cs,bc h35,aJ g,qN,bc h47,aA]
end Go.Dn.Dec
namespace Go.Dn.Dec
theorem gb{α:Type}(l:List α)(p:α->Bool):l.takeWhile p=l.take (l.takeWhile p).length:=by
 induction l with
 |nil=>rfl
 |cons c l ih=>
  rw[List.takeWhile_cons]
  split
  ·rw[List.length_cons,List.take_succ_cons,<-ih]
  ·rfl
theorem fe{α:Type}(l:List α)(p:α->Bool):(l.takeWhile p).length<=l.length:=(List.takeWhile_sublist p).length_le
def GP(r:List UInt8)(at_:Nat)(w:Cz):Prop:=
 match w with
 | .inl (t,n)=>t.at_=at_/\1<=n/\n<=r.length/\t.kind≠6/\((t.kind=1\/t.kind=5)->t.text.length<=n/\t.text=r.take t.text.length)
 | .inr (e,w)=>e≠0/\at_<=w/\w<=at_+r.length
theorem z8(r:List UInt8)(n at_:Nat)(t:Tok)(h0:t.at_=at_)(h1:1<=n)(h2:n<=r.length)(h3:t.kind=2\/t.kind=3):GP r at_ (nX r n at_ t):=by
 have hk:t.kind≠6/\¬(t.kind=1\/t.kind=5):=by omega
 unfold nX
 split
 ·exact⟨h0,h1,h2,hk.1,fun h=>absurd h hk.2⟩
 ·split
  ·exact⟨by decide,by omega,by omega⟩
  ·exact⟨h0,h1,h2,hk.1,fun h=>absurd h hk.2⟩
theorem se(t:List UInt8):cH t<=t.length:=by
 unfold cH
 split
 ·rename_i c d q
  split
  ·have:=fe (d::q) aG
   rw[List.length_cons];omega
  ·omega
 ·omega
theorem vY(t:List UInt8):dP t<=t.length:=by
 unfold dP
 split
 ·exact Nat.le_refl _
 ·rename_i c q
  split
  ·split
   ·omega
   ·rename_i h
    have h1:=fe ((c::q).drop (gX q)) aG
    rw[List.length_drop]at h1
    have h2:0<(((c::q).drop (gX q)).takeWhile aG).length:=List.length_pos_iff.2 h
    omega
  ·omega
theorem zl(r:List UInt8):fu r<=r.length:=by
 unfold fu
 split
 ·split
  ·rw[List.length_cons];omega
  ·omega
 ·exact Nat.le_refl _
theorem Jh(r:List UInt8)(at_:Nat)(h:(r.drop 2).takeWhile cX≠[]):GP r at_ (wk r at_):=by
 have h1:=fe (r.drop 2) cX
 have h2:0<((r.drop 2).takeWhile cX).length:=List.length_pos_iff.2 h
 rw[List.length_drop]at h1
 unfold wk
 simp only
 split
 ·exact⟨by decide,by omega,by omega⟩
 ·split
  ·exact⟨by decide,by omega,by omega⟩
  ·exact z8 r _ at_ _ rfl (by omega) (by omega) (Or.inl rfl)
theorem Jy(r:List UInt8)(at_:Nat):GP r at_ (wH r at_):=by
 have s1:=zl r
 unfold wH
 simp only
 generalize fu r=sg at *
 split
 ·rename_i h;exact Jh r at_ h.2.2.2
 ·split
  ·exact⟨by decide,by omega,by omega⟩
  ·rename_i hne
   have h1:=fe (r.drop sg) aG
   have h2:=se ((r.drop sg).drop ((r.drop sg).takeWhile aG).length)
   have h3:=vY ((r.drop sg).drop (((r.drop sg).takeWhile aG).length+cH ((r.drop sg).drop ((r.drop sg).takeWhile aG).length)))
   rw[List.length_drop]at h1
   rw[List.length_drop,List.length_drop]at h2 h3
   have h4:1<=((r.drop sg).takeWhile aG).length+cH ((r.drop sg).drop ((r.drop sg).takeWhile aG).length):=by
    by_cases h:(r.drop sg).takeWhile aG=[]
    ·rw[h,List.length_nil,List.drop_zero]
     have:cH (r.drop sg)≠0:=fun e=>hne ⟨h,e⟩
     omega
    ·have:=List.length_pos_iff.2 h;omega
   generalize dP ((r.drop sg).drop (((r.drop sg).takeWhile aG).length+cH ((r.drop sg).drop ((r.drop sg).takeWhile aG).length)))=b at *
   generalize cH ((r.drop sg).drop ((r.drop sg).takeWhile aG).length)=a at *
   split
   ·split
    ·exact⟨by decide,by omega,by omega⟩
    ·split
     ·exact⟨by decide,by omega,by omega⟩
     ·exact z8 r _ at_ _ rfl (by omega) (by omega) (Or.inl rfl)
   ·split
    ·rename_i he;exact⟨he,by omega,by omega⟩
    ·exact z8 r _ at_ _ rfl (by omega) (by omega) (Or.inr rfl)
theorem xb(r:List UInt8)(at_:Nat):GP r at_ (jo r at_):=by
 unfold jo
 split
 ·exact⟨by decide,by omega,by omega⟩
 ·rename_i c q
  split
  ·rename_i hl
   have h1:=fe (c::q) du
   have h2:0<((c::q).takeWhile du).length:=by
    rw[List.takeWhile_cons,show du c=true by unfold du;rw[hl];rfl,if_pos rfl,List.length_cons];omega
   unfold uP
   simp only
   split
   ·exact⟨by decide,by omega,by omega⟩
   ·split
    ·exact⟨by decide,by omega,by omega⟩
    ·exact⟨rfl,h2,h1,(show (1:Nat)≠6 by decide),fun _=>⟨Nat.le_refl _,gb _ _⟩⟩
  ·split
   ·exact Jy _ _
   ·split
    ·unfold qL
     simp only
     split
     ·exact⟨by decide,by omega,by omega⟩
     ·rename_i h
      have h1:(q.takeWhile (· != c)).length+(q.dropWhile (· != c)).length=q.length:=by
       have:=congrArg List.length (List.takeWhile_append_dropWhile (p:=(· != c)) (l:=q))
       rwa[List.length_append]at this
      have h2:0<(q.dropWhile (· != c)).length:=List.length_pos_iff.2 fun e=>h (Or.inl e)
      exact⟨rfl,by omega,by rw[List.length_cons];omega,(show (4:Nat)≠6 by decide),fun h=>absurd h (show ¬((4:Nat)=1\/(4:Nat)=5) by decide)⟩
    ·split
     ·exact⟨rfl,Nat.le_refl _,by rw[List.length_cons];omega,(show (5:Nat)≠6 by decide),fun _=>⟨Nat.le_refl _,rfl⟩⟩
     ·exact⟨by decide,by omega,by omega⟩
theorem lE(r:List UInt8):ij r<=r.length/\(r≠[]->1<=ij r):=by
 have h1:(r.takeWhile (· != 10)).length+(r.dropWhile (· != 10)).length=r.length:=by
  have:=congrArg List.length (List.takeWhile_append_dropWhile (p:=(· != (10:UInt8))) (l:=r))
  rwa[List.length_append]at this
 unfold ij
 split
 ·refine⟨Nat.le_refl _,fun h=>?_⟩
  have:=List.length_pos_iff.2 h;omega
 ·rename_i h
  have h2:0<(r.dropWhile (· != 10)).length:=List.length_pos_iff.2 h
  exact⟨by omega,fun _=>by omega⟩
theorem qY:∀(r:List UInt8) (n:Nat),mZ r=some n->n<=r.length
 | [],n,h=>by cases h
 |c::r,n,h=>by
  unfold mZ at h
  split at h
  ·rename_i hc
   cases r with
   |nil=>simp at hc
   |cons d r=>cases h;simp
  ·cases he:mZ r with
   |none=>rw[he]at h;cases h
   |some m=>
    rw[he]at h
    have:=qY r m he
    have e:m+1=n:=Option.some.inj h
    rw[List.length_cons];omega
theorem mh:∀(f:Nat) (r:List UInt8) (k:Nat),k<=(gv f r k).1/\(gv f r k).1<=k+r.length
 |0,r,k=>⟨Nat.le_refl _,by simp[gv]⟩
 |f+1,[],k=>⟨by simp[gv],by simp[gv]⟩
 |f+1,c::q,k=>by
  unfold gv
  simp only
  split
  ·have:=mh f q (k+1)
   rw[List.length_cons];omega
  ·split
   ·have h1:=(lE (c::q)).1
    have:=mh f ((c::q).drop (ij (c::q))) (k+ij (c::q))
    rw[List.length_drop]at this
    omega
   ·split
    ·split
     ·exact⟨Nat.le_refl _,by omega⟩
     ·rename_i hc _ n he
      have h1:=qY _ _ he
      rw[List.length_drop]at h1
      have h2:1<=q.length:=by
       cases q with
       |nil=>exact absurd hc.2 (by decide)
       |cons d q=>rw[List.length_cons];omega
      have:=mh f ((c::q).drop (2+n)) (k+(2+n))
      rw[List.length_drop,List.length_cons]at this
      rw[List.length_cons];omega
    ·exact⟨Nat.le_refl _,by omega⟩
def Ke(s:List UInt8)(t:Tok):Prop:=(t.kind=1\/t.kind=5)->t.at_+t.text.length<=s.length/\t.text=(s.drop t.at_).take t.text.length
def Good(s:List UInt8)(l:List Tok)(at_:Nat):Prop:=(∀t∈l,t.kind≠6/\Ke s t/\t.at_<at_)/\l.Pairwise fun a b=>a.at_<b.at_
theorem BP(s:List UInt8):∀(f at_:Nat) (l:List Tok),s.length-at_<f->at_<=s.length->Good s l at_->
  (∃l',Good s l' s.length/\wy f (s.drop at_) at_ l=(l'++[⟨6,[],0,0,s.length⟩],0,0))\/(∃e w,wy f (s.drop at_) at_ l=([],e,w)/\e≠0/\w<=s.length)
 |0,at_,l,h,_,_=>by omega
 |f+1,at_,l,h,ha,hg=>by
  have hk:=mh (s.drop at_).length (s.drop at_) 0
  have hlen:(s.drop at_).length=s.length-at_:=List.length_drop ..
  unfold wy
  generalize gv (s.drop at_).length (s.drop at_) 0=K at hk⊢
  obtain⟨k,b⟩:=K
  simp only at hk
  rw[hlen]at hk⊢
  cases b with
  |false=>exact Or.inr ⟨2,at_+k,rfl,by decide,by omega⟩
  |true=>
   simp only
   split
   ·refine Or.inl ⟨l,⟨fun t ht=>⟨(hg.1 t ht).1,(hg.1 t ht).2.1,?_⟩,hg.2⟩,?_⟩
    ·have:=(hg.1 t ht).2.2;omega
    ·rw[show at_+(s.length-at_)=s.length by omega]
   ·rename_i hr
    rw[List.drop_drop]
    have hw:=xb (s.drop (at_+k)) (at_+k)
    have hl2:(s.drop (at_+k)).length=s.length-(at_+k):=List.length_drop ..
    cases hww:jo (s.drop (at_+k)) (at_+k) with
    |inr x=>
     obtain⟨e,w⟩:=x
     rw[hww]at hw
     obtain⟨w1,w2,w3⟩:=hw
     exact Or.inr ⟨e,w,rfl,w1,by omega⟩
    |inl x=>
     obtain⟨t,n⟩:=x
     rw[hww]at hw
     obtain⟨w1,w2,w3,w4,w5⟩:=hw
     simp only
     rw[List.drop_drop,show at_+(k+n)=at_+k+n by omega]
     refine BP s f (at_+k+n) (l++[t]) (by omega) (by omega) ⟨fun u hu=>?_,?_⟩
     ·rcases List.mem_append.1 hu with hu|hu
      ·have:=hg.1 u hu
       exact⟨this.1,this.2.1,by omega⟩
      ·rw[List.mem_singleton]at hu
       subst hu
       refine⟨w4,fun hk=>?_,by omega⟩
       obtain⟨a,b⟩:=w5 hk
       rw[w1]
       exact⟨by omega,b⟩
     ·rw[List.pairwise_append]
      refine⟨hg.2,List.pairwise_singleton _ _,fun a ha b hb=>?_⟩
      rw[List.mem_singleton]at hb
      subst hb
      have:=(hg.1 a ha).2.2
      omega
theorem AI(s:List UInt8):(∃l',Good s l' s.length/\lexB s=(l'++[⟨6,[],0,0,s.length⟩],0,0))\/(∃e w,lexB s=([],e,w)/\e≠0/\w<=s.length):=by
 unfold lexB
 split
 ·exact Or.inr ⟨4,0,rfl,by decide,by omega⟩
 ·have:=BP s (s.length+1) 0 [] (by omega) (by omega) ⟨fun t h=>by simp at h,List.Pairwise.nil⟩
  rwa[List.drop_zero]at this
end Go.Dn.Dec
namespace Go.Dn.Dec
open Go.Proofs
def Tok.D(t:Tok):D := .g [.i .i64 (t.kind:Int),.s t.text,.i .i64 t.n,.i .u64 (t.d:Int),.i .i64 (t.at_:Int)]
def cF(L:List Tok):List D:=L.map Tok.D
theorem iO(L:List Tok):bw 5 (cF L)=true:=by cases L<;>rfl
theorem iu(L:List Tok):(cF L).length=L.length:=by simp[cF]
theorem iP(L:List Tok)(t:Tok):cF L++[t.D]=cF (L++[t]):=by simp[cF]
def nV(t:List UInt8):Bool:=([46]:List UInt8).isSuffixOf t||(cc [46,46] t).isSome
theorem Fk(s t:List UInt8)(a:Nat)(x e w:Int)(b:Bool)(L:List Tok)(hL:L.length<=100000):
  rk Tryz.prog aE (Task.at_ 90 1 [true,true,true,true] (sv 58 [(0,V.p 0 0),(2,V.d (D.i .i64 (a:Int))),(3,V.d (D.s t))]) [] [bo s x e w b (cF L)])=
   some (.t [],[bo s x e w false (cF (L++[⟨1,t,0,0,a⟩]))]):=by
 have hsn:=iP L ⟨1,t,0,0,a⟩
 have hD:Tok.D ⟨1,t,0,0,a⟩=D.g [D.i .i64 1,D.s t,D.i .i64 0,D.i .u64 0,D.i .i64 (a:Int)]:=rfl
 rw[hD]at hsn
 unfold bo
 rw[Gd,aJ (a:=V.d (D.l b (cF L))) (by rfl)]
 show aC (rk Tryz.prog aE) (aW (V.d (D.l b (cF L))) _)=_
 rw[bj,ed,iO,ba,Bool.or_true,ba,aH (by rw[iu];omega),Bool.and_true,aH (by simp),hsn,Bool.and_false,aD]
 rfl
theorem Jt(s:List UInt8)(a:Nat)(ha:a<=s.length)(hs:s.length<=10000)(w:Int)(b:Bool)(L:List Tok)(hL:L.length<=100000):
    rk Tryz.prog aE (Task.call 90 [V.p 0 0] [bo s a 0 w b (cF L)])=
      (let t:=(s.drop a).takeWhile du
       let bad:=if 120<t.length then(4:Int)else if nV t=true then 2 else 0
       some (.t [],[bo s ((a+t.length:Nat):Int) bad (if bad=0 then w else(a:Int)) false (cF (L++[⟨1,t,0,0,a⟩]))])):=by
  have hr:=A5 s a ha (by omega) 0 w b (cF L)
  have hself:=gb (s.drop a) du
  have hle:=fe (s.drop a) du
  rw[List.length_drop]at hle
  have htk:List.take ((((a+((s.drop a).takeWhile du).length:Nat):Int)).toNat-(a:Int).toNat) (List.drop (a:Int).toNat s)=(s.drop a).takeWhile du:=by
    rw[Int.toNat_natCast,Int.toNat_natCast,Nat.add_sub_cancel_left,<-hself]
  simp only
  generalize (s.drop a).takeWhile du=t at *
  have hend:=fun(x e w:Int)=>Fk s t a x e w b L hL
  have hfl4:=fK s ((a+t.length:Nat):Int) 0 w 4 (a:Int) b (cF L)
  have hfl2:=fK s ((a+t.length:Nat):Int) 0 w 2 (a:Int) b (cF L)
  rw[if_pos rfl,if_pos rfl]at hfl4 hfl2
  have bad2:rk Tryz.prog aE (Task.at_ 90 1 [true,true,true,false,false,true,true,true] (sv 58 [(0,V.p 0 0),(2,V.d (D.i .i64 (a:Int))),(3,V.d (D.s t)),(34,V.d (D.b true))]) [] [bo s ((a+t.length:Nat):Int) 0 w b (cF L)])=
      some (.t [],[bo s ((a+t.length:Nat):Int) 2 (a:Int) false (cF (L++[⟨1,t,0,0,a⟩]))]):=by
    have h:=hend ((a+t.length:Nat):Int) 2 (a:Int)
    unfold bo at hfl2 h⊢
    rw[vD,bk,dz hfl2 (by rfl) (by rfl),aA,h]
  have good:rk Tryz.prog aE (Task.at_ 90 1 [true,true,true,false,false,true,true,true] (sv 58 [(0,V.p 0 0),(2,V.d (D.i .i64 (a:Int))),(3,V.d (D.s t)),(34,V.d (D.b false))]) [] [bo s ((a+t.length:Nat):Int) 0 w b (cF L)])=
      some (.t [],[bo s ((a+t.length:Nat):Int) 0 w false (cF (L++[⟨1,t,0,0,a⟩]))]):=by
    have h:=hend ((a+t.length:Nat):Int) 0 w
    unfold bo at h⊢
    rw[vD,aY,aA,h]
  have hs1:rk Tryz.prog aE (Task.call 138 [V.d (D.s t),V.d (D.s [46])] [])=some (.d (.b (([46]:List UInt8).isSuffixOf t)),[]):=by
    rw[eQ (g:=jQ) rfl]
    have:t.length<=100000/\([46]:List UInt8).length<=100000:=⟨by omega,by decide⟩
    simp only[jQ,if_pos this]
  have hs2:rk Tryz.prog aE (Task.call 57 [V.d (D.s t),V.d (D.s [46,46])] [])=some (.d (.b (cc [46,46] t).isSome),[]):=by
    rw[eQ (g:=gU) rfl]
    have:t.length<=100000/\([46,46]:List UInt8).length<=100000:=⟨by omega,by decide⟩
    simp only[gU,if_pos this]
  by_cases h120:120<t.length
  · have h := hend ((a + t.length : Nat) : Int) 4 (a : Int)
    rw[if_pos h120,if_neg (show ¬((4:Int)=0) by decide)]
    unfold bo at hr hfl4 h⊢
    rw[t45,dz hr (by rfl) (by rfl),aJ (a:=V.d (D.s s)) (by rfl),bj,fU,aJ (a:=V.d (D.i .i64 ((a+t.length:Nat):Int))) (by rfl),bj,bL,htk,aH (by omega),aH (by omega),bf (by omega),dz hfl4 (by rfl) (by rfl),aA,h]
  · rw [if_neg h120]
    unfold nV
    unfold bo at hr bad2 good⊢
    rw[t45,dz hr (by rfl) (by rfl),aJ (a:=V.d (D.s s)) (by rfl),bj,fU,aJ (a:=V.d (D.i .i64 ((a+t.length:Nat):Int))) (by rfl),bj,bL,htk,aH (by omega),aH (by omega),bc (by omega),dh hs1]
    cases hx:([46]:List UInt8).isSuffixOf t with
    |true=>rw[bk,aA,bad2,Bool.true_or];rfl
    |false=>
      rw[aY,dh hs2,aA,Bool.false_or]
      cases hy:(cc [46,46] t).isSome with
      |true=>rw[bad2];rfl
      |false=>rw[good];rfl
end Go.Dn.Dec
namespace Go.Dn.Dec
open Go.Proofs
theorem iG(d:List UInt8):cy (d.dropWhile (· == 48))=cy d:=by
 induction d with
 |nil=>rfl
 |cons c d ih=>
  rw[List.dropWhile_cons]
  split
  ·rename_i h
   have hc:c=48:=by simpa using h
   rw[ih,hc]
   show cy d=eU (0*10+bS 48) d
   rfl
  ·rfl
theorem Aa(d:List UInt8)(hd:∀c∈d,aG c=true)(n:Nat)(hl:n<(d.dropWhile (· == 48)).length):10^n<=cy d:=by
 rw[<-iG]
 have hdd:∀c∈d.dropWhile (· == 48),aG c=true:=fun c h=>hd c ((List.dropWhile_sublist _).subset h)
 cases he:d.dropWhile (· == 48) with
 |nil=>rw[he]at hl;simp at hl
 |cons c r=>
  have hc48:¬(c==48)=true:=by
   have:=List.head?_dropWhile_not (fun x:UInt8=>x==48) d
   rw[he]at this
   simpa using this
  have hc:=hdd c (by rw[he];simp)
  have h1:1<=bS c:=by
   have h48:c≠48:=fun e=>hc48 (by rw[e];rfl)
   have hn:c.toNat≠48:=fun e=>h48 (UInt8.toNat_inj.1 e)
   have:=(dW c).1 hc
   unfold bS;omega
  rw[he,List.length_cons]at hl
  have h2:=wG r (0*10+bS c)
  have h4:10^n<=10^r.length:=Nat.pow_le_pow_right (by decide) (by omega)
  have h5:1*10^r.length<=(0*10+bS c)*10^r.length:=Nat.mul_le_mul_right _ (by omega)
  show 10^n<=eU (0*10+bS c) r
  omega
def wN(neg:Bool)(v:Nat):Int:=if neg=true then IntKind.i64.wrap (0-IntKind.i64.wrap (v:Int))else IntKind.i64.wrap (v:Int)
theorem tp(neg:Bool):∀(r p:List UInt8) (v:Nat),(∀c∈r,aG c=true)->(p++r).length<=19->v<10^p.length->
  rk Tryz.prog aE (Task.at_ 143 0 [false,true,false,true,true,true,true,true] (sv 40 [(4,V.d (D.b neg)),(5,V.d (D.s (p++r))),(6,V.d (D.i .u64 (v:Int))),(18,V.it 0)]) [] [Ob.iter (p++r) p.length])=
   some (.t [.d (.i .i64 (wN neg (eU v r))),.d (.b (eE neg (eU v r)).2)],[])
 | [],p,v,hd,hl,hv=>by
  rw[List.append_nil,qI,bc (by omega)]
  unfold wN eE
  have e1:decide ((v:Int)<=9223372036854775808)=decide (v<=2^63):=by congr 1;exact propext (by omega)
  have e2:decide ((v:Int)<9223372036854775808)=decide (v<2^63):=by congr 1;exact propext (by omega)
  cases neg with
  |true=>rw[bk,aD,e1];rfl
  |false=>rw[aY,aD,e2];rfl
 |c::r,p,v,hd,hl,hv=>by
  have hc:=hd c (by simp)
  have hcl:=kg hc
  have hi:p.length<(p++c::r).length:=by simp
  have g:bh (p++c::r) (p.length:Int)=some c:=by rw[bp];simp
  have hdec:=mS (p++c::r) p.length c (by simp) (by have:=(dW c).1 hc;omega)
  have hpl:(p++[c]).length=p.length+1:=by simp
  have hlen:p.length+(r.length+1)<=19:=by simpa using hl
  have hv2:v*10+bS c<10^(p++[c]).length:=by rw[hpl,Nat.pow_succ];omega
  have hv1:v<10^18:=Nat.lt_of_lt_of_le hv (Nat.pow_le_pow_right (by decide) (by omega))
  have ih:=tp neg r (p++[c]) (v*10+bS c) (fun c h=>hd c (by simp[h])) (by simpa using hl) hv2
  rw[List.append_assoc,List.singleton_append,hpl]at ih
  have w1:IntKind.u64.wrap (10*(v:Int))=10*(v:Int):=by rw[aO];omega
  have w2:IntKind.u64.wrap ((bS c:Nat):Int)=((bS c:Nat):Int):=by rw[aO];omega
  have w3:IntKind.u64.wrap (10*(v:Int)+((bS c:Nat):Int))=((v*10+bS c:Nat):Int):=by rw[aO];omega
  rw[qI,bf hi,aJ g,nL hc,w1,w2,w3,hdec,aA,ih]
  rfl
theorem Ik(sg ds:List UInt8)(hsg:sg=[]\/sg=[43]\/sg=[45])(hds:∀c∈ds,aG c=true)(hne:sg++ds≠[])(hl:(sg++ds).length<=10000):
  ∃N:Int,rk Tryz.prog aE (Task.call 143 [V.d (D.s (sg++ds))] [])=some (.t [.d (.i .i64 N),.d (.b (eE ((sg++ds).head?==some 45) (cy ds)).2)],[])/\
   ((eE ((sg++ds).head?==some 45) (cy ds)).2=true->N=(eE ((sg++ds).head?==some 45) (cy ds)).1):=by
 obtain⟨c0,q0,hcq⟩:∃c q,sg++ds=c::q:=by
  cases h:sg++ds with
  |nil=>exact absurd h hne
  |cons c q=>exact⟨c,q,rfl⟩
 have g:bh (sg++ds) 0=some c0:=by rw[hcq];rfl
 have hneg:((sg++ds).head?==some 45)=decide (c0=45):=by
  rw[hcq]
  show (some c0==some 45)=_
  by_cases h:c0=45
  ·subst h;rfl
  ·rw[decide_eq_false h]
   exact beq_eq_false_iff_ne.2 (fun e=>h (Option.some.inj e))
 have hdd:ds.dropWhile (fun c=>c==43||c==45)=ds:=by
  cases ds with
  |nil=>rfl
  |cons c r=>
   have hc:=hds c (by simp)
   have h1:c≠43:=fun e=>by rw[e]at hc;exact absurd hc (by decide)
   have h2:c≠45:=fun e=>by rw[e]at hc;exact absurd hc (by decide)
   rw[List.dropWhile_cons,if_neg (by simp[h1,h2])]
 have ht1:rk Tryz.prog aE (Task.call 183 [V.d (D.s (sg++ds)),V.d (D.s [43,45])] [])=some (.d (.s ds),[]):=by
  rw[eQ (g:=e8) rfl]
  have e:(sg++ds).dropWhile (fun c=>c==43||c==45)=ds:=by
   rcases hsg with rfl|rfl|rfl
   ·exact hdd
   ·exact hdd
   ·exact hdd
  have hl5:(sg++ds).length<=100000:=by omega
  simp only[e8,if_pos hl5,e]
 have ht2:rk Tryz.prog aE (Task.call 183 [V.d (D.s ds),V.d (D.s [48])] [])=some (.d (.s (ds.dropWhile (· == 48))),[]):=by
  rw[eQ (g:=e8) rfl];rfl
 rw[hneg]
 by_cases h19:19<(ds.dropWhile (· == 48)).length
 ·have hb:=Aa ds hds 19 h19
  have hf:(eE (decide (c0=45)) (cy ds)).2=false:=by
   unfold eE
   split
   ·exact decide_eq_false (by omega)
   ·exact decide_eq_false (by omega)
  refine⟨0,?_,fun h=>by rw[hf]at h;cases h⟩
  rw[t86,aJ g,iZ ht1,iZ ht2,bf (by omega),aD,hf]
 ·have hL:=tp (decide (c0=45)) (ds.dropWhile (· == 48)) [] 0 (fun c h=>hds c ((List.dropWhile_sublist _).subset h)) (by simpa using h19) (by decide)
  rw[List.nil_append,List.length_nil,Int.natCast_zero]at hL
  have hnum:eU 0 (ds.dropWhile (· == 48))=cy ds:=iG ds
  rw[hnum]at hL
  refine⟨wN (decide (c0=45)) (cy ds),?_,?_⟩
  ·rw[t86,aJ g,iZ ht1,iZ ht2,bc (by omega),th,aA]
   exact hL
  ·intro h
   unfold eE at h⊢
   unfold wN
   by_cases hn:c0=45
   ·rw[if_pos (by simpa using hn)]at h⊢
    rw[if_pos (by simpa using hn)]
    have:=of_decide_eq_true h
    rcases Nat.lt_or_ge (cy ds) (2^63)with h63|h63
    ·rw[wrap_i64 (n:=((cy ds:Nat):Int)) (by omega) (by omega),wrap_i64 (by omega) (by omega)];simp
    ·have e:cy ds=9223372036854775808:=by omega
     rw[e];decide
   ·rw[if_neg (by simpa using hn)]at h⊢
    rw[if_neg (by simpa using hn)]
    have:=of_decide_eq_true h
    rw[wrap_i64 (by omega) (by omega)]
end Go.Dn.Dec
namespace Go.Dn.Dec
open Go.Proofs
theorem yh(c:UInt8):∀q:List UInt8,(q.findIdx? fun d=>d==c)=if q.dropWhile (· != c)=[]then none else some (q.takeWhile (· != c)).length
 | []=>rfl
 |d::q=>by
  have ih:=yh c q
  rw[List.findIdx?_cons,List.dropWhile_cons,List.takeWhile_cons]
  by_cases h:d=c
  ·subst h;simp
  ·have h1:(d==c)=false:=beq_eq_false_iff_ne.2 h
   have h2:(d != c)=true:=bne_iff_ne.2 h
   rw[h1,h2,ih]
   simp only[Bool.false_eq_true,if_false,if_true]
   split<;>simp
theorem nn(t:List UInt8)(c:UInt8)(ht:t.length<=100000):rk Tryz.prog aE (Task.call 85 [V.d (D.s t),V.d (D.i .u8 (c.toNat:Int))] [])=some (.d (.i .i64 (mm (if t.dropWhile (· != c)=[]then none else some (t.takeWhile (· != c)).length))),[]):=by
 rw[eQ (g:=eh) rfl]
 have hlt:=c.toNat_lt
 have h:t.length<=100000/\(0:Int)<=(c.toNat:Int)/\(c.toNat:Int)<256:=⟨ht,by omega,by omega⟩
 simp only[eh,if_pos h,Int.toNat_natCast,UInt8.ofNat_toNat,yh]
theorem mu(t:List UInt8):(t.contains 10=true)↔t.dropWhile (· != 10)≠[]:=by
 induction t with
 |nil=>simp
 |cons c t ih=>
  rw[List.dropWhile_cons]
  by_cases h:c=10
  ·subst h;simp
  ·have h2:(c != 10)=true:=bne_iff_ne.2 h
   rw[h2,if_pos rfl,<-ih]
   simp[Ne.symm h]
theorem JR(s:List UInt8)(a:Nat)(c:UInt8)(q:List UInt8)(hd:s.drop a=c::q)(hs:s.length<=10000)(w:Int)(b:Bool)(L:List Tok)(hL:L.length<=100000):
  rk Tryz.prog aE (Task.call 93 [V.p 0 0] [bo s a 0 w b (cF L)])=
   match qL c q a with
   | .inr (e,w')=>some (.t [],[bo s a e (w':Int) b (cF L)])
   | .inl (t,n)=>some (.t [],[bo s ((a+n:Nat):Int) 0 w false (cF (L++[t]))]):=by
 have hlen:(s.drop a).length=s.length-a:=List.length_drop ..
 rw[hd,List.length_cons]at hlen
 have g:bh s (a:Int)=some c:=by
  rw[bp]
  have:=congrArg List.head? hd
  rw[List.head?_drop]at this
  simpa using this
 have hd1:s.drop (a+1)=q:=by rw[<-List.drop_drop,hd];rfl
 have w1:IntKind.i64.wrap ((a:Int)+1)=((a+1:Nat):Int):=by rw[wrap_i64]<;>omega
 have hc1:List.take (s.length-(((a+1:Nat):Int)).toNat) (List.drop (((a+1:Nat):Int)).toNat s)=q:=by
  rw[Int.toNat_natCast,hd1,List.take_of_length_le];omega
 have hi:=nn q c (by omega)
 have hfl:=fK s (a:Int) 0 w 2 (a:Int) b (cF L)
 rw[if_pos rfl,if_pos rfl]at hfl
 have bad:∀n:Int,rk Tryz.prog aE (Task.at_ 93 1 [true,false,true,true,true] (sv 100 [(0,V.p 0 0),(2,V.d (D.i .i64 (a:Int))),(4,V.d (D.i .i64 n)),(60,V.d (D.b true))]) [] [bo s a 0 w b (cF L)])=
   some (.t [],[bo s a 2 (a:Int) b (cF L)]):=by
  intro n
  unfold bo at hfl⊢
  rw[zC,bk,dz hfl (by rfl) (by rfl),aD]
 unfold qL
 simp only
 by_cases h0:q.dropWhile (· != c)=[]
 ·rw[if_pos h0]at hi
  rw[if_pos (Or.inl h0)]
  simp only
  rw[<-bad (mm none)]
  unfold bo
  rw[t48,aJ g,w1,aH (by omega),hc1,de hi,bf (by show (-1:Int)<0;decide),aA]
 ·rw[if_neg h0]at hi
  have hsum:(q.takeWhile (· != c)).length+(q.dropWhile (· != c)).length=q.length:=by
   have:=congrArg List.length (List.takeWhile_append_dropWhile (p:=(· != c)) (l:=q))
   rwa[List.length_append]at this
  have hpos:0<(q.dropWhile (· != c)).length:=List.length_pos_iff.2 h0
  have hself:=gb q (· != c)
  generalize ht:q.takeWhile (· != c)=t at *
  have w2:IntKind.i64.wrap (((a+1:Nat):Int)+(t.length:Int))=((a+1+t.length:Nat):Int):=by rw[wrap_i64]<;>omega
  have hc2:List.take ((((a+1+t.length:Nat):Int)).toNat-(((a+1:Nat):Int)).toNat) (List.drop (((a+1:Nat):Int)).toNat s)=t:=by
   rw[Int.toNat_natCast,Int.toNat_natCast,Nat.add_sub_cancel_left,hd1,<-hself]
  have hi2:rk Tryz.prog aE (Task.call 85 [V.d (D.s t),V.d (D.i .u8 10)] [])=_:=nn t 10 (by omega)
  have step:∀X:Option Out,(rk Tryz.prog aE (Task.at_ 93 1 [true,false,true,true,true] (sv 100 [(0,V.p 0 0),(2,V.d (D.i .i64 (a:Int))),(4,V.d (D.i .i64 (t.length:Int))),(60,V.d (D.b (decide (mm (if t.dropWhile (· != 10)=[]then none else some (t.takeWhile (· != 10)).length) ≥ 0))))]) [] [bo s a 0 w b (cF L)])=X)->
    rk Tryz.prog aE (Task.call 93 [V.p 0 0] [bo s a 0 w b (cF L)])=X:=by
   intro X hX
   rw[<-hX]
   unfold bo
   have ei:mm (some t.length)=(t.length:Int):=rfl
   rw[t48,aJ g,w1,aH (by omega),hc1,de hi,ei,bc (by omega),w2,aH (by omega),aH (by omega),hc2,de hi2,aA]
  by_cases h10:t.contains 10=true
  ·rw[if_pos (Or.inr h10)]
   simp only
   have hne:=(mu t).1 h10
   refine step _ ?_
   rw[if_neg hne,show decide (mm (some (t.takeWhile (· != 10)).length) ≥ 0)=true from decide_eq_true (Int.natCast_nonneg (t.takeWhile (· != 10)).length)]
   exact bad _
  ·have he:t.dropWhile (· != 10)=[]:=by
    rcases Classical.em (t.dropWhile (· != 10)=[])with h|h
    ·exact h
    ·exact absurd ((mu t).2 h) h10
   rw[if_neg (by rintro(h|h);exact h0 h;exact h10 h)]
   simp only
   refine step _ ?_
   have hsn:=iP L ⟨4,t,0,0,a⟩
   have hD:Tok.D ⟨4,t,0,0,a⟩=D.g [D.i .i64 4,D.s t,D.i .i64 0,D.i .u64 0,D.i .i64 (a:Int)]:=rfl
   rw[hD]at hsn
   have w3:IntKind.i64.wrap ((t.length:Int)+2)=((t.length+2:Nat):Int):=by rw[wrap_i64]<;>omega
   have w4:IntKind.i64.wrap ((a:Int)+((t.length+2:Nat):Int))=((a+(t.length+2):Nat):Int):=by rw[wrap_i64]<;>omega
   rw[if_pos he,show decide (mm none ≥ 0)=false from rfl]
   unfold bo
   rw[zC,aY,w1,w2,aH (by omega),aH (by omega),iO,ba,Bool.or_true,ba,aH (by rw[iu];omega),hc2,w3,w4,hsn,Bool.and_false,aD]
end Go.Dn.Dec
namespace Go.Dn.Dec
open Go.Proofs
theorem KN{f:Task->Option Out}{t:Task}{k:IntKind}{n:Int}{v e:V}{K:Int->Tr}(h:f t=some (.t [.d (.i k n),v],[]))(hv:(mj (V.t [V.d (D.i k n),v])==0)=true):
  aC f (.call t fun o=>aM o.snd.isEmpty (dY o.fst fun l=>aM (l.length==2) (aW (l.getD 0 e) fun d=>bD k d fun x=>aM (mj (V.t [V.d (D.i k x),l.getD 1 e])==0) (K x))))=aC f (K n):=by
 rw[cE h]
 show aC f (bD k (.i k n) fun x=>aM (mj (V.t [V.d (D.i k x),v])==0) (K x))=_
 rw[bL,hv,ba]
theorem oX{α:Type}(p:α->Bool)(l:List α):(l.takeWhile p).all p=true:=by
 induction l with
 |nil=>rfl
 |cons c l ih=>
  rw[List.takeWhile_cons]
  split
  ·rename_i h;rw[List.all_cons,h,ih];rfl
  ·rfl
theorem pI(s:List UInt8)(a v:Nat)(x e w:Int)(b:Bool)(L:List Tok)(hL:L.length<=100000)(n:Int)(hn:n=IntKind.i64.wrap (v:Int)):
  rk Tryz.prog aE (Task.at_ 140 1 [true,true,true,true,true,true,true] (sv 71 [(0,V.p 0 0),(1,V.d (D.i .i64 (a:Int))),(6,V.d (D.i .u64 (v:Int)))]) [] [bo s x e w b (cF L)])=
   some (.t [],[bo s x e w false (cF (L++[⟨2,[],n,0,a⟩]))]):=by
 have hsn:=iP L ⟨2,[],n,0,a⟩
 have hD:Tok.D ⟨2,[],n,0,a⟩=D.g [D.i .i64 2,D.s [],D.i .i64 n,D.i .u64 0,D.i .i64 (a:Int)]:=rfl
 rw[hD]at hsn
 unfold bo
 rw[DV,aJ (a:=V.d (D.l b (cF L))) (by rfl),<-hn]
 show aC (rk Tryz.prog aE) (aW (V.d (D.l b (cF L))) _)=_
 rw[bj,ed,iO,ba,Bool.or_true,ba,aH (by rw[iu];omega),Bool.and_true,aH (by simp),hsn,Bool.and_false,aD]
 rfl
theorem Hm(s:List UInt8)(a:Nat)(ha:a+2<=s.length)(hs:s.length<=10000)(w:Int)(b:Bool)(L:List Tok)(hL:L.length<=100000)(hne:(s.drop (a+2)).takeWhile cX≠[]):
    ∃T:Tok,rk Tryz.prog aE (Task.call 140 [V.p 0 0,V.d (D.i .i64 (a:Int))] [bo s a 0 w b (cF L)])=
      (let h:=(s.drop (a+2)).takeWhile cX
       let bad:=if 16<h.length then(4:Int)else if 2^63<=fN h then 5 else 0
       some (.t [],[bo s ((a+2+h.length:Nat):Int) bad (if bad=0 then w else(a:Int)) false (cF (L++[T]))]))/\
      (¬16<((s.drop (a+2)).takeWhile cX).length->¬2^63<=fN ((s.drop (a+2)).takeWhile cX)->T=⟨2,[],(fN ((s.drop (a+2)).takeWhile cX):Int),0,a⟩):=by
  have hr:=DJ s (a+2) ha (by omega) 0 w b (cF L)
  have hself:=gb (s.drop (a+2)) cX
  have hle:=fe (s.drop (a+2)) cX
  have hall:=oX cX (s.drop (a+2))
  rw[List.length_drop]at hle
  have w2:IntKind.i64.wrap ((a:Int)+2)=((a+2:Nat):Int):=by rw[wrap_i64]<;>omega
  have htk:List.take ((((a+2+((s.drop (a+2)).takeWhile cX).length:Nat):Int)).toNat-(((a+2:Nat):Int)).toNat) (List.drop (((a+2:Nat):Int)).toNat s)=(s.drop (a+2)).takeWhile cX:=by
    rw[Int.toNat_natCast,Int.toNat_natCast,Nat.add_sub_cancel_left,<-hself]
  simp only
  generalize (s.drop (a+2)).takeWhile cX=h at *
  by_cases h16:16<h.length
  · have hfl := fK s ((a + 2 + h.length : Nat) : Int) 0 w 4 (a : Int) b (cF L)
    rw[if_pos rfl,if_pos rfl]at hfl
    have he:=pI s a 0 ((a+2+h.length:Nat):Int) 4 (a:Int) b L hL _ rfl
    refine⟨⟨2,[],IntKind.i64.wrap ((0:Nat):Int),0,a⟩,?_,fun x=>absurd h16 x⟩
    rw[if_pos h16,if_neg (show ¬((4:Int)=0) by decide)]
    unfold bo at hr hfl he⊢
    rw[t83,w2,dz hr (by rfl) (by rfl),aJ (a:=V.d (D.s s)) (by rfl),bj,fU,aJ (a:=V.d (D.i .i64 ((a+2+h.length:Nat):Int))) (by rfl),bj,bL,htk,aH (by omega),aH (by omega),bf (by omega),dz hfl (by rfl) (by rfl),aA,pX,eM (by rfl),aA]
    exact he
  · have hp:rk Tryz.prog aE (Task.call 182 [V.d (D.s h),V.d (D.i .i64 16),V.d (D.i .i64 64)] [])=some (.t [.d (.i .u64 (fN h:Nat)),.nifc],[]):=by
      rw[eQ (g:=jj) rfl]
      have hc:(16:Int)=16/\(64:Int)=64/\h≠[]/\h.length<=16/\h.all mB=true:=⟨rfl,rfl,hne,by omega,hall⟩
      exact if_pos hc
    have hf:((fN h:Nat):Int).fdiv 9223372036854775808=((fN h / 9223372036854775808:Nat):Int):=by
      have:=jC (fN h) 9223372036854775808
      exact this
    have go:rk Tryz.prog aE (Task.call 140 [V.p 0 0,V.d (D.i .i64 (a:Int))] [bo s a 0 w b (cF L)])=
        rk Tryz.prog aE (Task.at_ 140 1 [true,true,true,true,true,true] (sv 71 [(0,V.p 0 0),(1,V.d (D.i .i64 (a:Int))),(6,V.d (D.i .u64 ((fN h:Nat):Int)))]) [] [bo s ((a+2+h.length:Nat):Int) 0 w b (cF L)]):=by
      unfold bo at hr⊢
      rw[t83,w2,dz hr (by rfl) (by rfl),aJ (a:=V.d (D.s s)) (by rfl),bj,fU,aJ (a:=V.d (D.i .i64 ((a+2+h.length:Nat):Int))) (by rfl),bj,bL,htk,aH (by omega),aH (by omega),bc (by omega),KN hp (by rfl),aA]
    rw[go]
    by_cases h63:2^63<=fN h
    · have hfl := fK s ((a + 2 + h.length : Nat) : Int) 0 w 5 (a : Int) b (cF L)
      rw[if_pos rfl,if_pos rfl]at hfl
      have he:=pI s a (fN h) ((a+2+h.length:Nat):Int) 5 (a:Int) b L hL _ rfl
      refine⟨⟨2,[],IntKind.i64.wrap ((fN h:Nat):Int),0,a⟩,?_,fun _ x=>absurd h63 x⟩
      rw[if_neg h16,if_pos h63,if_neg (show ¬((5:Int)=0) by decide)]
      have hq:0<fN h / 9223372036854775808:=Nat.div_pos (by omega) (by decide)
      unfold bo at hfl he⊢
      rw[pX,hf,jl (by omega),dz hfl (by rfl) (by rfl),aA]
      exact he
    · have he := pI s a (fN h) ((a + 2 + h.length : Nat) : Int) 0 w b L hL ((fN h : Nat) : Int) (by rw [wrap_i64] <;> omega)
      refine⟨⟨2,[],((fN h:Nat):Int),0,a⟩,?_,fun _ _=>rfl⟩
      rw[if_neg h16,if_neg h63,if_pos rfl]
      have hq:fN h / 9223372036854775808=0:=Nat.div_eq_of_lt (by omega)
      unfold bo at he⊢
      rw[pX,hf,eM (by omega),aA]
      exact he
end Go.Dn.Dec
namespace Go.Dn.Dec
open Go.Proofs
theorem vT(t:List UInt8)(k:Nat):aG (t.getD k 0)=true↔(t.drop k).takeWhile aG≠[]:=by
 rw[List.getD_eq_getElem?_getD]
 have h:t[k]?=(t.drop k).head?:=by rw[List.head?_drop]
 rw[h]
 cases t.drop k with
 |nil=>simp;decide
 |cons c q=>
  rw[List.takeWhile_cons]
  simp only[List.head?_cons,Option.getD_some]
  cases aG c<;>simp
theorem JH(a b c d e v:V):[a,b,c,d,e].set 1 v=[a,v,c,d,e]:=rfl
theorem JN(s:List UInt8)(x k:Nat)(hk:k=1\/k=2)(hx:x<=s.length)(hs:s.length<=10000)(e w:Int)(b:Bool)(l:List D)(b0:Bool):
  rk Tryz.prog aE (Task.at_ 142 1 [true,true,false,true,false,true,true,false,true,true,true] (sv 73 [(0,V.p 0 0),(3,V.d (D.b b0)),(5,V.d (D.i .i64 1)),(51,V.d (D.b (k==2)))]) [] [bo s (x:Int) e w b l])=
   if ((s.drop x).drop k).takeWhile aG=[]then some (.d (.b b0),[bo s (x:Int) e w b l])
   else some (.d (.b true),[bo s ((x+k+(((s.drop x).drop k).takeWhile aG).length:Nat):Int) e w b l]):=by
 have hd:=vT (s.drop x) k
 have hr:((s.drop x).drop k).takeWhile aG≠[]->rk Tryz.prog aE (Task.call 136 [V.p 0 0,V.f 91 []] [bo s ((x+k:Nat):Int) e w b l])=some (.t [],[bo s ((x+k+(((s.drop x).drop k).takeWhile aG).length:Nat):Int) e w b l]):=by
  intro hne
  have hle:x+k<=s.length:=by
   rcases Nat.lt_or_ge s.length (x+k)with h|h
   ·exfalso;apply hne;rw[List.drop_drop,List.drop_eq_nil_of_le (by omega)];rfl
   ·exact h
  have:=lN s (x+k) hle (by omega) e w b l
  rwa[<-List.drop_drop]at this
 rcases hk with rfl|rfl
 ·have hp:rk Tryz.prog aE (Task.call 86 [V.p 0 0,V.d (D.i .i64 1)] [bo s (x:Int) e w b l])=_:=fR s x 1 e w b l (by omega)
  have hg:=gk ((s.drop x).getD 1 0)
  have w1:IntKind.i64.wrap ((x:Int)+1)=((x+1:Nat):Int):=by rw[wrap_i64]<;>omega
  by_cases hz:((s.drop x).drop 1).takeWhile aG=[]
  ·have hf:aG ((s.drop x).getD 1 0)=false:=by
    cases h:aG ((s.drop x).getD 1 0) with
    |false=>rfl
    |true=>exact absurd hz (hd.1 h)
   rw[if_pos hz]
   rw[hf]at hg
   unfold bo at hp⊢
   rw[kI,cj (by rfl),cr hp (by rfl) (by rfl),dh hg,aY,aD]
  ·have hr':=hr hz
   rw[hd.2 hz]at hg
   rw[if_neg hz]
   unfold bo at hp hr' ⊢
   rw[kI,cj (by rfl),cr hp (by rfl) (by rfl),dh hg,bk,aJ (a:=V.d (D.i .i64 (x:Int))) (by rfl),bj,bL,Bool.and_true,aH (by simp),w1,JH]
   rw[dz hr' (by rfl) (by rfl),aD]
 ·have hp:rk Tryz.prog aE (Task.call 86 [V.p 0 0,V.d (D.i .i64 2)] [bo s (x:Int) e w b l])=_:=fR s x 2 e w b l (by omega)
  have hg:=gk ((s.drop x).getD 2 0)
  have w1:IntKind.i64.wrap ((x:Int)+2)=((x+2:Nat):Int):=by rw[wrap_i64]<;>omega
  by_cases hz:((s.drop x).drop 2).takeWhile aG=[]
  ·have hf:aG ((s.drop x).getD 2 0)=false:=by
    cases h:aG ((s.drop x).getD 2 0) with
    |false=>rfl
    |true=>exact absurd hz (hd.1 h)
   rw[if_pos hz]
   rw[hf]at hg
   unfold bo at hp⊢
   rw[kI,da (by rfl),cr hp (by rfl) (by rfl),dh hg,aY,aD]
  ·have hr':=hr hz
   rw[hd.2 hz]at hg
   rw[if_neg hz]
   unfold bo at hp hr' ⊢
   rw[kI,da (by rfl),cr hp (by rfl) (by rfl),dh hg,bk,aJ (a:=V.d (D.i .i64 (x:Int))) (by rfl),bj,bL,Bool.and_true,aH (by simp),w1,JH]
   rw[dz hr' (by rfl) (by rfl),aD]
end Go.Dn.Dec
namespace Go.Dn.Dec
open Go.Proofs
def Ky(t:List UInt8):Bool:=t.getD 0 0==101||t.getD 0 0==69
theorem bG(c d:UInt8):((c.toNat:Int)==(d.toNat:Int))=(c==d):=by
 rw[mJ]
 by_cases h:c=d
 ·subst h;simp
 ·rw[decide_eq_false h,beq_eq_false_iff_ne.2 h]
theorem JM(s:List UInt8)(x:Nat)(hx:x<=s.length)(hs:s.length<=10000)(e w:Int)(b:Bool)(l:List D)(b0:Bool):
  rk Tryz.prog aE (Task.at_ 142 1 [true,true,false,true,true,true] (sv 73 [(0,V.p 0 0),(3,V.d (D.b b0)),(41,V.d (D.b (Ky (s.drop x))))]) [] [bo s (x:Int) e w b l])=
   some (.d (.b (b0||decide (dP (s.drop x)≠0))),[bo s ((x+dP (s.drop x):Nat):Int) e w b l]):=by
 cases hE:Ky (s.drop x) with
 |false=>
  have h0:dP (s.drop x)=0:=by
   unfold dP
   split
   ·rfl
   ·rename_i c q hcq
    rw[hcq]at hE
    unfold Ky at hE
    simp only[List.getD_cons_zero,Bool.or_eq_false_iff,beq_eq_false_iff_ne]at hE
    rw[if_neg (by rintro(h|h);exact hE.1 h;exact hE.2 h)]
  rw[h0]
  unfold bo
  rw[vG,aY,aD]
  simp
 |true=>
  have hp:rk Tryz.prog aE (Task.call 86 [V.p 0 0,V.d (D.i .i64 1)] [bo s (x:Int) e w b l])=_:=fR s x 1 e w b l (by omega)
  obtain⟨c,q,hcq⟩:∃c q,s.drop x=c::q:=by
   cases h:s.drop x with
   |nil=>rw[h]at hE;exact absurd hE (by decide)
   |cons c q=>exact⟨c,q,rfl⟩
  have hce:c=101\/c=69:=by
   rw[hcq]at hE
   unfold Ky at hE
   simpa using hE
  have hd:(s.drop x).getD 1 0=q.getD 0 0:=by rw[hcq];rfl
  have hkk:gX q=if q.getD 0 0=43\/q.getD 0 0=45 then 2 else 1:=by
   cases q with
   |nil=>rfl
   |cons d q=>rfl
  have hexp:dP (s.drop x)=if ((s.drop x).drop (gX q)).takeWhile aG=[]then 0 else gX q+(((s.drop x).drop (gX q)).takeWhile aG).length:=by
   rw[hcq]
   show (if c=101\/c=69 then _ else _)=_
   rw[if_pos hce]
  have h3:=JN s x (gX q) (by rw[hkk];split<;>simp) hx hs e w b l b0
  have hres:(if ((s.drop x).drop (gX q)).takeWhile aG=[]then some (V.d (.b b0),[bo s (x:Int) e w b l])
   else some (.d (.b true),[bo s ((x+gX q+(((s.drop x).drop (gX q)).takeWhile aG).length:Nat):Int) e w b l]))=
   some (.d (.b (b0||decide (dP (s.drop x)≠0))),[bo s ((x+dP (s.drop x):Nat):Int) e w b l]):=by
   rw[hexp]
   by_cases hz:((s.drop x).drop (gX q)).takeWhile aG=[]
   ·rw[if_pos hz,if_pos hz];simp
   ·have:=List.length_pos_iff.2 hz
    rw[if_neg hz,if_neg hz,decide_eq_true (by omega),Bool.or_true,Nat.add_assoc]
  rw[<-hres,<-h3]
  have e43:=bG ((s.drop x).getD 1 0) 43
  have e45:=bG ((s.drop x).getD 1 0) 45
  rw[hd]at e43 e45 hp
  have k43:((43:UInt8).toNat:Int)=43:=rfl
  have k45:((45:UInt8).toNat:Int)=45:=rfl
  rw[k43]at e43
  rw[k45]at e45
  rw[hkk]
  generalize q.getD 0 0=d at *
  unfold bo at hp⊢
  rw[vG,bk,cr hp (by rfl) (by rfl),e43,e45]
  by_cases h43:d=43
  ·rw[if_pos (Or.inl h43),da (beq_iff_eq.2 h43),aA];rfl
  ·rw[cj (beq_eq_false_iff_ne.2 h43),aA]
   by_cases h45:d=45
   ·rw[if_pos (Or.inr h45),beq_iff_eq.2 h45];rfl
   ·rw[if_neg (by rintro(h|h);exact h43 h;exact h45 h),beq_eq_false_iff_ne.2 h45];rfl
end Go.Dn.Dec
namespace Go.Dn.Dec
open Go.Proofs
theorem qZ(t:List UInt8):cH t=if t.getD 0 0=46/\aG (t.getD 1 0)=true then 1+((t.drop 1).takeWhile aG).length else 0:=by
 match t with
 | []=>rfl
 | [c]=>
  show 0=_
  rw[if_neg]
  rintro⟨-,h⟩
  exact absurd (show aG 0=true from h) (by decide)
 |c::d::q=>rfl
theorem vH(s:List UInt8)(y:Nat)(hy:y<=s.length)(hs:s.length<=10000)(e w:Int)(b:Bool)(l:List D)(b0:Bool):
  aC (rk Tryz.prog aE) (aT ((((s.drop y).getD 0 0).toNat:Int)==101)
   (Tr.call (Task.at_ 142 1 [true,true,false,true,true,true] (sv 73 [(0,V.p 0 0),(3,V.d (D.b b0)),(41,V.d (D.b true))]) [] [bo s (y:Int) e w b l]) Tr.ret)
   (Tr.call (Task.at_ 142 1 [true,true,false,true,true,true] (sv 73 [(0,V.p 0 0),(3,V.d (D.b b0)),(41,V.d (D.b ((((s.drop y).getD 0 0).toNat:Int)==69)))]) [] [bo s (y:Int) e w b l]) Tr.ret))=
   some (.d (.b (b0||decide (dP (s.drop y)≠0))),[bo s ((y+dP (s.drop y):Nat):Int) e w b l]):=by
 rw[<-JM s y hy hs e w b l b0]
 have e101:((((s.drop y).getD 0 0).toNat:Int)==101)=((s.drop y).getD 0 0==101):=bG _ 101
 have e69:((((s.drop y).getD 0 0).toNat:Int)==69)=((s.drop y).getD 0 0==69):=bG _ 69
 rw[e101,e69]
 unfold Ky
 cases h:((s.drop y).getD 0 0==101) with
 |true=>rw[bk,aA,Bool.true_or]
 |false=>rw[aY,aA,Bool.false_or]
theorem Ib(s:List UInt8)(x:Nat)(hx:x<=s.length)(hs:s.length<=10000)(e w:Int)(b:Bool)(l:List D):
  rk Tryz.prog aE (Task.at_ 142 1 [true,false,true,true] (sv 73 [(0,V.p 0 0),(3,V.d (D.b false)),(18,V.d (D.b false))]) [] [bo s (x:Int) e w b l])=
   some (.d (.b (decide (dP (s.drop x)≠0))),[bo s ((x+dP (s.drop x):Nat):Int) e w b l]):=by
 have hp:rk Tryz.prog aE (Task.call 86 [V.p 0 0,V.d (D.i .i64 0)] [bo s (x:Int) e w b l])=_:=fR s x 0 e w b l (by omega)
 have h:=vH s x hx hs e w b l false
 rw[Bool.false_or]at h
 rw[<-h]
 unfold bo at hp⊢
 rw[zE,aY,cr hp (by rfl) (by rfl)]
theorem Ic(s:List UInt8)(x:Nat)(hx:x+1<=s.length)(hs:s.length<=10000)(e w:Int)(b:Bool)(l:List D)(y:Nat)(hy:y=x+1+((s.drop (x+1)).takeWhile aG).length):
  rk Tryz.prog aE (Task.at_ 142 1 [true,false,true,true] (sv 73 [(0,V.p 0 0),(3,V.d (D.b false)),(18,V.d (D.b true))]) [] [bo s (x:Int) e w b l])=
   some (.d (.b true),[bo s ((y+dP (s.drop y):Nat):Int) e w b l]):=by
 have hle:=fe (s.drop (x+1)) aG
 rw[List.length_drop]at hle
 have hr:=lN s (x+1) hx (by omega) e w b l
 rw[<-hy]at hr
 have hp:rk Tryz.prog aE (Task.call 86 [V.p 0 0,V.d (D.i .i64 0)] [bo s (y:Int) e w b l])=_:=fR s y 0 e w b l (by omega)
 have h:=vH s y (by omega) hs e w b l true
 rw[Bool.true_or]at h
 have w1:IntKind.i64.wrap ((x:Int)+1)=((x+1:Nat):Int):=by rw[wrap_i64]<;>omega
 rw[<-h]
 unfold bo at hr hp⊢
 rw[zE,bk,aJ (a:=V.d (D.i .i64 (x:Int))) (by rfl),bj,bL,Bool.and_true,aH (by simp),w1,JH,dz hr (by rfl) (by rfl),cr hp (by rfl) (by rfl)]
theorem JO(s:List UInt8)(x:Nat)(hx:x<=s.length)(hs:s.length<=10000)(e w:Int)(b:Bool)(l:List D):
  rk Tryz.prog aE (Task.call 142 [V.p 0 0] [bo s (x:Int) e w b l])=
   some (.d (.b (decide (cH (s.drop x)≠0\/dP ((s.drop x).drop (cH (s.drop x)))≠0))),[bo s ((x+(cH (s.drop x)+dP ((s.drop x).drop (cH (s.drop x)))):Nat):Int) e w b l]):=by
 have hp0:rk Tryz.prog aE (Task.call 86 [V.p 0 0,V.d (D.i .i64 0)] [bo s (x:Int) e w b l])=_:=fR s x 0 e w b l (by omega)
 have hp1:rk Tryz.prog aE (Task.call 86 [V.p 0 0,V.d (D.i .i64 1)] [bo s (x:Int) e w b l])=_:=fR s x 1 e w b l (by omega)
 have hg:=gk ((s.drop x).getD 1 0)
 have e46:((((s.drop x).getD 0 0).toNat:Int)==46)=((s.drop x).getD 0 0==46):=bG _ 46
 have hf:=qZ (s.drop x)
 have h1f:=Ib s x hx hs e w b l
 have none_:cH (s.drop x)=0->some (V.d (.b (decide (dP (s.drop x)≠0))),[bo s ((x+dP (s.drop x):Nat):Int) e w b l])=
   some (V.d (.b (decide (cH (s.drop x)≠0\/dP ((s.drop x).drop (cH (s.drop x)))≠0))),[bo s ((x+(cH (s.drop x)+dP ((s.drop x).drop (cH (s.drop x)))):Nat):Int) e w b l]):=by
  intro h0
  rw[h0,List.drop_zero,Nat.zero_add]
  simp
 by_cases h46:(s.drop x).getD 0 0=46
 ·cases hd:aG ((s.drop x).getD 1 0) with
  |true=>
   rw[if_pos ⟨h46,hd⟩]at hf
   have hx1:x+1<=s.length:=by
    rcases Nat.lt_or_ge x s.length with h|h
    ·omega
    ·rw[List.drop_eq_nil_of_le h]at h46;exact absurd h46 (by decide)
   rw[hd]at hg
   have h1t:=Ic s x hx1 hs e w b l (x+cH (s.drop x)) (by rw[hf,List.drop_drop];omega)
   rw[List.drop_drop,<-Nat.add_assoc,decide_eq_true (Or.inl (by omega)),<-h1t]
   unfold bo at hp0 hp1⊢
   rw[t85,cr hp0 (by rfl) (by rfl),e46,da (beq_iff_eq.2 h46),cr hp1 (by rfl) (by rfl),dh hg,aA]
  |false=>
   rw[if_neg (by rw[hd];rintro⟨-,h⟩;cases h)]at hf
   rw[hd]at hg
   rw[<-none_ hf,<-h1f]
   unfold bo at hp0 hp1⊢
   rw[t85,cr hp0 (by rfl) (by rfl),e46,da (beq_iff_eq.2 h46),cr hp1 (by rfl) (by rfl),dh hg,aA]
 ·rw[if_neg (fun h=>h46 h.1)]at hf
  rw[<-none_ hf,<-h1f]
  unfold bo at hp0⊢
  rw[t85,cr hp0 (by rfl) (by rfl),e46,cj (beq_eq_false_iff_ne.2 h46),aA]
end Go.Dn.Dec
namespace Go.Dn.Dec
open Go.Proofs
theorem LU(a b c d e v:V):[a,b,c,d,e].set 4 v=[a,b,c,d,v]:=rfl
theorem BY(s:List UInt8)(x:Nat)(hx:x<=1000000)(e w:Int)(b:Bool)(L:List Tok)(hL:L.length<=100000)(T:Tok):
  rk Tryz.prog aE (Task.at_ 92 1 [true,true,true,true,true,true,true,true,true,true] (sv 192 [(0,V.p 0 0),(7,V.p 1 0)]) []
   [Ob.cells [V.d (D.i .i64 (T.kind:Int)),V.d (D.s T.text),V.d (D.i .i64 T.n),V.d (D.i .u64 (T.d:Int)),V.d (D.i .i64 (T.at_:Int))] [],bo s (x:Int) e w b (cF L)])=
   some (.t [],[if nW s x=true then bo s x (if e=0 then 2 else e) (if e=0 then(x:Int)else w) false (cF (L++[T]))else bo s x e w false (cF (L++[T]))]):=by
 have hsn:=iP L T
 unfold Tok.D at hsn
 have hb:=xv s x e w false (cF (L++[T])) hx
 unfold bo at hb⊢
 rw[Bh,aJ (a:=V.d (D.l b (cF L))) (by rfl)]
 show aC (rk Tryz.prog aE) (aW (V.d (D.l b (cF L))) _)=_
 rw[bj,ed,iO,ba,Bool.or_true,ba,aH (by rw[iu];omega),Bool.and_true,aH (by simp),hsn,Bool.and_false,LU]
 cases hB:nW s x with
 |true=>
  rw[hB,if_pos rfl]at hb
  rw[dz hb (by rfl) (by rfl),aD,if_pos rfl]
 |false=>
  rw[hB,if_neg (by decide)]at hb
  rw[dz hb (by rfl) (by rfl),aD,if_neg (by decide)]
end Go.Dn.Dec
namespace Go.Dn.Dec
open Go.Proofs
def na(s:List UInt8)(x:Nat)(e w:Int)(L:List Tok)(T:Tok):Ob:=
 if nW s x=true then bo s x (if e=0 then 2 else e) (if e=0 then(x:Int)else w) false (cF (L++[T]))else bo s x e w false (cF (L++[T]))
def Gm(k n:Int)(d:Nat)(a:Nat):Ob := .cells [V.d (D.i .i64 k),V.d (D.s []),V.d (D.i .i64 n),V.d (D.i .u64 (d:Int)),V.d (D.i .i64 (a:Int))] []
theorem BX(s:List UInt8)(x a d:Nat)(hx:x<=1000000)(e w:Int)(b:Bool)(L:List Tok)(hL:L.length<=100000):
  rk Tryz.prog aE (Task.at_ 92 1 [true,true,true,true,false,true,true,true,true,true,true,true,true,true] (sv 192 [(0,V.p 0 0),(7,V.p 1 0),(10,V.d (D.i .u64 (d:Int)))]) [] [Gm 3 0 0 a,bo s (x:Int) e w b (cF L)])=
   some (.t [],[na s x e w L ⟨3,[],0,d,a⟩]):=by
 have h:=BY s x hx e w b L hL ⟨3,[],0,d,a⟩
 unfold na Gm
 rw[<-h]
 unfold bo
 rw[zA,aA]
 rfl
theorem yG(s:List UInt8)(x a:Nat)(n:Int)(hx:x<=1000000)(e w:Int)(b:Bool)(L:List Tok)(hL:L.length<=100000):
  rk Tryz.prog aE (Task.at_ 92 1 [true,true,true,false,true,false,true,true,true,true,true,true,true,true,true] (sv 192 [(0,V.p 0 0),(7,V.p 1 0),(8,V.d (D.i .i64 n))]) [] [Gm 3 0 0 a,bo s (x:Int) e w b (cF L)])=
   some (.t [],[na s x e w L ⟨2,[],n,0,a⟩]):=by
 have h:=BY s x hx e w b L hL ⟨2,[],n,0,a⟩
 unfold na Gm
 rw[<-h]
 unfold bo
 rw[zB,aA]
 rfl
theorem B0(s:List UInt8)(x a:Nat)(n:Int)(ok:Bool)(hx:x<=1000000)(e w:Int)(b:Bool)(L:List Tok)(hL:L.length<=100000):
  rk Tryz.prog aE (Task.at_ 92 1 [true,true,false,true,false,true,true,true,true,true,true,true,true,true]
   (sv 192 [(0,V.p 0 0),(2,V.d (D.i .i64 (a:Int))),(7,V.p 1 0),(8,V.d (D.i .i64 n)),(9,V.d (D.b ok))]) [] [Gm 3 0 0 a,bo s (x:Int) e w b (cF L)])=
   some (.t [],[na s x (if ok=true then e else if e=0 then 5 else e) (if ok=true then w else if e=0 then(a:Int)else w) L ⟨2,[],n,0,a⟩]):=by
 cases ok with
 |true=>
  have h:=yG s x a n hx e w b L hL
  rw[if_pos rfl,if_pos rfl,<-h]
  unfold Gm bo
  rw[qH,jP,aA]
 |false=>
  have h:=yG s x a n hx (if e=0 then 5 else e) (if e=0 then(a:Int)else w) b L hL
  have hf:=fK s (x:Int) e w 5 (a:Int) b (cF L)
  have e1:(if false=true then e else if e=0 then 5 else e)=if e=0 then 5 else e:=if_neg (by decide)
  have e2:(if false=true then w else if e=0 then(a:Int)else w)=if e=0 then(a:Int)else w:=if_neg (by decide)
  rw[e1,e2,<-h]
  unfold Gm
  unfold bo at hf⊢
  rw[qH,iL,dz hf (by rfl) (by rfl),aA]
end Go.Dn.Dec
