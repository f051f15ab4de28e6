/- print: definitions' texts, files': the document's. -/
import Derived.Test.YtbjllhjbhdjfjaaGreatDoorP8
import Derived.Test.YtbjllhjbhdjfjaaGreatDoorP7
import Derived.Test.YtbjllhjbhdjfjaaGreatDoorP4
import Derived.KernelRfl
import Derived.Test.YtbjllhjbhdjfjaaGreatDoorP6
set_option linter.unusedVariables false
set_option linter.unusedSimpArgs false
set_option linter.unusedSectionVars false
namespace Go.Dn.Dec
open Go.IntKind (i64 u64 u8 u16 i32 u32)
open Go.Proofs
open Tryz (prog)
theorem Sb{f:Task->Option Out}{l:List D}{i w j:Nat}{x:D}{s:mP}(h:l[i]?=some x)(hw:x.width=w)(hj:x.cells[j]?=some (.s s)){K:mP->Tr}:
  aC f (ob (bJ l (i:Int)) λ d=>aH (d.width==w) (ob l[((i:Int)).toNat]? λ d2=>ob d2.cells[j]? λ d3=>eF d3 K))=aC f (K s):=by
 subst hw;rw[bQ,aR h,beq_self_eq_true,aN,Int.toNat_natCast,aR h,aR hj];rfl
theorem XE{f:Task->Option Out}{l:List D}{i w j:Nat}{x:D}{s:Bool}(h:l[i]?=some x)(hw:x.width=w)(hj:x.cells[j]?=some (.b s)){K:Bool->Tr}:
  aC f (ob (bJ l (i:Int)) λ d=>aH (d.width==w) (ob l[((i:Int)).toNat]? λ d2=>ob d2.cells[j]? λ d3=>fN d3 K))=aC f (K s):=by
 subst hw;rw[bQ,aR h,beq_self_eq_true,aN,Int.toNat_natCast,aR h,aR hj];rfl
theorem uV{f:Task->Option Out}{l:List D}{i w j:Nat}{x:D}{q:IntKind}{s:Int}(h:l[i]?=some x)(hw:x.width=w)(hj:x.cells[j]?=some (.i q s)){K:Int->Tr}:
  aC f (ob (bJ l (i:Int)) λ d=>aH (d.width==w) (ob l[((i:Int)).toNat]? λ d2=>ob d2.cells[j]? λ d3=>bR q d3 K))=aC f (K s):=by
 subst hw;rw[bQ,aR h,beq_self_eq_true,aN,Int.toNat_natCast,aR h,aR hj];show aC f (bR q (.i q s) K)=_;rw[bH,if_pos rfl]
abbrev dO(kd:Int)(nm ty:mP)(ck cn cu:Int)(cs:mP)(cb:Bool)(cl:List D)(fb:Bool)(fl:List D)(mb:Bool)(ml:List D)(ex:mP)(tb:Bool)(tl:List D):Ob:=
 Ob.cells (nY kd nm ty ck cn cu cs cb cl fb fl mb ml ex tb tl) []
section
variable (kd : Int) (nm ty : mP) (ck cn cu : Int) (cs : mP) (cb : Bool) (cl : List D) (fb : Bool) (fl : List D) (mb : Bool) (ml : List D) (ex : mP) (tb : Bool) (tl : List D)
theorem FK(h:∀y∈tl,KG y)(hl:tl.length<=100):∀(r p:List D) (a:mP),p++r=tl->(a++(r.map jh).flatten).length<=900000000->
  RY (.at_ 31 0 (fw 5631) (Fw a (p.length:Int)) [] [dO kd nm ty ck cn cu cs cb cl fb fl mb ml ex tb tl])=
   some (.d (.s (a++(r.map jh).flatten++[125,10])),[])
 | [],p,a,e,ha=>by
  rw[List.append_nil]at e;subst e;simp only[List.map_nil,List.flatten_nil,List.append_nil]at ha⊢;rw[RY,zp,bn,aJ];rfl
 |x::r,p,a,e,ha=>by
  have hlen:tl.length=p.length+(r.length+1):=by rw[<-e];simp
  have w1:=Wv p.length;have hx:x∈tl:=by rw[<-e];simp
  have g:tl[p.length]?=some x:=by rw[<-e];simp
  simp only[List.map_cons,List.flatten_cons,List.length_append]at ha;have hc:=Mg x (h x hx) (by omega);have hwd:=h x hx;have ih:=FK h hl r (p++[x]) (a++jh x) (by rw[<-e];simp) (by simp only[List.length_append];omega);rw[show (p++[x]).length=p.length+1 by simp]at ih;rw[RY,zp,bz];have hw5:x.width=5:=by obtain⟨_,_,_,_,_,_,_,rfl,_⟩:=hwd;rfl
  refine(qn g hw5).trans ?_;obtain⟨nm',ow',ret',ab',al',tb',tl',rfl,_⟩:=hwd;refine(fh hc).trans ?_;rw[aJ,w1];refine(aK ih).trans ?_;simp only[List.map_cons,List.flatten_cons,List.append_assoc]
theorem FJ(ht:∀y∈tl,KG y)(htl:tl.length<=100)(h:∀y∈fl,WF y)(hl:fl.length<=100):∀(r p:List D) (a:mP),p++r=fl->(a++(r.map wa).flatten++(tl.map jh).flatten).length<=900000000->
  RY (.at_ 31 0 (fw 2815) (Fi a (p.length:Int)) [] [dO kd nm ty ck cn cu cs cb cl fb fl mb ml ex tb tl])=
   some (.d (.s (a++(r.map wa).flatten++(tl.map jh).flatten++[125,10])),[])
 | [],p,a,e,ha=>by
  rw[List.append_nil]at e;subst e;simp only[List.map_nil,List.flatten_nil,List.append_nil]at ha⊢;rw[RY,zo,bn];exact aK (FK kd nm ty ck cn cu cs cb cl fb p mb ml ex tb tl ht htl tl [] a rfl ha)
 |x::r,p,a,e,ha=>by
  have hlen:fl.length=p.length+(r.length+1):=by rw[<-e];simp
  have w1:=Wv p.length;have hx:x∈fl:=by rw[<-e];simp
  have g:fl[p.length]?=some x:=by rw[<-e];simp
  simp only[List.map_cons,List.flatten_cons,List.length_append,wa]at ha;have hc:=FO x (h x hx) (by omega);have hwd:=h x hx;have ih:=FJ ht htl h hl r (p++[x]) (a++wa x) (by rw[<-e];simp) (by simp only[List.length_append,wa];omega);rw[show (p++[x]).length=p.length+1 by simp]at ih;rw[RY,zo,bz,aJ];refine(qn g (tE hwd)).trans ?_;obtain⟨h',id',r',t',nm',hi',k',n',u',s',bb',l',rfl,_⟩:=hwd;refine(fh hc).trans ?_;rw[aJ (by simp;omega),aJ (by simp;omega),w1,show ∀z:mP,a++[32,32]++z++[44,10]=a++([32,32]++z++[44,10]) by intro z;simp];refine(aK ih).trans ?_;simp only[List.map_cons,List.flatten_cons,List.append_assoc]
theorem FI(ht:∀y∈tl,KG y)(htl:tl.length<=100)(hf:∀y∈fl,WF y)(hfl:fl.length<=100)(h:∀y∈ml,WM y)(hl:ml.length<=100):∀(r p:List D) (a:mP),p++r=ml->(a++(r.map uB).flatten++(fl.map wa).flatten++(tl.map jh).flatten).length<=900000000->
  RY (.at_ 31 0 (fw 1407) (Bh a (p.length:Int)) [] [dO kd nm ty ck cn cu cs cb cl fb fl mb ml ex tb tl])=
   some (.d (.s (a++(r.map uB).flatten++(fl.map wa).flatten++(tl.map jh).flatten++[125,10])),[])
 | [],p,a,e,ha=>by
  rw[List.append_nil]at e;subst e;simp only[List.map_nil,List.flatten_nil,List.append_nil]at ha⊢;rw[RY,zn,bn];exact aK (FJ kd nm ty ck cn cu cs cb cl fb fl mb p ex tb tl ht htl hf hfl fl [] a rfl ha)
 |x::r,p,a,e,ha=>by
  have hlen:ml.length=p.length+(r.length+1):=by rw[<-e];simp
  have w1:=Wv p.length;have hx:x∈ml:=by rw[<-e];simp
  have g:ml[p.length]?=some x:=by rw[<-e];simp
  have hwd:=h x hx;have ih:=FI ht htl hf hfl h hl r (p++[x]) (a++uB x) (by rw[<-e];simp) (by simp only[List.map_cons,List.flatten_cons,List.length_append]at ha⊢;omega);rw[show (p++[x]).length=p.length+1 by simp]at ih;obtain⟨nm',h',n',rfl,h1,h2⟩:=hwd;have hb:=jQ h2;simp only[List.map_cons,List.flatten_cons,List.length_append,uB]at ha;have step:∀acc:mP,acc.length<=1000000000->acc++[44,10]=a++uB (mD nm' h' n')->
    RY (.at_ 31 0 (fw 117119) (Bh acc (p.length:Int)) [] [dO kd nm ty ck cn cu cs cb cl fb fl mb ml ex tb tl])=
     some (.d (.s (a++((mD nm' h' n'::r).map uB).flatten++(fl.map wa).flatten++(tl.map jh).flatten++[125,10])),[]):=by
   intro acc hacc hq;rw[RY,Ds,aJ,hq,w1];refine(aK ih).trans ?_;simp only[List.map_cons,List.flatten_cons,List.append_assoc]
  rw[RY,zn,bz,aJ,Sb (w:=3) (j:=0) (s:=nm') g rfl rfl,aJ (by simp;omega),XE (w:=3) (j:=1) (s:=h') g rfl rfl]
  cases h' with
  |true=>
   rw[bF,aJ (by simp;omega),uV (w:=3) (j:=2) (s:=n') g rfl rfl,fh (Ui n' h2),aJ (by simp;omega)];refine aK (step _ (by simp;omega) ?_);simp[uB,List.append_assoc]
  |false=>
   rw[bo];refine aK (step _ (by simp;omega) ?_);simp[uB,List.append_assoc]
end
def Uz(ex:mP):mP:=if ex=[]then []else [32,101,120,116,101,110,100,115,32]++ex
theorem T4:MX 31 WD oE:=by
 intro x hx hl;obtain⟨kd,nm,ty,ck,cn,cu,cs,cb,cl,fb,fl,mb,ml,ex,tb,tl,rfl,k1,k7,hnm,hty,hk3,hwc,hfl,hf,hml,hm,hex,htl,ht,n2,n4,n7⟩:=hx;obtain⟨k,rfl⟩:∃k:Nat,kd=(k:Int):=⟨kd.toNat,by omega⟩
 have hwd:∃w:mP,([D.s [],D.s [116,121,112,101,100,101,102,32],D.s [101,110,117,109,32],D.s [99,111,110,115,116,32],D.s [115,116,114,117,99,116,32],D.s [117,110,105,111,110,32],D.s [101,120,99,101,112,116,105,111,110,32],D.s [115,101,114,118,105,99,101,32]]:List D)[k]?=some (.s w)/\w.length<=10/\
   (k=1->w=[116,121,112,101,100,101,102,32])/\(k=3->w=[99,111,110,115,116,32])/\(k=2->w=[101,110,117,109,32])/\(k=7->w=[115,101,114,118,105,99,101,32])/\(4<=k/\k<=6->w=HH k):=by
  have hk:k<8:=by omega
  rcases k with _|_|_|_|_|_|_|_|k
  all_goals first
   |(refine⟨_,rfl,?_,?_,?_,?_,?_,?_⟩<;>simp[HH];done)
   |omega
 obtain⟨w,gw,hw10,e1,e3,e2,e7,sq⟩:=hwd;rw[RY,Yy,rU gw];have gen:∀acc:mP,(acc++[32,123,10]++(ml.map uB).flatten++(fl.map wa).flatten++(tl.map jh).flatten).length<=900000000->
   RY (.at_ 31 0 (fw 127) (Gj acc) [] [dO k nm ty ck cn cu cs cb cl fb fl mb ml ex tb tl])=
    some (.d (.s (acc++[32,123,10]++(ml.map uB).flatten++(fl.map wa).flatten++(tl.map jh).flatten++[125,10])),[]):=by
  intro acc hacc;have hacc':=hacc;simp only[List.length_append]at hacc';rw[RY,MS,aJ];exact aK (FI k nm ty ck cn cu cs cb cl fb fl mb ml ex tb tl ht htl hf hfl hm hml ml [] _ rfl hacc)
 simp only[oE]at hl⊢;by_cases c1:(k:Int)=1
 ·have:=e1 (by omega);subst this
  rw[bK c1,if_pos c1,aJ (by simp;omega),aJ (by simp;omega),aJ (by simp;omega),aJ (by simp;omega)];rfl
 by_cases c3:(k:Int)=3
 ·have:=e3 (by omega);subst this
  rw[if_neg c1,if_pos c3]at hl;rw[bu c1,bK c3,if_neg c1,if_pos c3,aJ (by simp;omega),aJ (by simp;omega),aJ (by simp;omega),aJ (by simp;omega)];have hcl:(eA (cD ck cn cu cs cb cl)).length<=900000000:=by simp only[cD,List.length_append]at hl⊢;omega
  refine(fh (sZ uY _ hwc (hk3 (by omega)) hcl)).trans ?_;rw[aJ (by simp;omega),aJ (by simp;omega)];rfl
 rw[bu c1,bu c3,if_neg c1,if_neg c3,aJ];rw[if_neg c1,if_neg c3]at hl;by_cases c2:(k:Int)=2
 ·obtain⟨rfl,rfl,rfl⟩:=n2 c2;have:=e2 (by omega);subst this;rw[if_pos c2]at hl⊢;have hg:=gen ([101,110,117,109,32]++nm) (by simp only[List.length_append,List.map_nil,List.flatten_nil,List.append_nil]at hl⊢;omega);simp only[List.map_nil,List.flatten_nil,List.append_nil]at hg;rw[show (!([]:mP)==[])=false from rfl,bo];exact aK hg
 rw[if_neg c2]at hl⊢;by_cases c7:(k:Int)=7
 ·obtain⟨rfl,rfl⟩:=n7 c7;have:=e7 (by omega);subst this;rw[if_pos c7]at hl⊢;by_cases hx:ex=[]
  ·subst hx;rw[if_pos rfl]at hl⊢;simp only[List.append_nil]at hl⊢;have hg:=gen ([115,101,114,118,105,99,101,32]++nm) (by simp only[List.length_append,List.map_nil,List.flatten_nil,List.append_nil]at hl⊢;omega);simp only[List.map_nil,List.flatten_nil,List.append_nil]at hg;rw[show (!([]:mP)==[])=false from rfl,bo];exact aK hg
  ·rw[if_neg hx]at hl⊢;have hg:=gen ([115,101,114,118,105,99,101,32]++nm++[32,101,120,116,101,110,100,115,32]++ex) (by simp only[List.length_append,List.map_nil,List.flatten_nil,List.append_nil]at hl⊢;omega);simp only[List.map_nil,List.flatten_nil,List.append_nil]at hg;rw[dz (by simpa using hx),aJ (by simp;omega),aJ (by simp;omega)];refine(aK hg).trans ?_;simp only[List.append_assoc]
 ·obtain⟨rfl,rfl,rfl⟩:=n4 (by omega)
  have:=sq (by omega);subst this;rw[if_neg c7]at hl⊢;have hg:=gen (HH k++nm) (by simp only[List.length_append,List.map_nil,List.flatten_nil,List.append_nil]at hl⊢;omega);simp only[List.map_nil,List.flatten_nil,List.append_nil]at hg;rw[show (!([]:mP)==[])=false from rfl,bo];exact aK hg
section
variable (ib : Bool) (il : List D) (sb : Bool) (sl : List D) (db : Bool) (dl : List D)
abbrev WH(ib:Bool)(il:List D)(sb:Bool)(sl:List D)(db:Bool)(dl:List D):Ob:=Ob.cells (pB ib il sb sl db dl) []
theorem FP(h:∀y∈dl,WD y)(hl:dl.length<=100):∀(r p:List D) (a:mP),p++r=dl->(a++(r.map oE).flatten).length<=900000000->
  RY (.at_ 13 0 (fw 175) (F4 a (p.length:Int)) [] [WH ib il sb sl db dl])=some (.d (.s (a++(r.map oE).flatten)),[])
 | [],p,a,e,ha=>by
  rw[List.append_nil]at e;subst e;simp only[List.map_nil,List.flatten_nil,List.append_nil]at ha⊢;rw[RY,BZ,bn];rfl
 |x::r,p,a,e,ha=>by
  have hlen:dl.length=p.length+(r.length+1):=by rw[<-e];simp
  have w1:=Wv p.length;have hx:x∈dl:=by rw[<-e];simp
  have g:dl[p.length]?=some x:=by rw[<-e];simp
  simp only[List.map_cons,List.flatten_cons,List.length_append]at ha;have hc:=T4 x (h x hx) (by omega);have hwd:=h x hx;have ih:=FP h hl r (p++[x]) (a++oE x) (by rw[<-e];simp) (by simp only[List.length_append];omega);rw[show (p++[x]).length=p.length+1 by simp]at ih;have hw12:x.width=12:=by obtain⟨_,_,_,_,_,_,_,_,_,_,_,_,_,_,_,_,rfl,_⟩:=hwd;rfl
  rw[RY,BZ,bz];refine(qn g hw12).trans ?_;obtain⟨_,_,_,_,_,_,_,_,_,_,_,_,_,_,_,_,rfl,_⟩:=hwd;refine(fh hc).trans ?_;rw[aJ,w1];refine(aK ih).trans ?_;simp only[List.map_cons,List.flatten_cons,List.append_assoc]
theorem J8(hd:∀y∈dl,WD y)(hdl:dl.length<=100)(h:∀y∈sl,WS y)(hl:sl.length<=100):∀(r p:List D) (a:mP),p++r=sl->(a++(r.map wG).flatten++(dl.map oE).flatten).length<=900000000->
  RY (.at_ 13 0 (fw 87) (FY a (p.length:Int)) [] [WH ib il sb sl db dl])=some (.d (.s (a++(r.map wG).flatten++(dl.map oE).flatten)),[])
 | [],p,a,e,ha=>by
  rw[List.append_nil]at e;subst e;simp only[List.map_nil,List.flatten_nil,List.append_nil]at ha⊢;rw[RY,GB,bn];exact aK (FP ib il sb p db dl hd hdl dl [] a rfl ha)
 |x::r,p,a,e,ha=>by
  have hlen:sl.length=p.length+(r.length+1):=by rw[<-e];simp
  have w1:=Wv p.length;have hx:x∈sl:=by rw[<-e];simp
  have g:sl[p.length]?=some x:=by rw[<-e];simp
  obtain⟨s1,s2,rfl,h1,h2⟩:=h x hx;simp only[List.map_cons,List.flatten_cons,List.length_append,wG]at ha;have ih:=J8 hd hdl h hl r (p++[F8 s1 s2]) (a++wG (F8 s1 s2)) (by rw[<-e];simp) (by simp only[List.length_append,wG];omega);rw[show (p++[F8 s1 s2]).length=p.length+1 by simp]at ih;rw[RY,GB,bz,aJ,Sb (w:=2) (j:=0) (s:=s1) g rfl rfl,aJ (by simp;omega),aJ (by simp;omega),Sb (w:=2) (j:=1) (s:=s2) g rfl rfl,aJ (by simp;omega),aJ (by simp;omega),w1];rw[show a++[110,97,109,101,115,112,97,99,101,32]++s1++[32]++s2++[10]=a++wG (F8 s1 s2) by simp[wG,List.append_assoc]];refine(aK ih).trans ?_;simp only[List.map_cons,List.flatten_cons,List.append_assoc]
theorem J7(hd:∀y∈dl,WD y)(hdl:dl.length<=100)(hs:∀y∈sl,WS y)(hsl:sl.length<=100)(h:∀y∈il,WI y)(hl:il.length<=100):∀(r p:List D) (a:mP),p++r=il->(a++(r.map CV).flatten++(sl.map wG).flatten++(dl.map oE).flatten).length<=900000000->
  RY (.at_ 13 0 (fw 43) (FX a (p.length:Int)) [] [WH ib il sb sl db dl])=some (.d (.s (a++(r.map CV).flatten++(sl.map wG).flatten++(dl.map oE).flatten)),[])
 | [],p,a,e,ha=>by
  rw[List.append_nil]at e;subst e;simp only[List.map_nil,List.flatten_nil,List.append_nil]at ha⊢;rw[RY,GA,bn];exact aK (J8 ib p sb sl db dl hd hdl hs hsl sl [] a rfl ha)
 |x::r,p,a,e,ha=>by
  have hlen:il.length=p.length+(r.length+1):=by rw[<-e];simp
  have w1:=Wv p.length;have hx:x∈il:=by rw[<-e];simp
  have g:il[p.length]?=some x:=by rw[<-e];simp
  obtain⟨s1,rfl,h1,h2⟩:=h x hx;simp only[List.map_cons,List.flatten_cons,List.length_append,CV]at ha;have ih:=J7 hd hdl hs hsl h hl r (p++[D.s s1]) (a++CV (D.s s1)) (by rw[<-e];simp) (by simp only[List.length_append,CV];omega);rw[show (p++[D.s s1]).length=p.length+1 by simp]at ih;rw[RY,GA,bz,aJ,Sb (w:=1) (j:=0) (s:=s1) g rfl rfl,aJ (by simp;omega),aJ (by simp;omega),w1];rw[show a++[105,110,99,108,117,100,101,32,34]++s1++[34,10]=a++CV (D.s s1) by simp[CV,List.append_assoc]];refine(aK ih).trans ?_;simp only[List.map_cons,List.flatten_cons,List.append_assoc]
end
theorem J9:MX 13 Se lG:=by intro x hx hl;obtain⟨ib,il,sb,sl,db,dl,rfl,h1,h2,h3,h4,h5,h6⟩:=hx;simp only[lG]at hl⊢;rw[RY,Yr];have:=J7 ib il sb sl db dl h6 h3 h5 h2 h4 h1 il [] [] rfl (by simpa using hl);exact aK this
set_option exponentiation.threshold 5000000
theorem Jg(x y:Nat):decide (fV x y ≥ 0) = !decide (x<y):=by
 unfold fV;by_cases h:x<y
 ·simp[h]
 ·by_cases h2:y<x<;>simp[h,h2]
theorem DC(b c:Bool)(x y:Nat)(hx:pQ x)(hy:pQ y)(n:Int)(h1:-700<=n)(h2:n<=700):
  rk prog aF (.call 104 [vl b (ws x),vl c (ws y),vi n] [])=some (.d (.b (!dy x y n)),[]):=by
 rw[f42];unfold dy;by_cases h:n<0
 ·have hw:i64.wrap (0-n)=((-n).toNat:Int):=U5;have ht:=p9 (-n).toNat (by omega);have hm:=nX b (tb (-n).toNat) x (10^(-n).toNat) hx.iC.fits (fK (dW (by omega))).fits;have hc:=sY (nb (x*10^(-n).toNat)) c (x*10^(-n).toNat) y (hx.mul (by omega)).fits hy.iC.fits;rw[bn,hw,eE ht,eE hm,ed hc,aD,Jg,if_pos h]
 ·have hw:n=(n.toNat:Int):=by omega
  have ht:=p9 n.toNat (by omega);rw[<-hw]at ht;have hm:=nX c (tb n.toNat) y (10^n.toNat) hy.iC.fits (fK (dW (by omega))).fits;have hc:=sY b (nb (y*10^n.toNat)) x (y*10^n.toNat) hx.iC.fits (hy.mul (by omega)).fits;rw[bz,eE ht,eE hm,ed hc,aD,Jg,if_neg h]
theorem wZ{x y:Nat}{n m:Int}(h:n<=m)(hb:dy x y n=true):dy x y m=true:=by rw[kb x y m n (m-n).toNat (by omega)];rw[zX]at hb;have h1:=of_decide_eq_true hb;exact decide_eq_true (Nat.lt_of_lt_of_le h1 (Nat.le_mul_of_pos_right _ (Nat.pow_pos (by decide))))
theorem Ms(x y:Nat)(hx0:0<x)(hx:pQ x)(hy:pQ y):dy x y ((((bE x:Int)-bE y)*30103).tdiv 100000-2)=false:=by
 have lx:=hx.bE;have ly:=hy.bE;have bx:=pS x (by omega);have by_:=nO y;have px:=kS (n:=x) (by omega);rcases Int.le_total 0 ((bE x:Int)-bE y)with h|h
 ·obtain⟨d,hd⟩:∃d:Nat,(bE x:Int)-bE y=d:=⟨((bE x:Int)-bE y).toNat,by omega⟩
  rw[hd];have e:((d:Int)*30103).tdiv 100000=((d*30103 / 100000:Nat):Int):=fG (d*30103) 100000;have hc:=List.all_eq_true.1 Ng d (List.mem_range.2 (by omega));rw[decide_eq_true_eq]at hc;rw[e];generalize d*30103 / 100000=t at hc;have e2:2^bE y*2^d=2*2^(bE x-1):=by rw[<-Nat.pow_add,Nat.mul_comm 2,<-Nat.pow_succ];congr 1;omega
  have h3:y*2^d<2*x:=by have:=Nat.mul_lt_mul_of_pos_right by_ (show 0<2^d from Nat.pow_pos (by decide));omega
  have h4:y*(10^t*2)<=y*(2^d*100):=Nat.mul_le_mul_left _ hc;have h5:y*(2^d*100)=y*2^d*100:=by rw[Nat.mul_assoc]
  have h6:y*(10^t*2)=y*10^t*2:=by rw[Nat.mul_assoc]
  unfold dy;by_cases ht:(t:Int)-2<0
  ·rw[if_pos ht];have e3:100=10^(-((t:Int)-2)).toNat*10^t:=by rw[<-Nat.pow_add,show (-((t:Int)-2)).toNat+t=2 by omega]
   have e4:x*10^(-((t:Int)-2)).toNat*10^t=x*100:=by rw[Nat.mul_assoc,<-e3]
   refine decide_eq_false (λ hlt=>?_);have:=Nat.mul_lt_mul_of_pos_right hlt (show 0<10^t from Nat.pow_pos (by decide));omega
  ·rw[if_neg ht,show ((t:Int)-2).toNat=t-2 by omega]
   have e3:10^t=10^(t-2)*100:=by rw[show (100:Nat)=10^2 from rfl,<-Nat.pow_add];congr 1;omega
   have e4:y*10^t=y*10^(t-2)*100:=by rw[e3,Nat.mul_assoc]
   exact decide_eq_false (by omega)
 ·obtain⟨d,hd⟩:∃d:Nat,(bE x:Int)-bE y = -(d:Int):=⟨((bE y:Int)-bE x).toNat,by omega⟩
  rw[hd];have e:(-(d:Int)*30103).tdiv 100000-2 = -((d*30103 / 100000+2:Nat):Int):=by have:((d:Int)*30103).tdiv 100000=((d*30103 / 100000:Nat):Int):=fG (d*30103) 100000;rw[Int.neg_mul,Int.neg_tdiv,this];omega
  have hc:=List.all_eq_true.1 Nh d (List.mem_range.2 (by omega));rw[decide_eq_true_eq]at hc;rw[e];unfold dy;rw[if_pos (by omega),show (- -((d*30103 / 100000+2:Nat):Int)).toNat=d*30103 / 100000+2 by omega];generalize d*30103 / 100000+2=t at hc;have e2:2^(bE x-1)*2^(d+1)=2^bE y:=by rw[<-Nat.pow_add];congr 1;omega
  have h3:=Nat.mul_le_mul bx hc;exact decide_eq_false (by omega)
theorem Ip(x y:Nat)(hx0:0<x)(hy0:0<y)(hx:pQ x)(hy:pQ y):∃(n:Int) (q:Nat),dy x y n=false/\dy x y (n+1)=true/\-400<=n/\n<=350/\cK x y (n-16)=q/\10^16<=q/\q<=10^17/\
  ∀sg,pF sg x y=if q=10^17 then k9 sg (cC (10^16)) (n+1)else k9 sg (cC q) n:=by
 obtain⟨n,hn,b1,b2,n1,n2⟩:=qU x y hx0 hy0 hx hy;refine⟨n,cK x y (n-16),b1,b2,n1,n2,rfl,?_⟩;rw[kb x y n (n-16) 16 (by omega)]at b1;rw[kb x y (n+1) (n-16) 17 (by omega)]at b2;have c1:10^16*(y*mq (n-16))<=x*lI (n-16):=by have:=of_decide_eq_false b1;rw[Nat.mul_comm];omega
 have c2:x*lI (n-16)<10^17*(y*mq (n-16)):=by have:=of_decide_eq_true b2;rw[Nat.mul_comm (10^17)];exact this
 have hB:0<y*mq (n-16):=Nat.mul_pos hy0 (qf _);have hq:=lk x y (n-16);obtain⟨q1,q2,q3,q4⟩:=tc hB hq.symm c1 c2;have sh:=zg (n+1-16) (n-16) 1 (by omega);have hnext:cK x y (n-16)=10^17->cK x y (n+1-16)=10^16:=by
  intro hqe;rw[lk];refine yL (A:=x*lI (n-16)) (B:=y*mq (n-16)) (s:=lI (n-16)) (s':=lI (n+1-16)) (Nat.mul_pos hy0 (qf _)) (j9 _) (j9 _) (Nat.mul_right_comm _ _ _) ?_ ?_ c2
  ·rw[Nat.mul_assoc y,sh];generalize mq (n-16)=a;generalize lI (n+1-16)=b;rw[Nat.pow_one,Nat.mul_assoc y a 10,Nat.mul_assoc y,Nat.mul_right_comm a 10 b,Nat.mul_comm 10 (a*b)]
  ·rw[hqe]at q3;exact q3
 refine⟨q1,q2,λ sg=>?_⟩;unfold pF;simp only[hn];generalize cK x y (n-16)=q at *;have ht:ff q=cC q:=by unfold ff;rw[Nat.mod_eq_of_lt (by omega)]
 rw[ht];by_cases h17:q=10^17
 ·rw[if_pos h17,if_pos (by rw[gT 17 q (by omega) (by omega)];decide),hnext h17]
  rfl
 ·rw[if_neg h17,if_neg (by rw[gT 16 q q1 (by omega)];decide)]
def vM(t:mP):mP:=if trimRightB 48 t=[]then [48]else trimRightB 48 t
theorem MG(t:mP):trimRightB 48 (t++[48])=trimRightB 48 t:=by unfold trimRightB;rw[List.reverse_append];rfl
theorem BR(t:mP){c:UInt8}(h:c≠48):trimRightB 48 (t++[c])=t++[c]:=by unfold trimRightB;rw[List.reverse_append,List.reverse_singleton,List.singleton_append,List.dropWhile_cons,if_neg (by simpa using h)];simp
def T6(sg:mP)(n:Int)(text tail:mP):Task:=
 Task.at_ 48 0 (fw 10485759) (Fa sg n text tail) [] []
theorem Gp(sg text tail:mP)(n:Int)(h1:sg.length<=100)(h2:1<=text.length)(h3:text.length<=100)(h4:tail.length<=100)(n1:-1000<=n)(n2:n<=1000):
  rk prog aF (.at_ 48 0 (fw 102760447)
    (Rf sg n text tail false) [] [])=some (.d (.s (sg++text.take 1++[46]++tail++[101]++cZ n)),[]):=by
 have ht:=SE n (by omega) (by omega);have hd:=kT (n:=n) (by omega) (by omega);rw[oh,bo,List.drop_zero,aJ,aJ (by rw[List.length_take];omega),aJ (by simp;omega),aJ (by simp;omega),aJ (by simp;omega),fh ht,aJ (by simp;omega),aD]
theorem BP(sg text:mP)(n:Int)(h1:sg.length<=100)(h2:1<=text.length)(h3:text.length<=100)(n1:-1000<=n)(n2:n<=1000):∀(k:Nat) (tail:mP),tail.length=k+1->k<=90->
  rk prog aF (T6 sg n text tail)=some (.d (.s (sg++text.take 1++[46]++vM tail++[101]++cZ n)),[])
 |0,tail,hl,_=>by
  obtain⟨c,rfl⟩:∃c,tail=[c]:=by
   match tail,hl with
   | [c],_=>exact⟨c,rfl⟩
  unfold T6;rw[oV,bn (by simp),aA,Gp sg text [c] n h1 h2 h3 (by simp) n1 n2];have:vM [c]=[c]:=by
   unfold vM;by_cases hc:c=48
   ·subst hc;rfl
   ·have:=BR [] hc;rw[List.nil_append]at this;rw[this,if_neg (by simp)]
  rw[this]
 |k+1,tail,hl,hk=>by
  rcases List.eq_nil_or_concat tail with h|⟨init,c,h⟩
  ·rw[h]at hl;simp at hl
  ·have h:tail=init++[c]:=by simpa using h
   subst h;have li:init.length=k+1:=by simp at hl;omega
   have hw:i64.wrap ((((init++[c]).length:Nat):Int)-1)=(init.length:Int):=by rw[List.length_append,List.length_singleton,wrap_i64]<;>omega
   have hg:bJ (init++[c]) (init.length:Int)=some c:=by rw[bQ];simp
   unfold T6;rw[oV,bz (by rw[hl];omega),hw,aR hg,aA,show ((c.toNat:Int)==48)=decide (c=48)from qG c 48];by_cases hc:c=48
   ·have ih:=BP sg text n h1 h2 h3 n1 n2 k init li (by omega)
    have ht:List.take ((init.length:Int).toNat-0) (List.drop 0 (init++[c]))=init:=by simp
    have hr:vM (init++[c])=vM init:=by unfold vM;rw[hc,MG]
    rw[decide_eq_true hc,oh,bF,hw,aJ (by rw[hl];omega),ht,aA,hr];exact ih
   ·have hr:vM (init++[c])=init++[c]:=by unfold vM;rw[BR init hc,if_neg (by simp)]
    rw[decide_eq_false hc,Gp sg text _ n h1 h2 h3 (by rw[hl];omega) n1 n2,hr]
theorem Jo(sg:mP)(d:Nat)(n:Int)(h1:sg.length<=100)(d1:10^16<=d)(d2:d<10^17)(n1:-1000<=n)(n2:n<=1000):
  rk prog aF (.at_ 48 0 (fw 1048575) (BA sg n (d:Int)) [] [])=some (.d (.s (k9 sg (cC d) n)),[]):=by
 have hl:=gT 16 d d1 d2;have hp:=IG d (by omega);have e:List.take ((cC d).length-1) (List.drop 1 (cC d))=(cC d).drop 1:=by rw[List.take_of_length_le];simp
 have hL:=BP sg (cC d) n h1 (by omega) (by omega) n1 n2 15 ((cC d).drop 1) (by rw[List.length_drop,hl]) (by decide);rw[zA,fh hp,aJ,e,aA];exact hL
theorem DY(sg:mP)(hsg:sg.length<=100)(A B q:Nat)(n:Int)(hqn:dE A B=q)(q1:10^16<=q)(q2:q<=10^17)(hA:Fits (A / B))(n1:-400<=n)(n2:n<=350)(bb:Bool)(hbb:bb=true↔(B<2*(A%B)\/(2*(A%B)=B/\A / B%2=1))):
  rk prog aF (.at_ 48 0 (fw 458751) (MV sg n (nb (A / B)) (ws (A / B)) bb) [] [])=
   some (.d (.s (if q=10^17 then k9 sg (cC (10^16)) (n+1)else k9 sg (cC q) n)),[]):=by
 have o1:rk prog aF (.call 101 [vu 1] [])=_:=yA 1 (by decide);have hm:q%18446744073709551616=q:=Nat.mod_eq_of_lt (by omega);have w1:i64.wrap (n+1)=n+1:=U5;have e1:(q:Int).tdiv 10=((q / 10:Nat):Int):=fG q 10;have w2:u64.wrap ((q / 10:Nat):Int)=((q / 10:Nat):Int):=by rw[aT];omega
 have last:∀X:Tr,X=(aM ((q:Int)==100000000000000000)
   (Tr.call (.at_ 48 0 (fw 1048575) (BA sg (i64.wrap (n+1)) (u64.wrap ((q:Int).tdiv 10))) [] []) Tr.ret)
   (Tr.call (.at_ 48 0 (fw 1048575) (BA sg n (q:Int)) [] []) Tr.ret))->
   aC (rk prog aF) X=some (.d (.s (if q=10^17 then k9 sg (cC (10^16)) (n+1)else k9 sg (cC q) n)),[]):=by
  intro X hX;rw[hX,w1,e1,w2];by_cases h:q=10^17
  ·rw[bK,aA,if_pos h,show q / 10=10^16 by omega]
   exact Jo sg (10^16) (n+1) hsg (Nat.le_refl _) (by decide) (by omega) (by omega)
  ·rw[bu,aA,if_neg h];exact Jo sg q n hsg q1 (by omega) (by omega) (by omega)
 rw[Cm];unfold dE at hqn
 cases bb with
 |true=>
  rw[if_pos (hbb.1 rfl)]at hqn;have ha:=nV (nb (A / B)) (nb 1) (A / B) 1 hA Cq;rw[hqn]at ha;have hl:=s6 (nb q) q;rw[hm]at hl;rw[bF,eE o1,eE ha,ed hl];exact last _ rfl
 |false=>
  rw[if_neg (λ h=>absurd (hbb.2 h) (by decide))]at hqn;have hl:=s6 (nb q) q;rw[hm]at hl;rw[hqn,bo,ed hl];exact last _ rfl
theorem DX(sg:mP)(hsg:sg.length<=100)(b c:Bool)(A B q:Nat)(n:Int)(hA:Fits A)(hB2:Fits (B*2))(hB0:0<B)(hqn:dE A B=q)(q1:10^16<=q)(q2:q<=10^17)(n1:-400<=n)(n2:n<=350):
  rk prog aF (.at_ 48 0 (fw 32767) (yQ sg b (ws A) c (ws B) n) [] [])=
   some (.d (.s (if q=10^17 then k9 sg (cC (10^16)) (n+1)else k9 sg (cC q) n)),[]):=by
 have hd:=J5 b c A B hA hB2 hB0;have hrl:A%B<B:=Nat.mod_lt _ hB0;have fB:Fits B:=hB2.le (by omega);have fq:Fits (A / B):=hA.le (Nat.div_le_self _ _);have fr:Fits (A%B):=hB2.le (by omega);have frr:Fits (A%B+A%B):=hB2.le (by omega);have ha:=nV (nb (A%B)) (nb (A%B)) (A%B) (A%B) fr fr;have hc:=sY (nb (A%B+A%B)) c (A%B+A%B) B frr fB;have tail:=DY sg hsg A B q n hqn q1 q2 fq n1 n2;have hle:A / B<=q:=by rw[<-hqn];unfold dE;split<;>omega
 have hl:=s6 (nb (A / B)) (A / B);rw[Nat.mod_eq_of_lt (show A / B<18446744073709551616 by omega)]at hl;have e2:((A / B:Nat):Int).tmod 2=((A / B%2:Nat):Int):=kr (A / B) 2;rw[Ee,Po hd,eE ha,ed hc];unfold fV;by_cases h1:A%B+A%B<B
 ·rw[if_pos h1,bn (by decide),bu (by decide),aA]
  exact tail false ⟨λ h=>absurd h (by decide),λ h=>by omega⟩
 ·rw[if_neg h1];by_cases h2:B<A%B+A%B
  ·rw[if_pos h2,bz (by decide),aA]
   exact tail true ⟨λ _=>by omega,λ _=>rfl⟩
  ·rw[if_neg h2,bn (by decide),bK rfl,ed hl,aA,e2]
   refine tail _ ?_;rw[beq_iff_eq];constructor
   ·intro h;omega
   ·intro h;omega
theorem yC(sg:mP)(hsg:sg.length<=100)(x y:Nat)(hx0:0<x)(hy0:0<y)(hx:pQ x)(hy:pQ y)(n:Int)(q:Nat)(b1:dy x y n=false)(b2:dy x y (n+1)=true)(n1:-400<=n)(n2:n<=350)(hq:cK x y (n-16)=q)(q1:10^16<=q)(q2:q<=10^17):∀(k:Nat) (b c:Bool),-600<=n-(k:Int)->
  rk prog aF (.at_ 48 0 (fw 10239) (yQ sg b (ws x) c (ws y) (n-(k:Int))) [] [])=
   some (.d (.s (if q=10^17 then k9 sg (cC (10^16)) (n+1)else k9 sg (cC q) n)),[])
 |k+1,b,c,hk=>by
  have w:i64.wrap (n-((k+1:Nat):Int)+1)=n-(k:Int):=U5;have hb:dy x y (n-(k:Int))=false:=by
   cases h:dy x y (n-(k:Int)) with
   |false=>rfl
   |true=>
    have:=wZ (show n-(k:Int)<=n by omega) h;rw[b1]at this;cases this
  have ha:=DC b c x y hx hy (n-(k:Int)) (by omega) (by omega);rw[hb]at ha;rw[vg,w,dH ha,Bool.not_false,bF,aA];exact yC sg hsg x y hx0 hy0 hx hy n q b1 b2 n1 n2 hq q1 q2 k b c (by omega)
 |0,b,c,hk=>by
  have e0:n-((0:Nat):Int)=n:=by omega
  have w:i64.wrap (n+1)=n+1:=U5;have w1:i64.wrap (16-n)=16-n:=U5;have ha:=DC b c x y hx hy (n+1) (by omega) (by omega);rw[b2]at ha;rw[lk]at hq;rw[e0,vg,w,w1,dH ha,Bool.not_true,bo];by_cases h:16-n ≥ 0
  ·have ht:=p9 (16-n).toNat (by omega)
   rw[show (((16-n).toNat:Nat):Int)=16-n by omega]at ht;have hm:=nX b (tb (16-n).toNat) x (10^(16-n).toNat) hx.iC.fits (fK (dW (by omega))).fits;have hp:mq (n-16)=1:=by unfold mq;rw[show (n-16).toNat=0 by omega,Nat.pow_zero]
   have hqq:lI (n-16)=10^(16-n).toNat:=by unfold lI;rw[show (-(n-16)).toNat=(16-n).toNat by omega]
   rw[hp,hqq,Nat.mul_one]at hq;rw[bz h,eE ht,eE hm,aA];exact DX sg hsg _ c _ y q n (hx.mul (by omega)).fits hy.iC.fits2 hy0 hq q1 q2 n1 n2
  ·have w2:i64.wrap (0-(16-n))=(((n-16).toNat:Nat):Int):=U5;have ht:=p9 (n-16).toNat (by omega);have hm:=nX c (tb (n-16).toNat) y (10^(n-16).toNat) hy.iC.fits (fK (dW (by omega))).fits;have hp:mq (n-16)=10^(n-16).toNat:=rfl;have hqq:lI (n-16)=1:=by unfold lI;rw[show (-(n-16)).toNat=0 by omega,Nat.pow_zero]
   rw[hp,hqq,Nat.mul_one]at hq;rw[bn h,w2,eE ht,eE hm,aA];exact DX sg hsg b _ x _ q n hx.iC.fits (hy.mul (by omega)).fits2 (Nat.mul_pos hy0 (Nat.pow_pos (by decide))) hq q1 q2 n1 n2
theorem Bw(sg:mP)(hsg:sg.length<=100)(x y:Nat)(hx0:0<x)(hy0:0<y)(hx:pQ x)(hy:pQ y)(b c:Bool):
  rk prog aF (.at_ 48 0 (fw 2047) (sv 147 [(3,vs sg),(6,vl b (ws x)),(7,vl c (ws y))]) [] [])=some (.d (.s (pF sg x y)),[]):=by
 have h1:=pw b x hx.iC.fits;have h2:=pw c y hy.iC.fits;have l1:=hx.bE;have l2:=hy.bE;have hb:=pJ ((bE x:Int)-bE y) (by omega) (by omega);have hlow:=Ms x y hx0 hx hy;obtain⟨n,q,b1,b2,n1,n2,hq,q1,q2,hs⟩:=Ip x y hx0 hy0 hx hy;have v1:i64.wrap ((bE x:Int)-bE y)=(bE x:Int)-bE y:=U5;have v2:i64.wrap (((bE x:Int)-bE y)*30103)=((bE x:Int)-bE y)*30103:=U5;rw[Hj,ed h1,ed h2,v1,v2,aA,hs sg];generalize (((bE x:Int)-bE y)*30103).tdiv 100000=z at *;have v3:i64.wrap z=z:=U5;have v4:i64.wrap (z-2)=z-2:=U5;have hle:z-2<=n:=by
  rcases Int.lt_or_le n (z-2)with h|h
  ·have:=wZ (show n+1<=z-2 by omega) b2
   rw[hlow]at this;cases this
  ·exact h
 have hL:=yC sg hsg x y hx0 hy0 hx hy n q b1 b2 n1 n2 hq q1 q2 (n-(z-2)).toNat b c (by omega);rw[show n-(((n-(z-2)).toNat:Nat):Int)=z-2 by omega]at hL;rw[v3,v4];exact hL
theorem RA(b:Nat)(hb:b<18446744073709551616):rk prog aF (.call 48 [vu (b:Int)] [])=some (.d (.s (fY b)),[]):=by
 have h0:(b:Int).fdiv 9223372036854775808=((b / 2^63:Nat):Int):=kg b 9223372036854775808;have h1:(b:Int).fdiv 4503599627370496=((b / 2^52:Nat):Int):=kg b 4503599627370496;have h2:(BitVec.ofInt u64.bits ((b / 2^52:Nat):Int) &&& BitVec.ofInt u64.bits 2047).toNat=b / 2^52%2048:=
  rY (b:=b / 2^52) (k:=11) (by omega) 2047 (by decide)
 have w1:u64.wrap ((b / 2^52%2048:Nat):Int)=((b / 2^52%2048:Nat):Int):=by rw[aT];omega
 have w1':i64.wrap ((b / 2^52%2048:Nat):Int)=((b / 2^52%2048:Nat):Int):=U5;have h3:(BitVec.ofInt u64.bits (b:Int) &&& BitVec.ofInt u64.bits 4503599627370495).toNat=b%2^52:=rY (b:=b) (k:=52) hb 4503599627370495 (by decide);have w3:u64.wrap ((b%2^52:Nat):Int)=((b%2^52:Nat):Int):=by rw[aT];omega
 have main:∀sg:mP,sg.length<=1->(if 2^63<=b then [45] else([]:mP))=sg->
   rk prog aF (.at_ 48 0 (fw 15) (sv 147 [(0,vu (b:Int)),(3,vs sg)]) [] [])=some (.d (.s (fY b)),[]):=by
  intro sg hsl hsg;rw[NI,h1,h2,w1,w1',h3,w3];unfold fY;rw[hsg];by_cases hk:b / 2^52%2048=2047
  ·rw[bK,aD,if_pos hk]
  ·rw[bu,if_neg hk];simp only;have go:∀(e m:Nat),(dL (b%2^63))=(if (e:Int)-1075<0 then(m,2^(-((e:Int)-1075)).toNat) else(m*2^((e:Int)-1075).toNat,1))->e<=2046->m<2^53->b%2^63≠0->
     rk prog aF (.at_ 48 0 (fw 511) (Ge sg (e:Int) (m:Int)) [] [])=some (.d (.s (pF sg (dL (b%2^63)).1 (dL (b%2^63)).2)),[]):=by
    intro e m hr he hm hne;have ho:=yA m (by omega);obtain⟨s1,s2,s3⟩:=sX (b%2^63) (by omega) (by omega);have s0:=sW (b%2^63) hne;rw[Lc,eE ho];by_cases h:(e:Int) ≥ 1075
    ·have wE:i64.wrap ((e:Int)-1075)=((e-1075:Nat):Int):=U5;have hsh:=wJ (nb m) m (e-1075) (JF (by omega)).fits (by omega);rw[UM,show ((e:Int)-1075).toNat=e-1075 by omega]at hr;rw[hr]at s0 s1 s2 s3⊢;have:=Bw sg (by omega) _ 1 s0 (by decide) s1 s2 (nb (m*2^(e-1075))) true;rw[Dr]at this;rw[bz h,wE,eE hsh,aA];exact this
    ·have wE:i64.wrap (1075-(e:Int))=((1075-e:Nat):Int):=U5;have hsh:=wJ true 1 (1075-e) xN (by omega);rw[Dr,Nat.one_mul]at hsh;rw[if_pos (by omega),show (-((e:Int)-1075)).toNat=1075-e by omega]at hr;rw[hr]at s0 s1 s2 s3⊢;have:=Bw sg (by omega) m _ s0 s3 s1 s2 (nb m) (nb (2^(1075-e)));rw[bn h,wE,eE hsh,aA];exact this
   have hcd:b%2^63 / 2^52=b / 2^52%2048:=by omega
   have hcm:b%2^63%2^52=b%2^52:=by omega
   by_cases he:b / 2^52%2048=0
   ·rw[bK,aA,Az];by_cases hm:b%2^52=0
    ·have hz:b%2^63=0:=by omega
     rw[if_pos hz,dz (by rw[beq_iff_eq];omega),aJ,aD]
    ·have hz:b%2^63≠0:=by omega
     rw[if_neg hz,cF (by rw[beq_eq_false_iff_ne];omega),bK,aA];refine go 1 (b%2^52) ?_ (by decide) (by omega) hz;unfold dL;simp only[hcd,hcm,if_pos he];rfl
   ·have hz:b%2^63≠0:=by omega
    have hor:(BitVec.ofInt u64.bits ((b%2^52:Nat):Int) ||| BitVec.ofInt u64.bits 4503599627370496).toNat=b%2^52+2^52:=by have:=k6 (a:=b%2^52) (b:=4503599627370496) (by omega) (by decide);have e:=ps (c:=b%2^52) (a:=1) (k:=52) (Nat.mod_lt _ (by decide));rw[Nat.one_mul]at e;exact Eq.trans this e
    have w5:u64.wrap ((b%2^52+2^52:Nat):Int)=((b%2^52+2^52:Nat):Int):=by rw[aT];omega
    rw[bu,aA,Az,bo,bu,hor,w5,aA,if_neg hz];refine go (b / 2^52%2048) (b%2^52+2^52) ?_ (by omega) (by omega) hz;unfold dL;simp only[hcd,hcm,if_neg he];have e1:(-1074:Int)+(((b / 2^52%2048:Nat):Int)-1)=((b / 2^52%2048:Nat):Int)-1075:=by omega
    rw[e1]
 rw[f16,h0];by_cases ht:2^63<=b
 ·rw[bK,aA];exact main [45] (by decide) (if_pos ht)
 ·rw[bu,aA];exact main [] (by decide) (if_neg ht)
set_option maxRecDepth 100000
theorem yJ{args:List V}{S:List Ob}{o:Out}{k:Nat}(hk:k=50\/k=48)(h:kq args S=some o):cf prog k args S o:=by
 unfold kq at h;split at h
 ·rename_i n;split at h
  ·rename_i hc;injection h with h;subst h
   have h1:=T8 n.toNat (by omega);have h2:=RA n.toNat (by omega);rw[Int.toNat_of_nonneg hc.1]at h1 h2;rcases hk with rfl|rfl
   ·exact gG mixed D7 fQ (ic h1)
   ·exact gG mixed D7 fQ (ic h2)
  ·cases h
 ·cases h
theorem MB{args:List V}{S:List Ob}{o:Out}(h:tu args S=some o):cf prog 47 args S o:=by
 unfold tu at h;split at h
 ·rename_i n;split at h
  ·rename_i hc;injection h with h;subst h
   exact gG mixed D7 fQ (ic (SE n hc.1 hc.2))
  ·cases h
 ·cases h
theorem Tp:od prog bA:=by
 intro k g hg args S o ho;simp only[bA,Va]at hg;split at hg
 ·injection hg with hg;subst hg;exact KV ho
 ·injection hg with hg;subst hg;exact Pu ho
 ·injection hg with hg;subst hg;exact EM ho
 ·injection hg with hg;subst hg;exact Lw ho
 ·injection hg with hg;subst hg;exact yJ (.inl rfl) ho
 ·injection hg with hg;subst hg;exact yJ (.inr rfl) ho
 ·injection hg with hg;subst hg;exact MB ho
 ·exact D7 k g hg args S o ho
theorem NY:kP prog (run prog bA):=λ k args S o h=>gG mixed Tp fQ h
theorem Sh:kP prog (run prog aF):=λ k args S o h=>gG mixed D7 fQ h
theorem TI(zs:List Int):RY (.call 10 [vl false (ints .u8 zs)] [])=some (.p 0 0,[pk zs 0]):=by have:∀l:List D,rk prog bA (.call 10 [vl false l] [])=aC (rk prog bA) (Tr.ret (V.p 0 0,[Ob.cells [vl false l,vi 0] []])):=λ l=>aE (by kernel_rfl);rw[RY,this];rfl
theorem Xb{f:Task->Option Out}{t:Task}{cs:List V}{K:List V->Tr}(h:f t=some (.p 0 0,[.cells cs []]))(hc:bG 0 cs=true):aC f (.call t λ o=>VS o λ l=>K l)=aC f (K cs):=by rw[cp h];show aC f (aH (bG 0 cs) (K cs))=_;rw[hc,aN]
theorem Vp{zs:List Int}(h:∀z∈zs,0<=z/\z<256)(hl:zs.length<=150):Pk zs 0:=⟨h,by omega,by omega⟩
theorem DZ(s:mP):rk prog aF (.call 20 [vs s] [])=some (lQ (lexB s)):=by
 by_cases h:2000<s.length
 ·rw[XJ,bz];unfold lexB;rw[if_pos h];rfl
 ·exact Tb s (by omega)
theorem EX(s:mP):(lexB s).1.length<=100000:=by
 by_cases h:2000<s.length
 ·unfold lexB;rw[if_pos h];exact Nat.zero_le _
 ·exact N8 s (by omega)
theorem UU{f:Task->Option Out}{n:Int}{K:Int->Tr}:aC f (bm (vi n) λ d=>bR .i64 d K)=aC f (K n):=by rw[bM,bH,if_pos rfl]
end Go.Dn.Dec
namespace Go.Dn.Dec.Pa
open Go.IntKind (i64 u64 u8 u16 i32 u32)
open Go.Proofs
open Tryz (prog)
set_option maxRecDepth 100000
noncomputable abbrev RU:=rk prog bC
theorem To:od prog bC:=by
 intro k g hg args S o ho;simp only[bC,QL]at hg;split at hg
 ·injection hg with hg;subst hg;exact Sh k args S o ho
 ·split at hg
  ·injection hg with hg;subst hg;exact oc NY ho
  ·cases hg
theorem Vf:kP prog (run prog bC):=λ k args S o h=>gG mixed To fQ h
theorem tX{k:Nat}{g:List V->List Ob->Option Out}(h:bC.ext k=some g)(args:List V)(S:List Ob):RU (.call k args S)=g args S:=by
 rw[RU,Bu];unfold pG;simp only[h];rw[ca]
 cases g args S with
 |none=>rfl
 |some o=>rfl
theorem IY{k:Nat}{args:List V}{o:Out}(h:rk prog aF (.call k args [])=some o)(h1:k=20\/k=96\/k=98):RU (.call k args [])=some o:=by
 have e:bC.ext k=some (λ args S=>run prog aF (.call k args S)):=by simp only[bC,QL,if_pos h1]
 rw[tX e];exact ic h
theorem VN(c:UInt8):RU (.call 96 [.d (.i .u8 (c.toNat:Int))] [])=some (vb (jK c),[]):=IY (Cd c) (by decide)
theorem XA(c:UInt8):RU (.call 98 [.d (.i .u8 (c.toNat:Int))] [])=some (vb (aG c),[]):=IY (oO c) (by decide)
theorem N6{α:Type}(p:List α)(x:α):((p++[x]).length:Int)=(p.length:Int)+1:=by simp
def gf(s:mP):Int:=
 if s=[98,111,111,108]then 2 else if s=[105,56]then 3 else if s=[105,49,54]then 6 else if s=[105,51,50]then 8 else if s=[105,54,52]then 10
 else if s=[100,111,117,98,108,101]then 4 else if s=[115,116,114,105,110,103]then 11 else if s=[98,105,110,97,114,121]then 16
 else if s=[108,105,115,116]then 15 else if s=[115,101,116]then 14 else if s=[109,97,112]then 13 else 0
theorem Ud{f:Task->Option Out}{c:Bool}{p:Prop}[Decidable p](h:c=decide p){X Y:Tr}{a b:Option Out}(h1:p->aC f X=a)(h2:¬p->aC f Y=b):aC f (aM c X Y)=if p then a else b:=by
 subst h;by_cases hp:p
 ·rw[bz hp,if_pos hp,h1 hp]
 ·rw[bn hp,if_neg hp,h2 hp]
theorem ny{α:Type}[BEq α][LawfulBEq α][DecidableEq α](a b:α):(a==b)=decide (a=b):=by
 by_cases h:a=b
 ·subst h;simp
 ·simp[h]
theorem qQ(s:mP):RU (.call 130 [vs s] [])=some (vi (gf s),[]):=by
 rw[RU,Xp];unfold gf
 repeat (first|(rw[apply_ite (λ n=>some (vi n,([]:List Ob)))];refine Ud (ny _ _) (λ _=>rfl) λ _=>?_))
 rfl
theorem xZ{p:Prop}[Decidable p]{a b n:Int}(h1:a≠n)(h2:b≠n):(if p then a else b)≠n:=by split<;>assumption
theorem SV{x:mP}(h:gf x=15):x=[108,105,115,116]:=Classical.byContradiction λ hx=>by
 refine absurd h ?_;unfold gf
 iterate 8 refine xZ (by decide) ?_
 rw[if_neg hx];exact xZ (by decide) (xZ (by decide) (by decide))
theorem SU{x:mP}(h:gf x=14):x=[115,101,116]:=Classical.byContradiction λ hx=>by
 refine absurd h ?_;unfold gf
 iterate 9 refine xZ (by decide) ?_
 rw[if_neg hx];exact xZ (by decide) (by decide)
def pL:List mP:=[[98,111,111,108],[105,56],[105,49,54],[105,51,50],[105,54,52],[100,111,117,98,108,101],[115,116,114,105,110,103],[98,105,110,97,114,121],[108,105,115,116],[115,101,116],[109,97,112]]
def UF(k:Int):mP:=if k=15 then [108,105,115,116]else if k=14 then [115,101,116]else []
theorem BW(n:Int)(hn:n=15\/n=14)(b:Bool):∀(r p:List mP),p++r=pL->(∀x∈p,gf x≠n)->
  RU (.at_ 178 0 (fw 43) (sv 23 [(0,vi n),(3,vl b (pL.map .s)),(4,vi (p.length:Int))]) [] [])=some (vs (UF n),[])
 | [],p,hp,hx=>by
  exfalso;rw[List.append_nil]at hp;subst hp;rcases hn with rfl|rfl
  ·exact hx [108,105,115,116] (by simp[pL]) rfl
  ·exact hx [115,101,116] (by simp[pL]) rfl
 |x::r,p,hp,hx=>by
  have hl:(pL.map D.s).length=11:=rfl;have hlt:p.length<11:=by have:=congrArg List.length hp;simp[pL]at this;omega
  have hg:(pL.map D.s)[p.length]?=some (.s x):=by rw[<-hp,List.getElem?_map];simp
  rw[RU,Ld,hl,bz];refine(KE hg).trans ?_;refine(ed (qQ x)).trans ?_;by_cases e:gf x=n
  ·rw[bK e];refine(KE hg).trans ?_;rcases hn with rfl|rfl
   ·rw[SV e];rfl
   ·rw[SU e];rfl
  ·rw[bu e];rw[Ww];have:=BW n hn b r (p++[x]) (by rw[List.append_assoc];exact hp) (λ y hy=>by
    rcases List.mem_append.1 hy with h|h
    ·exact hx y h
    ·rw[List.mem_singleton.1 h];exact e)
   rw[N6]at this;exact aK this
theorem P1(n:Int)(hn:n=15\/n=14):RU (.call 178 [vi n] [])=some (vs (UF n),[]):=by rw[RU,Xt];exact aK (BW n hn true pL [] rfl (by simp))
def ta(k:Int)(a b:mP):mP:=if k=13 then [109,97,112,60]++a++[44]++b++[62]else UF k++[60]++a++[62]
theorem RJ(k:Int)(hk:k=13\/k=15\/k=14)(a b:mP)(ha:a.length<=100000000)(hb:b.length<=100000000):RU (.call 131 [vi k,vs [],vs a,vs b] [])=some (vs (ta k a b),[]):=by
 rw[RU,Xq,bu];have at245:∀w:Bool,(w=true↔k≠13)->RU (.at_ 131 0 (fw 245) (CT k a b k w) [] [])=some (vs (ta k a b),[]):=by
  intro w hw;rw[RU,Hc]
  cases w with
  |true=>
   have hk':=hw.1 rfl;have hlen:(UF k).length<=4:=by rcases hk with h|h|h<;>subst h<;>first|exact absurd rfl hk' | decide
   rw[bF];refine(fh (P1 k (by omega))).trans ?_;rw[aJ,aJ (by simp;omega),aJ (by simp;omega)];unfold ta;rw[if_neg hk'];rfl
  |false=>
   have hk':k=13:=Classical.byContradiction λ h=>by have:=hw.2 h;cases this
   rw[bo,bK hk',aJ,aJ (by simp;omega),aJ (by simp;omega),aJ (by simp;omega)];unfold ta;rw[if_pos hk'];rfl
 by_cases h:k=15
 ·rw[bK h];exact aK (at245 _ (by subst h;decide))
 ·rw[bu h];refine aK (at245 _ ?_);rcases hk with h' | h' | h'
  ·subst h';decide
  ·exact absurd h' h
  ·subst h';decide
def C0:List mP:=[[105,110,99,108,117,100,101],[110,97,109,101,115,112,97,99,101],[116,121,112,101,100,101,102],[101,110,117,109],[99,111,110,115,116],[115,116,114,117,99,116],[117,110,105,111,110],[101,120,99,101,112,116,105,111,110],[115,101,114,118,105,99,101],[101,120,116,101,110,100,115],[116,104,114,111,119,115],[111,110,101,119,97,121],[118,111,105,100],[114,101,113,117,105,114,101,100],[111,112,116,105,111,110,97,108],[116,114,117,101],[102,97,108,115,101],[98,121,116,101]]
def T5(s:mP):Bool:=C0.contains s||gf s != 0
theorem FN(s:mP)(b:Bool):∀(r p:List mP),p++r=C0->
  RU (.at_ 127 0 (fw 43) (sv 21 [(0,vs s),(3,vl b (C0.map .s)),(4,vi (p.length:Int))]) [] [])=some (vb (r.contains s||gf s != 0),[])
 | [],p,hp=>by
  have hl:(C0.map D.s).length=18:=rfl;have:p.length=18:=by have:=congrArg List.length hp;simpa[C0]using this
  rw[RU,Aw,hl,bn];refine(ed (qQ s)).trans ?_;rfl
 |x::r,p,hp=>by
  have hl:(C0.map D.s).length=18:=rfl;have hlt:p.length<18:=by have:=congrArg List.length hp;simp[C0]at this;omega
  have hg:(C0.map D.s)[p.length]?=some (.s x):=by rw[<-hp,List.getElem?_map];simp
  rw[RU,Aw,hl,bz];refine(KE hg).trans ?_;by_cases e:x=s
  ·subst e;rw[dz (beq_self_eq_true _)];simp
  ·rw[cF (by simpa using e),Ww]
   have:=FN s b r (p++[x]) (by rw[List.append_assoc];exact hp);rw[N6]at this;refine(aK this).trans ?_;have h2:(s==x)=false:=by simpa using Ne.symm e
   rw[List.contains_cons,h2];rfl
theorem Vt(s:mP):RU (.call 127 [vs s] [])=some (vb (T5 s),[]):=by rw[RU,Xm];exact aK (FN s true C0 [] rfl)
def TS(c:UInt8):Bool:=jK c||aG c
def aZ(s:mP):Bool:=match s with
 | []=>false
 |c::_=>decide (s.length<=40)&&jK c && !T5 s&&s.all TS
theorem yr:∀(r p:mP),(p++r).length<=1000000->
  RU (.at_ 73 0 (fw 43) (sv 39 [(0,vs (p++r)),(3,vi (p.length:Int))]) [] [])=some (vb (r.all TS),[])
 | [],p,hl=>by
  rw[RU,EB,List.append_nil,bn];rfl
 |c::r,p,hl=>by
  have hlen:(p++c::r).length=p.length+(r.length+1):=by simp
  have hg:bJ (p++c::r) (p.length:Int)=some c:=by rw[bQ];simp
  rw[RU,EB,bz];refine(aR hg).trans ?_;refine(dH (VN c)).trans ?_;have next:RU (.at_ 73 0 (fw 1611) (sv 39 [(0,vs (p++c::r)),(3,vi (p.length:Int)),(38,vb false)]) [] [])=some (vb (r.all TS),[]):=by rw[RU,xH,bo,Ww];have:=yr r (p++[c]) (by simp at hl⊢;omega);rw[N6,List.append_assoc,List.singleton_append]at this;exact aK this
  cases h1:jK c with
  |true=>
   rw[jF];refine(aK next).trans ?_;simp[TS,h1]
  |false=>
   rw[iI];refine(aR hg).trans ?_;refine(dH (XA c)).trans ?_
   cases h2:aG c with
   |true=>
    refine(aK next).trans ?_;simp[TS,h1,h2]
   |false=>
    refine(aK (o:=(vb false,[])) ?_).trans ?_
    ·rw[RU,xH];rfl
    ·simp[TS,h1,h2]
theorem sT(s:mP)(hs:s.length<=1000000):RU (.call 73 [vs s] [])=some (vb (aZ s),[]):=by
 have no:RU (.at_ 73 0 (fw 13) (uI s true) [] [])=some (vb false,[]):=by rw[RU,EA];rfl
 rw[RU,Yc]
 cases s with
 |nil=>exact(bF).trans (aK no)
 |cons c r=>
  rw[cF (show (c::r==[])=false from rfl)];by_cases h:(c::r).length<=40
  ·rw[bn];refine(aR (show bJ (c::r) 0=some c from rfl)).trans ?_;refine(dH (VN c)).trans ?_
   cases h1:jK c with
   |false=>rw[iI];refine(aK no).trans ?_;simp[aZ,h1]
   |true=>
    rw[jF];refine(dH (Vt _)).trans ?_
    cases h2:T5 (c::r) with
    |true=>refine(aK no).trans ?_;simp[aZ,h2]
    |false=>
     refine(aK (o:=(vb ((c::r).all TS),[])) ?_).trans ?_
     ·rw[RU,EA,bo];exact aK (yr (c::r) [] hs)
     ·simp only[aZ,h1,h2,decide_eq_true h];rfl
  ·rw[bz];refine(aK no).trans ?_;simp only[aZ,decide_eq_false h];rfl
def zC:Nat->mP->mP->Bool
 |n,q,[]=>decide (n<=3)&&aZ q
 |n,q,c::r=>if c≠46 then zC n (q++[c]) r else aZ q&&zC (n+1) [] r
def gU(s:mP):Bool:=zC 1 [] s
theorem EH:∀(r p q:mP) (n:Nat),(p++r).length<=100000->q.length<=p.length->n<=p.length+1->
  RU (.at_ 129 0 (fw 43) (y6 (p++r) (n:Int) q (p.length:Int)) [] [])=some (vb (zC n q r),[])
 | [],p,q,n,hl,hq,hn=>by
  rw[RU,Ax,List.append_nil,bn];rw[List.append_nil]at hl;by_cases h:n<=3
  ·rw[bz];refine(dH (sT q (by omega))).trans ?_;simp only[zC,decide_eq_true h];rfl
  ·rw[bn];simp only[zC,decide_eq_false h];rfl
 |c::r,p,q,n,hl,hq,hn=>by
  have hlen:(p++c::r).length=p.length+(r.length+1):=by simp
  have hg:bJ (p++c::r) (p.length:Int)=some c:=by rw[bQ];simp
  have next:∀(n':Nat) (q':mP),q'.length<=p.length+1->n'<=p.length+2->RU (.at_ 129 0 (fw 459) (y6 (p++c::r) (n':Int) q' (p.length:Int)) [] [])=some (vb (zC n' q' r),[]):=by intro n' q' h1 h2;rw[RU,Hb,Ww];have:=EH r (p++[c]) q' n' (by simp at hl⊢;omega) (by simpa using h1) (by simpa using h2);rw[N6,List.append_assoc,List.singleton_append]at this;exact aK this
  rw[RU,Ax,bz];refine(aR hg).trans ?_;by_cases h:c=46
  ·subst h;rw[dN (show ((46:UInt8).toNat:Int)=46 from rfl)];refine(dH (sT q (by omega))).trans ?_
   cases h1:aZ q with
   |false=>simp only[zC,h1];rfl
   |true=>
    rw[jF,Ww];have:=next (n+1) [] (by simp) (by omega);rw[Int.natCast_add]at this;refine(aK this).trans ?_;simp only[zC,h1];rfl
  ·rw[ep (by intro e;exact h (UInt8.toNat_inj.1 (by simpa using Int.ofNat.inj e)))]
   have e1:((p.length:Int)+1).toNat=p.length+1:=by omega
   have e2:List.take (((p.length:Int)+1).toNat-(p.length:Int).toNat) (List.drop (p.length:Int).toNat (p++c::r))=[c]:=by rw[e1,Int.toNat_natCast,List.drop_left,Nat.add_sub_cancel_left];rfl
   rw[Ww,aJ,aJ,e2,aJ (by simp;omega)];refine(aK (next n (q++[c]) (by simp;omega) (by omega))).trans ?_;simp only[zC,if_pos h]
theorem NS(s:mP)(hs:s.length<=100000):RU (.call 129 [vs s] [])=some (vb (gU s),[]):=by rw[RU,Xo];exact aK (EH s [] [] 1 hs (by simp) (by simp))
end Go.Dn.Dec.Pa
namespace Go.Dn.Dec
open Go.IntKind (i64 u64 u8 u16 i32 u32)
open Go.Proofs
open Tryz (prog)
theorem X6(b:Bool)(l:List D)(i e a:Int):EQ bC (.call 38 [.p 0 0] [.cells (pH b l i e a) []]) (eL l i 5 λ c=>aH ([.d (gD 5 0 c 0),.d (gD 5 0 c 1),.d (gD 5 0 c 2),.d (gD 5 0 c 3),.d (gD 5 0 c 4)].all V.one) (.ret (.d (.g [gD 5 0 c 0,gD 5 0 c 1,gD 5 0 c 2,gD 5 0 c 3,gD 5 0 c 4]),[.cells (pH b l i e a) []]))):=bU
theorem X8(b:Bool)(l:List D)(i e a n:Int):EQ bC (.call 40 [.p 0 0,vi n] [.cells (pH b l i e a) []]) (aM (e==0) (c1 (.call 38 [.p 0 0] [.cells (pH b l i e a) []]) 4 [] λ c f=>bm c λ g=>jM 5 g λ h=>bR .i64 (pb h 4) λ j=>aH (decide (2<f.length)&&true) (aH (decide (3<(f.set 2 (vi n)).length)&&true) (.ret (.t [],[.cells ((f.set 2 (vi n)).set 3 (vi j)) []])))) (.ret (.t [],[.cells (pH b l i e a) []]))):=bU
theorem Yd(b:Bool)(l:List D)(i e a:Int):EQ bC (.call 74 [.p 0 0] [.cells (pH b l i e a) []]) (.ret (.t [],[.cells (pH b l (i64.wrap (i+1)) e a) []])):=bU
theorem Ya(b:Bool)(l:List D)(i e a:Int)(s:mP):EQ bC (.call 71 [.p 0 0,vs s] [.cells (pH b l i e a) []]) (aM (e==0) (c1 (.call 38 [.p 0 0] [.cells (pH b l i e a) []]) 4 [] λ c f=>bm c λ g=>jM 5 g λ h=>bR .i64 (pb h 0) λ j=>aM (j==1) (c1 (.call 38 [.p 0 0] [.cells f []]) f.length [] λ k m=>bm k λ n=>jM 5 n λ o=>eF (pb o 1) λ q => .ret (vb (q==s),[.cells m []])) (.ret (vb false,[.cells f []]))) (.ret (vb false,[.cells (pH b l i e a) []]))):=bU
theorem Yb(b:Bool)(l:List D)(i e a:Int)(s:mP):EQ bC (.call 72 [.p 0 0,vs s] [.cells (pH b l i e a) []]) (c1 (.call 71 [.p 0 0,vs s] [.cells (pH b l i e a) []]) 4 [] λ c f=>aB c λ g=>aM g (c1 (.call 74 [.p 0 0] [.cells f []]) f.length [] λ h j=>cL h λ k=>aH (k.length==0) (.ret (vb true,[.cells j []]))) (.ret (vb false,[.cells f []]))):=bU
theorem Ye(b:Bool)(l:List D)(i e a:Int)(s:mP):EQ bC (.call 75 [.p 0 0,vs s] [.cells (pH b l i e a) []]) (c1 (.call 128 [.p 0 0,vs s] [.cells (pH b l i e a) []]) 4 [] λ c f=>aB c λ g=>aM g (c1 (.call 74 [.p 0 0] [.cells f []]) f.length [] λ h j=>cL h λ k=>aH (k.length==0) (.ret (vb true,[.cells j []]))) (.ret (vb false,[.cells f []]))):=bU
theorem Xn(b:Bool)(l:List D)(i e a:Int)(s:mP):EQ bC (.call 128 [.p 0 0,vs s] [.cells (pH b l i e a) []]) (aM (e==0) (c1 (.call 38 [.p 0 0] [.cells (pH b l i e a) []]) 4 [] λ c f=>bm c λ g=>jM 5 g λ h=>bR .i64 (pb h 0) λ j=>aM (j==5) (c1 (.call 38 [.p 0 0] [.cells f []]) f.length [] λ k m=>bm k λ n=>jM 5 n λ o=>eF (pb o 1) λ q => .ret (vb (q==s),[.cells m []])) (.ret (vb false,[.cells f []]))) (.ret (vb false,[.cells (pH b l i e a) []]))):=bU
theorem Yi(b:Bool)(l:List D)(i e a:Int)(s:mP):EQ bC (.call 79 [.p 0 0,vs s] [.cells (pH b l i e a) []]) (c1 (.call 128 [.p 0 0,vs s] [.cells (pH b l i e a) []]) 4 [] λ c f=>aB c λ g=>aM (!g) (c1 (.call 40 [.p 0 0,vi 2] [.cells f []]) f.length [] λ h j=>cL h λ k=>aH (k.length==0) (.ret (.t [],[.cells j []]))) (c1 (.call 74 [.p 0 0] [.cells f []]) f.length [] λ m n=>cL m λ o=>aH (o.length==0) (.ret (.t [],[.cells n []])))):=bU
theorem Yo(b:Bool)(l:List D)(i e a:Int):EQ bC (.call 84 [.p 0 0] [.cells (pH b l i e a) []]) (c1 (.call 75 [.p 0 0,vs [44]] [.cells (pH b l i e a) []]) 4 [] λ c f=>aB c λ g=>aM (!g) (c1 (.call 75 [.p 0 0,vs [59]] [.cells f []]) f.length [] λ h j=>aB h λ k => .ret (.t [],[.cells j []])) (.ret (.t [],[.cells f []]))):=bU
theorem Xs(b:Bool)(l:List D)(i e a:Int):EQ bC (.call 134 [.p 0 0] [.cells (pH b l i e a) []]) (c1 (.call 38 [.p 0 0] [.cells (pH b l i e a) []]) 4 [] λ c f=>bm c λ g=>jM 5 g λ h=>aH ([.d (pb h 0),.d (pb h 1),.d (pb h 2),.d (pb h 3),.d (pb h 4)].all V.one) (bR .i64 (pb h 0) λ j=>aM (j==1) (eF (pb h 1) λ k=>cV (.call 130 [vs k] []) λ m=>aI m λ n=>aM (n != 0) (.ret (vb true,[.cells f []])) (eF (pb h 1) λ o=>aM (o==[98,121,116,101]) (.ret (vb true,[.cells f []])) (eF (pb h 1) λ q=>cV (.call 129 [vs q] []) λ r=>aB r λ t => .ret (vb t,[.cells f []])))) (.ret (vb false,[.cells f []])))):=bU
theorem Xu(b:Bool)(l:List D)(i e a:Int):EQ bC (.call 179 [.p 0 0] [.cells (pH b l i e a) []]) (c1 (.call 38 [.p 0 0] [.cells (pH b l i e a) []]) 4 [] λ c f=>bm c λ g=>jM 5 g λ h=>aH ([.d (pb h 0),.d (pb h 1),.d (pb h 2),.d (pb h 3),.d (pb h 4)].all V.one) (bR .i64 (pb h 0) λ j=>aM (j==2) (.call (.at_ 179 1 (fw 107) (Mr j (j==2)) [] [.cells [.d (pb h 0),.d (pb h 1),.d (pb h 2),.d (pb h 3),.d (pb h 4)] [],.cells f []]) .ret) (aM (j==3) (.call (.at_ 179 1 (fw 107) (Mr j (j==3)) [] [.cells [.d (pb h 0),.d (pb h 1),.d (pb h 2),.d (pb h 3),.d (pb h 4)] [],.cells f []]) .ret) (.call (.at_ 179 1 (fw 107) (Mr j (j==4)) [] [.cells [.d (pb h 0),.d (pb h 1),.d (pb h 2),.d (pb h 3),.d (pb h 4)] [],.cells f []]) .ret)))):=bU
theorem X7(b:Bool)(l:List D)(i e a:Int):EQ bC (.call 39 [.p 0 0] [.cells (pH b l i e a) []]) (.call (.at_ 39 1 (fw 43) (F5 true [.s [116,121,112,101,100,101,102],.s [99,111,110,115,116],.s [101,110,117,109],.s [115,116,114,117,99,116],.s [117,110,105,111,110],.s [101,120,99,101,112,116,105,111,110],.s [115,101,114,118,105,99,101]] 0) [] [.cells (pH b l i e a) []]) .ret):=bU
theorem Hk(n0:Int)(b1:Bool)(d2 d3 d4 d5 d6:D)(l7:List V):EQ bC (.at_ 179 1 (fw 107) (Mr n0 b1) [] [.cells [.d d2,.d d3,.d d4,.d d5,.d d6] [],.cells l7 []]) (aM b1 (.ret (vb true,[.cells l7 []])) (aM (n0==1) (eF d3 λ a=>aM (a==[116,114,117,101]) (.ret (vb true,[.cells l7 []])) (eF d3 λ c=>aM (c==[102,97,108,115,101]) (.ret (vb true,[.cells l7 []])) (eF d3 λ e=>cV (.call 129 [vs e] []) λ f=>aB f λ g => .ret (vb g,[.cells l7 []])))) (c1 (.call 128 [.p 0 0,vs [91]] [.cells l7 []]) l7.length [] λ h j=>aB h λ k=>aM k (.ret (vb true,[.cells j []])) (c1 (.call 128 [.p 0 0,vs [123]] [.cells j []]) j.length [] λ l m=>aB l λ n => .ret (vb n,[.cells m []]))))):=bU
theorem xD(b0:Bool)(l1:List D)(n2:Int)(l3:List V):EQ bC (.at_ 39 1 (fw 43) (F5 b0 l1 n2) [] [.cells l3 []]) (aM (decide (n2<(l1.length:Int))) (eC l1 n2 1 0 λ a=>eF a λ c=>c1 (.call 71 [.p 0 0,vs c] [.cells l3 []]) l3.length [] λ e f=>aB e λ g=>aM g (.ret (vb true,[.cells f []])) (.call (.at_ 39 1 (fw 43) (F5 b0 l1 (i64.wrap (n2+1))) [] [.cells f []]) .ret)) (.ret (vb false,[.cells l3 []]))):=bU
theorem Yf(b:Bool)(l:List D)(i e a:Int):EQ bC (.call 76 [.p 0 0] [.cells (pH b l i e a) []]) (c1 (.call 38 [.p 0 0] [.cells (pH b l i e a) []]) 4 [] λ c f=>bm c λ g=>jM 5 g λ h=>aH ([.d (pb h 0),.d (pb h 1),.d (pb h 2),.d (pb h 3),.d (pb h 4)].all V.one) (ob f[2]? λ j=>aI j λ k=>aM (k != 0) (.call (.at_ 76 1 (fw 27) (y9 true) [] [.cells [.d (pb h 0),.d (pb h 1),.d (pb h 2),.d (pb h 3),.d (pb h 4)] [],.cells f []]) .ret) (bR .i64 (pb h 0) λ m=>aM (m != 1) (.call (.at_ 76 1 (fw 27) (y9 true) [] [.cells [.d (pb h 0),.d (pb h 1),.d (pb h 2),.d (pb h 3),.d (pb h 4)] [],.cells f []]) .ret) (eF (pb h 1) λ n=>cV (.call 129 [vs n] []) λ o=>aB o λ q => .call (.at_ 76 1 (fw 27) (sv 28 [(0,.p 0 0),(3,.p 1 0),(21,vb !q)]) [] [.cells [.d (pb h 0),.d (pb h 1),.d (pb h 2),.d (pb h 3),.d (pb h 4)] [],.cells f []]) .ret)))):=bU
theorem Yh(b:Bool)(l:List D)(i e a:Int):EQ bC (.call 78 [.p 0 0] [.cells (pH b l i e a) []]) (c1 (.call 38 [.p 0 0] [.cells (pH b l i e a) []]) 4 [] λ c f=>bm c λ g=>jM 5 g λ h=>aH ([.d (pb h 0),.d (pb h 1),.d (pb h 2),.d (pb h 3),.d (pb h 4)].all V.one) (ob f[2]? λ j=>aI j λ k=>aM (k != 0) (.call (.at_ 78 1 (fw 27) (y9 true) [] [.cells [.d (pb h 0),.d (pb h 1),.d (pb h 2),.d (pb h 3),.d (pb h 4)] [],.cells f []]) .ret) (bR .i64 (pb h 0) λ m=>aM (m != 1) (.call (.at_ 78 1 (fw 27) (y9 true) [] [.cells [.d (pb h 0),.d (pb h 1),.d (pb h 2),.d (pb h 3),.d (pb h 4)] [],.cells f []]) .ret) (eF (pb h 1) λ n=>cV (.call 73 [vs n] []) λ o=>aB o λ q => .call (.at_ 78 1 (fw 27) (sv 28 [(0,.p 0 0),(3,.p 1 0),(21,vb !q)]) [] [.cells [.d (pb h 0),.d (pb h 1),.d (pb h 2),.d (pb h 3),.d (pb h 4)] [],.cells f []]) .ret)))):=bU
theorem Yg(b:Bool)(l:List D)(i e a n:Int):EQ bC (.call 77 [.p 0 0,vi n] [.cells (pH b l i e a) []]) (c1 (.call 38 [.p 0 0] [.cells (pH b l i e a) []]) 4 [] λ c f=>bm c λ g=>jM 5 g λ h=>aH ([.d (pb h 0),.d (pb h 1),.d (pb h 2),.d (pb h 3),.d (pb h 4)].all V.one) (ob f[2]? λ j=>aI j λ k=>aM (k != 0) (.call (.at_ 77 1 (fw 27) (Mo n true) [] [.cells [.d (pb h 0),.d (pb h 1),.d (pb h 2),.d (pb h 3),.d (pb h 4)] [],.cells f []]) .ret) (bR .i64 (pb h 0) λ m => .call (.at_ 77 1 (fw 27) (Mo n (m != 1)) [] [.cells [.d (pb h 0),.d (pb h 1),.d (pb h 2),.d (pb h 3),.d (pb h 4)] [],.cells f []]) .ret))):=bU
theorem Yj(b:Bool)(l:List D)(i e a n:Int):EQ bC (.call 80 [.p 0 0,vi n] [.cells (pH b l i e a) []]) (c1 (.call 38 [.p 0 0] [.cells (pH b l i e a) []]) 4 [] λ c f=>bm c λ h=>jM 5 h λ j=>aH ([.d (pb j 0),.d (pb j 1),.d (pb j 2),.d (pb j 3),.d (pb j 4)].all V.one) (ob f[2]? λ k=>aI k λ m=>aM (m != 0) (.ret (.d (.g [.i .i64 0,.i .i64 0,.i .u64 0,.s [],.l true []]),[.cells f []])) (bR .i64 (pb j 0) λ o=>aM (o==2) (c1 (.call 74 [.p 0 0] [.cells f []]) f.length [] λ q r=>cL q λ t=>aH (t.length==0) (bR .i64 (pb j 2) λ v => .ret (.d (.g [.i .i64 1,.i .i64 v,.i .u64 0,.s [],.l true []]),[.cells r []]))) (bR .i64 (pb j 0) λ w=>aM (w==3) (c1 (.call 74 [.p 0 0] [.cells f []]) f.length [] λ x y=>cL x λ z=>aH (z.length==0) (bR .u64 (pb j 3) λ a0 => .ret (.d (.g [.i .i64 2,.i .i64 0,.i .u64 a0,.s [],.l true []]),[.cells y []]))) (bR .i64 (pb j 0) λ a1=>aM (a1==4) (c1 (.call 74 [.p 0 0] [.cells f []]) f.length [] λ a2 a3=>cL a2 λ a4=>aH (a4.length==0) (eF (pb j 1) λ a5 => .ret (.d (.g [.i .i64 3,.i .i64 0,.i .u64 0,.s a5,.l true []]),[.cells a3 []]))) (c1 (.call 71 [.p 0 0,vs [116,114,117,101]] [.cells f []]) f.length [] λ a6 a7=>aB a6 λ a8=>aM a8 (.call (.at_ 80 1 (fw 8167) (O3 n true) [] [.cells [.d (pb j 0),.d (pb j 1),.d (pb j 2),.d (pb j 3),.d (pb j 4)] [],.cells (pd 0 0 0 [] true []) [],.cells a7 []]) .ret) (c1 (.call 71 [.p 0 0,vs [102,97,108,115,101]] [.cells a7 []]) a7.length [] λ a9 aa=>aB a9 λ ab => .call (.at_ 80 1 (fw 8167) (O3 n ab) [] [.cells [.d (pb j 0),.d (pb j 1),.d (pb j 2),.d (pb j 3),.d (pb j 4)] [],.cells (pd 0 0 0 [] true []) [],.cells aa []]) .ret))))))):=bU
theorem VH(b:Bool)(l:List D)(i e a n:Int):EQ bC (.call 132 [.p 0 0,vi n] [.cells (pH b l i e a) []]) (aM (decide (n>12)) (c1 (.call 40 [.p 0 0,vi 6] [.cells (pH b l i e a) []]) 4 [] λ c f=>cL c λ h=>aH (h.length==0) (.ret (.d (.g [.i .i64 0,.i .i64 0,.i .u64 0,.s [],.l true []]),[.cells f []]))) (c1 (.call 128 [.p 0 0,vs [123]] [.cells (pH b l i e a) []]) 4 [] λ j k=>aB j λ m=>aM m (.call (.at_ 132 1 (fw 63) (Pm n [125]) [] [.cells (pd 6 0 0 [] true []) [(4,5)],.cells (pd 0 0 0 [] true []) [],.cells k []]) .ret) (.call (.at_ 132 1 (fw 63) (Pm n [93]) [] [.cells (pd 5 0 0 [] true []) [(4,5)],.cells (pd 0 0 0 [] true []) [],.cells k []]) .ret))):=bU
theorem EC(b0:Bool)(d1 d2 d3 d4 d5:D)(l6:List V):EQ bC (.at_ 76 1 (fw 27) (y9 b0) [] [.cells [.d d1,.d d2,.d d3,.d d4,.d d5] [],.cells l6 []]) (aM b0 (c1 (.call 40 [.p 0 0,vi 2] [.cells l6 []]) l6.length [] λ a c=>cL a λ e=>aH (e.length==0) (.ret (vs [],[.cells c []]))) (c1 (.call 74 [.p 0 0] [.cells l6 []]) l6.length [] λ f g=>cL f λ h=>aH (h.length==0) (eF d2 λ j => .ret (vs j,[.cells g []])))):=bU
theorem EE(b0:Bool)(d1 d2 d3 d4 d5:D)(l6:List V):EQ bC (.at_ 78 1 (fw 27) (y9 b0) [] [.cells [.d d1,.d d2,.d d3,.d d4,.d d5] [],.cells l6 []]) (aM b0 (c1 (.call 40 [.p 0 0,vi 2] [.cells l6 []]) l6.length [] λ a c=>cL a λ e=>aH (e.length==0) (.ret (vs [],[.cells c []]))) (c1 (.call 74 [.p 0 0] [.cells l6 []]) l6.length [] λ f g=>cL f λ h=>aH (h.length==0) (eF d2 λ j => .ret (vs j,[.cells g []])))):=bU
theorem ED(n0:Int)(b1:Bool)(d2 d3 d4 d5 d6:D)(l7:List V):EQ bC (.at_ 77 1 (fw 27) (Mo n0 b1) [] [.cells [.d d2,.d d3,.d d4,.d d5,.d d6] [],.cells l7 []]) (aM b1 (c1 (.call 40 [.p 0 0,vi 2] [.cells l7 []]) l7.length [] λ a c=>cL a λ e=>aH (e.length==0) (.ret (vs [],[.cells c []]))) (eF d3 λ f=>cV (.call 130 [vs f] []) λ g=>aI g λ h=>eF d3 λ j=>aM (j==[98,121,116,101]) (c1 (.call 74 [.p 0 0] [.cells l7 []]) l7.length [] λ k l=>cL k λ m=>aH (m.length==0) (.ret (vs [105,56],[.cells l []]))) (aM (h==0) (c1 (.call 76 [.p 0 0] [.cells l7 []]) l7.length [] λ n o=>aS n λ q => .ret (vs q,[.cells o []])) (aM (h != 15) (aM (h != 14) (.call (.at_ 77 1 (fw 4047) (LX n0 h (h != 13)) [] [.cells [.d d2,.d d3,.d d4,.d d5,.d d6] [],.cells l7 []]) .ret) (.call (.at_ 77 1 (fw 4047) (LX n0 h false) [] [.cells [.d d2,.d d3,.d d4,.d d5,.d d6] [],.cells l7 []]) .ret)) (.call (.at_ 77 1 (fw 4047) (LX n0 h false) [] [.cells [.d d2,.d d3,.d d4,.d d5,.d d6] [],.cells l7 []]) .ret))))):=bU
theorem Ho(n0:Int)(b1:Bool)(d2 d3 d4 d5 d6:D)(n7 n8 n9:Int)(l10:mP)(b11:Bool)(l12:List D)(l13:List V):EQ bC (.at_ 80 1 (fw 8167) (O3 n0 b1) [] [.cells [.d d2,.d d3,.d d4,.d d5,.d d6] [],.cells (pd n7 n8 n9 l10 b11 l12) [],.cells l13 []]) (aM b1 (c1 (.call 74 [.p 0 0] [.cells l13 []]) l13.length [] λ a c=>cL a λ e=>aH (e.length==0) (eF d3 λ f => .ret (.d (.g [.i .i64 4,.i .i64 0,.i .u64 0,.s f,.l true []]),[.cells c []]))) (bR .i64 d2 λ h=>aM (h==1) (c1 (.call 76 [.p 0 0] [.cells l13 []]) l13.length [] λ j k=>aS j λ m => .ret (.d (.g [.i .i64 4,.i .i64 0,.i .u64 0,.s m,.l true []]),[.cells k []])) (c1 (.call 128 [.p 0 0,vs [91]] [.cells l13 []]) l13.length [] λ n o=>aB n λ q=>aM q (.call (.at_ 80 1 (fw 131047) (DG n0 true) [] [.cells (pd n7 n8 n9 l10 b11 l12) [],.cells o []]) .ret) (c1 (.call 128 [.p 0 0,vs [123]] [.cells o []]) o.length [] λ r t=>aB r λ v => .call (.at_ 80 1 (fw 131047) (DG n0 v) [] [.cells (pd n7 n8 n9 l10 b11 l12) [],.cells t []]) .ret)))):=bU
theorem K7(n0:Int)(l1:mP)(n2 n3 n4:Int)(l5:mP)(b6:Bool)(l7:List D)(n8 n9 n10:Int)(l11:mP)(b12:Bool)(l13:List D)(l14:List V):EQ bC (.at_ 132 1 (fw 63) (Pm n0 l1) [] [.cells (pd n2 n3 n4 l5 b6 l7) [(4,5)],.cells (pd n8 n9 n10 l11 b12 l13) [],.cells l14 []]) (c1 (.call 74 [.p 0 0] [.cells l14 []]) l14.length [] λ a b=>cL a λ c=>aH (c.length==0) (.call (.at_ 132 1 (fw 703) (RX n0 l1 0) [] [.cells (pd n2 n3 n4 l5 b6 l7) [(4,5)],.cells (pd n8 n9 n10 l11 b12 l13) [],.cells b []]) .ret)):=bU
theorem Hn(n0 n1:Int)(b2:Bool)(d3 d4 d5 d6 d7:D)(l8:List V):EQ bC (.at_ 77 1 (fw 4047) (LX n0 n1 b2) [] [.cells [.d d3,.d d4,.d d5,.d d6,.d d7] [],.cells l8 []]) (aM b2 (c1 (.call 74 [.p 0 0] [.cells l8 []]) l8.length [] λ a c=>cL a λ e=>aH (e.length==0) (eF d4 λ f => .ret (vs f,[.cells c []]))) (aM (decide (n0>12)) (c1 (.call 40 [.p 0 0,vi 6] [.cells l8 []]) l8.length [] λ g h=>cL g λ j=>aH (j.length==0) (.ret (vs [],[.cells h []]))) (c1 (.call 74 [.p 0 0] [.cells l8 []]) l8.length [] λ k l=>cL k λ m=>aH (m.length==0) (c1 (.call 79 [.p 0 0,vs [60]] [.cells l []]) l.length [] λ n o=>cL n λ q=>aH (q.length==0) (c1 (.call 77 [.p 0 0,vi (i64.wrap (n0+1))] [.cells o []]) o.length [] λ r t=>aS r λ v=>aM (n1==13) (c1 (.call 79 [.p 0 0,vs [44]] [.cells t []]) t.length [] λ w x=>cL w λ y=>aH (y.length==0) (c1 (.call 77 [.p 0 0,vi (i64.wrap (n0+1))] [.cells x []]) x.length [] λ z a0=>aS z λ a1 => .call (.at_ 77 1 (fw 2047) (EP n1 v a1) [] [.cells a0 []]) .ret)) (.call (.at_ 77 1 (fw 2047) (EP n1 v []) [] [.cells t []]) .ret)))))):=bU
theorem Cn(n0:Int)(b1:Bool)(n2 n3 n4:Int)(l5:mP)(b6:Bool)(l7:List D)(l8:List V):EQ bC (.at_ 80 1 (fw 131047) (DG n0 b1) [] [.cells (pd n2 n3 n4 l5 b6 l7) [],.cells l8 []]) (aM b1 (c1 (.call 132 [.p 0 0,vi n0] [.cells l8 []]) l8.length [] λ a c=>bm a λ e=>jM 5 e λ f=>aH ([.d (pb f 0),.d (pb f 1),.d (pb f 2),.d (pb f 3),.d (pb f 4)].all V.one) (.ret (.d (.g [f.getD 0 (.b false),f.getD 1 (.b false),f.getD 2 (.b false),f.getD 3 (.b false),f.getD 4 (.b false)]),[.cells c []]))) (c1 (.call 40 [.p 0 0,vi 2] [.cells l8 []]) l8.length [] λ h j=>cL h λ k=>aH (k.length==0) (.ret (.d (.g [.i .i64 0,.i .i64 0,.i .u64 0,.s [],.l true []]),[.cells j []])))):=bU
theorem He(n0:Int)(l1:mP)(n2 n3 n4 n5:Int)(l6:mP)(b7:Bool)(l8:List D)(n9 n10 n11:Int)(l12:mP)(b13:Bool)(l14:List D)(l15:List V):EQ bC (.at_ 132 1 (fw 703) (RX n0 l1 n2) [] [.cells (pd n3 n4 n5 l6 b7 l8) [(4,5)],.cells (pd n9 n10 n11 l12 b13 l14) [],.cells l15 []]) (ob l15[2]? λ a=>aI a λ c=>aM (c==0) (c1 (.call 128 [.p 0 0,vs l1] [.cells l15 []]) l15.length [] λ e f=>aB e λ g => .call (.at_ 132 1 (fw 6335) (sv 68 [(0,.p 0 0),(1,vi n0),(4,.p 1 0),(5,.p 2 0),(6,vs l1),(7,vi n2),(29,vb !g)]) [] [.cells (pd n3 n4 n5 l6 b7 l8) [(4,5)],.cells (pd n9 n10 n11 l12 b13 l14) [],.cells f []]) .ret) (.call (.at_ 132 1 (fw 6335) (SF n0 l1 n2 false) [] [.cells (pd n3 n4 n5 l6 b7 l8) [(4,5)],.cells (pd n9 n10 n11 l12 b13 l14) [],.cells l15 []]) .ret)):=bU
theorem Hm(n0:Int)(l1 l2:mP)(l3:List V):EQ bC (.at_ 77 1 (fw 2047) (EP n0 l1 l2) [] [.cells l3 []]) (c1 (.call 79 [.p 0 0,vs [62]] [.cells l3 []]) l3.length [] λ a b=>cL a λ c=>aH (c.length==0) (cV (.call 131 [vi n0,vs [],vs l1,vs l2] []) λ e=>aS e λ f => .ret (vs f,[.cells b []]))):=bU
theorem D9(n0:Int)(l1:mP)(n2:Int)(b3:Bool)(n4 n5 n6:Int)(l7:mP)(b8:Bool)(l9:List D)(n10 n11 n12:Int)(l13:mP)(b14:Bool)(l15:List D)(l16:List V):EQ bC (.at_ 132 1 (fw 6335) (SF n0 l1 n2 b3) [] [.cells (pd n4 n5 n6 l7 b8 l9) [(4,5)],.cells (pd n10 n11 n12 l13 b14 l15) [],.cells l16 []]) (aM b3 (aM (n2==40) (c1 (.call 179 [.p 0 0] [.cells l16 []]) l16.length [] λ a c=>aB a λ e => .call (.at_ 132 1 (fw 50367) (Ov n0 l1 n2 e) [] [.cells (pd n4 n5 n6 l7 b8 l9) [(4,5)],.cells (pd n10 n11 n12 l13 b14 l15) [],.cells c []]) .ret) (.call (.at_ 132 1 (fw 50367) (Ov n0 l1 n2 false) [] [.cells (pd n4 n5 n6 l7 b8 l9) [(4,5)],.cells (pd n10 n11 n12 l13 b14 l15) [],.cells l16 []]) .ret)) (.call (.at_ 132 1 (fw 255) (Rt l1) [] [.cells (pd n4 n5 n6 l7 b8 l9) [(4,5)],.cells (pd n10 n11 n12 l13 b14 l15) [],.cells l16 []]) .ret)):=bU
theorem su(n0:Int)(l1:mP)(n2:Int)(b3:Bool)(n4 n5 n6:Int)(l7:mP)(b8:Bool)(l9:List D)(n10 n11 n12:Int)(l13:mP)(b14:Bool)(l15:List D)(l16:List V):EQ bC (.at_ 132 1 (fw 50367) (Ov n0 l1 n2 b3) [] [.cells (pd n4 n5 n6 l7 b8 l9) [(4,5)],.cells (pd n10 n11 n12 l13 b14 l15) [],.cells l16 []]) (aM b3 (c1 (.call 40 [.p 0 0,vi 4] [.cells l16 []]) l16.length [] λ o0 l3=>cL o0 λ l5=>aH (l5.length==0) (.call (.at_ 132 1 (fw 255) (Rt l1) [] [.cells (pd n4 n5 n6 l7 b8 l9) [(4,5)],.cells (pd n10 n11 n12 l13 b14 l15) [],.cells l3 []]) .ret)) (c1 (.call 80 [.p 0 0,vi (i64.wrap (n0+1))] [.cells l16 []]) l16.length [] λ o6 l_9_1=>bm o6 λ d11=>jM 5 d11 λ l12=>aH (bw 5 l9) (aH (b8||dK [.g [l12.getD 0 (.b false),l12.getD 1 (.b false),l12.getD 2 (.b false),l12.getD 3 (.b false),l12.getD 4 (.b false)]]) (aH (decide (l9.length+1<=4294967296)) (aM (l1==[125]) (c1 (.call 79 [.p 0 0,vs [58]] [.cells l_9_1 []]) l_9_1.length [] λ o13 l16=>cL o13 λ l18=>aH (l18.length==0) (c1 (.call 80 [.p 0 0,vi (i64.wrap (n0+1))] [.cells l16 []]) l16.length [] λ o19 l22=>bm o19 λ d24=>jM 5 d24 λ l25=>aH (bw 5 (l9++[D.g [l12.getD 0 (.b false),l12.getD 1 (.b false),l12.getD 2 (.b false),l12.getD 3 (.b false),l12.getD 4 (.b false)]])) (aH (b8&&false||dK [.g [l25.getD 0 (.b false),l25.getD 1 (.b false),l25.getD 2 (.b false),l25.getD 3 (.b false),l25.getD 4 (.b false)]]) (aH (decide ((l9++[D.g [l12.getD 0 (.b false),l12.getD 1 (.b false),l12.getD 2 (.b false),l12.getD 3 (.b false),l12.getD 4 (.b false)]]).length+1<=4294967296)) (c1 (.call 84 [.p 0 0] [.cells l22 []]) l22.length [] λ o26 l29=>cL o26 λ l31=>aH (l31.length==0) (.call (.at_ 132 1 (fw 7359) (RX n0 l1 n2) [] [.cells (pd n4 n5 n6 l7 (b8&&false&&false) (l9++[D.g [l12.getD 0 (.b false),l12.getD 1 (.b false),l12.getD 2 (.b false),l12.getD 3 (.b false),l12.getD 4 (.b false)]]++[D.g [l25.getD 0 (.b false),l25.getD 1 (.b false),l25.getD 2 (.b false),l25.getD 3 (.b false),l25.getD 4 (.b false)]])) [(4,5)],.cells (pd n10 n11 n12 l13 b14 l15) [],.cells l29 []]) .ret)))))) (c1 (.call 84 [.p 0 0] [.cells l_9_1 []]) l_9_1.length [] λ o32 l35=>cL o32 λ l37=>aH (l37.length==0) (.call (.at_ 132 1 (fw 7359) (RX n0 l1 n2) [] [.cells (pd n4 n5 n6 l7 (b8&&false) (l9++[D.g [l12.getD 0 (.b false),l12.getD 1 (.b false),l12.getD 2 (.b false),l12.getD 3 (.b false),l12.getD 4 (.b false)]])) [(4,5)],.cells (pd n10 n11 n12 l13 b14 l15) [],.cells l35 []]) .ret))))))):=bU
theorem Hd(l0:mP)(n1 n2 n3:Int)(l4:mP)(b5:Bool)(l6:List D)(n7 n8 n9:Int)(l10:mP)(b11:Bool)(l12:List D)(l13:List V):EQ bC (.at_ 132 1 (fw 255) (Rt l0) [] [.cells (pd n1 n2 n3 l4 b5 l6) [(4,5)],.cells (pd n7 n8 n9 l10 b11 l12) [],.cells l13 []]) (c1 (.call 79 [.p 0 0,vs l0] [.cells l13 []]) l13.length [] λ a b=>cL a λ c=>aH (c.length==0) (.ret (.d (.g [.i .i64 n1,.i .i64 n2,.i .u64 n3,.s l4,.l b5 l6]),[.cells b []]))):=bU
theorem Ea(n0:Int)(l1:mP)(n2 n3 n4 n5:Int)(l6:mP)(b7:Bool)(l8:List D)(n9 n10 n11:Int)(l12:mP)(b13:Bool)(l14:List D)(l15:List V):EQ bC (.at_ 132 1 (fw 7359) (RX n0 l1 n2) [] [.cells (pd n3 n4 n5 l6 b7 l8) [(4,5)],.cells (pd n9 n10 n11 l12 b13 l14) [],.cells l15 []]) (.call (.at_ 132 1 (fw 703) (RX n0 l1 (i64.wrap (n2+1))) [] [.cells (pd n3 n4 n5 l6 b7 l8) [(4,5)],.cells (pd n9 n10 n11 l12 b13 l14) [],.cells l15 []]) .ret):=bU
end Go.Dn.Dec
namespace Go.Dn.Dec.Pa
open Go.IntKind (i64 u64 u8 u16 i32 u32)
open Go.Proofs
open Tryz (prog)
set_option maxRecDepth 100000
structure PS where
 i:Nat
 e:Int
 a:Int
abbrev U4:Tok:=⟨6,[],0,0,0⟩
structure Wds (W:List Tok):Prop where
 pos:0<W.length
 len:W.length<=100000
 last:∀i,i<W.length->(W.getD i U4).kind≠6->i+1<W.length
 txt:∀t∈W,t.text.length<=2000
section
variable (W : List Tok)
def bD(s:PS):Tok:=W.getD s.i U4
def dA(c:Int)(s:PS):PS:=if s.e=0 then⟨s.i,c,(bD W s).at_⟩else s
def bp(s:PS):PS:=⟨s.i+1,s.e,s.a⟩
def Sn(k:Nat)(g:mP)(s:PS):Prop:=s.e=0/\(bD W s).kind=k/\(bD W s).text=g
instance (k:Nat) (g:mP) (s:PS):Decidable (Sn W k g s):=inferInstanceAs (Decidable (_/\_/\_))
abbrev gK(g:mP)(s:PS):Prop:=Sn W 5 g s
abbrev cj(g:mP)(s:PS):Prop:=Sn W 1 g s
def cS(k:Nat)(g:mP)(s:PS):PS:=if Sn W k g s then bp s else s
def cP(g:mP)(s:PS):PS:=if gK W g s then bp s else dA W 2 s
def jy(s:PS):PS:=if gK W [44] s then bp s else cS W 5 [59] s
def bO(ok:mP->Bool)(s:PS):mP×PS:=if s.e=0/\(bD W s).kind=1/\ok (bD W s).text=true then((bD W s).text,bp s) else([],dA W 2 s)
structure Mv (s s':PS):Prop where
 le:s.i<=s'.i
 lt:s'.i<W.length
 e:s'.e=0->s.e=0
end
abbrev pC(b:Bool)(W:List Tok)(s:PS):List V:=(pH b (dY W) (s.i:Int) s.e s.a)
abbrev pO(b:Bool)(W:List Tok)(s:PS):List Ob:=[.cells (pC b W s) []]
section
variable {f : Task → Option Out}
theorem jX{t:Task}{b:mP}{cs:List V}{fl fl':Fl}{m:Nat}{K:List V->mP->Tr}(h:f t=some (vs b,[.cells cs fl]))(hm:cs.length=m)(hf:(fl==fl')=true):
  aC f (.call t λ o=>ee o.snd λ x l2=>dx x λ c g=>aH (c.length==m) (aH (g==fl') (iK l2 (bm o.fst λ d=>eF d λ y=>K c y))))=aC f (K cs b):=by
 rw[cp h];show aC f (aH (cs.length==m) (aH (fl==fl') (K cs b)))=_;rw[hm,beq_self_eq_true,aN,hf,aN]
theorem jD{t:Task}{ds:List D}{k:Nat}{cs:List V}{fl fl':Fl}{m:Nat}{K:List V->List D->Tr}(h:f t=some (.d (.g ds),[.cells cs fl]))(hk:ds.length=k)(hm:cs.length=m)(hf:(fl==fl')=true):
  aC f (.call t λ o=>ee o.snd λ x l2=>dx x λ c g=>aH (c.length==m) (aH (g==fl') (iK l2 (bm o.fst λ d=>jM k d λ y=>K c y))))=aC f (K cs ds):=by
 rw[cp h];show aC f (aH (cs.length==m) (aH (fl==fl') (jM k (.g ds) λ y=>K cs y)))=_;rw[hm,beq_self_eq_true,aN,hf,aN,jU,if_pos hk]
theorem Pn{t:Task}{b:Bool}{l:List D}{cs:List V}{fl fl':Fl}{m:Nat}{K:List V->Bool->List D->Tr}(h:f t=some (vl b l,[.cells cs fl]))(hm:cs.length=m)(hf:(fl==fl')=true):
  aC f (.call t λ o=>ee o.snd λ x l2=>dx x λ c g=>aH (c.length==m) (aH (g==fl') (iK l2 (bm o.fst λ d=>fT d λ y z=>K c y z))))=aC f (K cs b l):=by
 rw[cp h];show aC f (aH (cs.length==m) (aH (fl==fl') (K cs b l)))=_;rw[hm,beq_self_eq_true,aN,hf,aN]
theorem sR{l:List V}{j:Nat}{n:Int}(h:l[j]?=some (vi n)){K:Int->Tr}:aC f (ob l[j]? λ v=>aI v K)=aC f (K n):=by rw[aR h];exact UU
end
section
variable {b : Bool} {W : List Tok} (hW : Wds W) {s : PS} (hs : s.i < W.length)
theorem JJ(hs:s.i<W.length):bD W s=W[s.i]:=by unfold bD;rw[List.getD_eq_getElem?_getD,List.getElem?_eq_getElem hs];rfl
theorem Un(hs:s.i<W.length):(dY W)[s.i]?=some (bD W s).D:=by rw[JJ hs];unfold dY;rw[List.getElem?_map,List.getElem?_eq_getElem hs];rfl
include hW in
theorem ju(hs:s.i<W.length):(bD W s).text.length<=2000:=by rw[JJ hs];exact hW.txt _ (List.getElem_mem hs)
include hW in
theorem Mv.next(hs:s.i<W.length)(hk:(bD W s).kind≠6):(bp s).i<W.length:=hW.last s.i hs hk
theorem jc(hs:s.i<W.length):RU (.call 38 [.p 0 0] (pO b W s))=some (.d (bD W s).D,pO b W s):=by rw[RU,X6];refine(qn (i:=s.i) (Un hs) rfl).trans ?_;rfl
theorem jr(hs:s.i<W.length)(c:Int):RU (.call 40 [.p 0 0,vi c] (pO b W s))=some (.t [],pO b W (dA W c s)):=by
 rw[RU,X8];unfold dA;by_cases h:s.e=0
 ·rw[bK h,if_pos h];refine(jD (jc hs) rfl rfl rfl).trans ?_;refine bS.trans ?_;rfl
 ·rw[bu h,if_neg h];rfl
include hW in
theorem gY(hs:s.i<W.length):RU (.call 74 [.p 0 0] (pO b W s))=some (.t [],pO b W (bp s)):=by have:=hW.len;rw[RU,Yd,Ww];rfl
theorem Wi(a b:Nat):((a:Int)==(b:Int))=decide (a=b):=by
 by_cases h:a=b
 ·subst h;simp
 ·rw[decide_eq_false h];exact beq_eq_false_iff_ne.2 (by omega)
theorem Nr{p q r:Prop}[Decidable p][Decidable q][Decidable r]:decide (p/\q/\r)=(decide p&&(decide q&&decide r)):=by simp
theorem Jx(k:Nat)(g:mP):decide (Sn W k g s)=(decide (s.e=0)&&(decide ((bD W s).kind=k)&&decide ((bD W s).text=g))):=Nr
theorem xY(hs:s.i<W.length)(g:mP):RU (.call 128 [.p 0 0,vs g] (pO b W s))=some (vb (decide (gK W g s)),pO b W s):=by
 rw[RU,Xn,Jx];by_cases h:s.e=0
 ·rw[bK h,decide_eq_true h];refine(jD (jc hs) rfl rfl rfl).trans ?_;refine bS.trans ?_;by_cases h2:(bD W s).kind=5
  ·rw[bK,decide_eq_true h2];refine(jD (jc hs) rfl rfl rfl).trans ?_;show some (vb ((bD W s).text==g),_)=_;rw[ny];rfl
  ·rw[bu,decide_eq_false h2];rfl
 ·rw[bu h,decide_eq_false h];rfl
theorem Dp(hs:s.i<W.length)(g:mP):RU (.call 71 [.p 0 0,vs g] (pO b W s))=some (vb (decide (cj W g s)),pO b W s):=by
 rw[RU,Ya,Jx];by_cases h:s.e=0
 ·rw[bK h,decide_eq_true h];refine(jD (jc hs) rfl rfl rfl).trans ?_;refine bS.trans ?_;by_cases h2:(bD W s).kind=1
  ·rw[bK,decide_eq_true h2];refine(jD (jc hs) rfl rfl rfl).trans ?_;show some (vb ((bD W s).text==g),_)=_;rw[ny];rfl
  ·rw[bu,decide_eq_false h2];rfl
 ·rw[bu h,decide_eq_false h];rfl
include hW in
theorem rN(hs:s.i<W.length)(g:mP):RU (.call 72 [.p 0 0,vs g] (pO b W s))=some (vb (decide (cj W g s)),pO b W (cS W 1 g s)):=by
 rw[RU,Yb];refine(dr (Dp hs g) rfl rfl).trans ?_;unfold cS;by_cases h:cj W g s
 ·rw[bz h,if_pos h,decide_eq_true h];refine(cr (gY hW hs) rfl rfl).trans ?_;rfl
 ·rw[bn h,if_neg h,decide_eq_false h];rfl
include hW in
theorem rL(hs:s.i<W.length)(g:mP):RU (.call 75 [.p 0 0,vs g] (pO b W s))=some (vb (decide (gK W g s)),pO b W (cS W 5 g s)):=by
 rw[RU,Ye];refine(dr (xY hs g) rfl rfl).trans ?_;unfold cS;by_cases h:gK W g s
 ·rw[bz h,if_pos h,decide_eq_true h];refine(cr (gY hW hs) rfl rfl).trans ?_;rfl
 ·rw[bn h,if_neg h,decide_eq_false h];rfl
include hW in
theorem iS(hs:s.i<W.length)(g:mP):RU (.call 79 [.p 0 0,vs g] (pO b W s))=some (.t [],pO b W (cP W g s)):=by
 rw[RU,Yi];refine(dr (xY hs g) rfl rfl).trans ?_;unfold cP;by_cases h:gK W g s
 ·rw[if_pos h,decide_eq_true h,jF];refine(cr (gY hW hs) rfl rfl).trans ?_;rfl
 ·rw[if_neg h,decide_eq_false h,iI];refine(cr (jr hs 2) rfl rfl).trans ?_;rfl
include hW in
theorem uA(hs:s.i<W.length):RU (.call 84 [.p 0 0] (pO b W s))=some (.t [],pO b W (jy W s)):=by
 rw[RU,Yo];refine(dr (rL hW hs [44]) rfl rfl).trans ?_;unfold jy;by_cases h:gK W [44] s
 ·rw[if_pos h,decide_eq_true h,jF];unfold cS;rw[if_pos h];rfl
 ·rw[if_neg h,decide_eq_false h,iI];have e:cS W 5 [44] s=s:=by unfold cS;rw[if_neg h]
  rw[e];refine(dr (rL hW hs [59]) rfl rfl).trans ?_;rfl
include hW in
theorem mi(hs:s.i<W.length):RU (.call 78 [.p 0 0] (pO b W s))=some (vs (bO W aZ s).1,pO b W (bO W aZ s).2):=by
 have no:RU (.at_ 78 1 (fw 27) (y9 true) [] [.cells ((bD W s).D.cells.map V.d) [],.cells (pC b W s) []])=some (vs [],pO b W (dA W 2 s)):=by rw[RU];refine(EE ..).trans ?_;rw[bF];refine(cr (jr hs 2) rfl rfl).trans ?_;rfl
 rw[RU,Yh];refine(jD (jc hs) rfl rfl rfl).trans ?_;refine aN.trans ?_;refine(sR (j:=2) (n:=s.e) rfl).trans ?_;unfold bO;by_cases h:s.e=0
 ·rw[dN h];refine bS.trans ?_;by_cases h2:(bD W s).kind=1
  ·rw[dN (by omega)]
   refine(dH (sT _ (Nat.le_trans (ju hW hs) (by decide)))).trans ?_
   cases h3:aZ (bD W s).text with
   |true=>
    rw[if_pos ⟨h,h2,rfl⟩];refine aK ?_;rw[RU];refine(EE ..).trans ?_;refine bo.trans ?_;refine(cr (gY hW hs) rfl rfl).trans ?_;rfl
   |false=>
    rw[if_neg (by simp)];exact aK no
  ·rw[ep (by omega),if_neg (by simp[h2])]
   exact aK no
 ·rw[ep h,if_neg (by simp[h])]
  exact aK no
include hW in
theorem sB(hs:s.i<W.length):RU (.call 76 [.p 0 0] (pO b W s))=some (vs (bO W gU s).1,pO b W (bO W gU s).2):=by
 have no:RU (.at_ 76 1 (fw 27) (y9 true) [] [.cells ((bD W s).D.cells.map V.d) [],.cells (pC b W s) []])=some (vs [],pO b W (dA W 2 s)):=by rw[RU];refine(EC ..).trans ?_;rw[bF];refine(cr (jr hs 2) rfl rfl).trans ?_;rfl
 rw[RU,Yf];refine(jD (jc hs) rfl rfl rfl).trans ?_;refine aN.trans ?_;refine(sR (j:=2) (n:=s.e) rfl).trans ?_;unfold bO;by_cases h:s.e=0
 ·rw[dN h];refine bS.trans ?_;by_cases h2:(bD W s).kind=1
  ·rw[dN (by omega)]
   refine(dH (NS _ (Nat.le_trans (ju hW hs) (by decide)))).trans ?_
   cases h3:gU (bD W s).text with
   |true=>
    rw[if_pos ⟨h,h2,rfl⟩];refine aK ?_;rw[RU];refine(EC ..).trans ?_;refine bo.trans ?_;refine(cr (gY hW hs) rfl rfl).trans ?_;rfl
   |false=>
    rw[if_neg (by simp)];exact aK no
  ·rw[ep (by omega),if_neg (by simp[h2])]
   exact aK no
 ·rw[ep h,if_neg (by simp[h])]
  exact aK no
end
section
variable {W : List Tok} {s s' s'' : PS}
structure Ad (W:List Tok) (s s':PS):Prop extends Mv W s s' where
 ad:s'.e=0->s.i<s'.i
theorem Mv.trans(h:Mv W s s')(k:Mv W s' s''):Mv W s s'':=⟨Nat.le_trans h.le k.le,k.lt,λ e=>h.e (k.e e)⟩
theorem Mv.ad(h:Mv W s s')(k:Ad W s' s''):Ad W s s'':=⟨h.trans k.toMv,λ e=>Nat.lt_of_le_of_lt h.le (k.ad e)⟩
theorem Ad.mv(h:Ad W s s')(k:Mv W s' s''):Ad W s s'':=⟨h.toMv.trans k,λ e=>Nat.lt_of_lt_of_le (h.ad (k.e e)) k.le⟩
theorem Mv.refl(h:s.i<W.length):Mv W s s:=⟨Nat.le_refl _,h,λ e=>e⟩
variable (hW : Wds W) (hs : s.i < W.length)
include hW in
theorem bX(hs:s.i<W.length)(hk:(bD W s).kind≠6):Ad W s (bp s):=⟨⟨Nat.le_succ _,Mv.next hW hs hk,λ e=>e⟩,λ _=>Nat.lt_succ_self _⟩
theorem jq(c:Int)(hc:c≠0)(hs:s.i<W.length):Mv W s (dA W c s):=by
 unfold dA;split
 ·exact⟨Nat.le_refl _,hs,λ e=>absurd e hc⟩
 ·exact Mv.refl hs
theorem iy(c:Int)(hc:c≠0):(dA W c s).e≠0:=by
 unfold dA;split
 ·exact hc
 ·assumption
theorem lN(c:Int)(hc:c≠0)(hs:s.i<W.length):Ad W s (dA W c s):=⟨jq c hc hs,λ e=>absurd e (iy c hc)⟩
theorem cx{k:Nat}{g:mP}(h:Sn W k g s)(hk:k≠6):(bD W s).kind≠6:=by rw[h.2.1];exact hk
include hW in
theorem te(k:Nat)(g:mP)(hk:k≠6)(hs:s.i<W.length):Mv W s (cS W k g s):=by
 unfold cS;split
 ·rename_i h;exact(bX hW hs (cx h hk)).toMv
 ·exact Mv.refl hs
include hW in
theorem bY(g:mP)(hs:s.i<W.length):Ad W s (cP W g s):=by
 unfold cP;split
 ·rename_i h;exact bX hW hs (cx h (by decide))
 ·exact lN 2 (by decide) hs
include hW in
theorem fA(hs:s.i<W.length):Mv W s (jy W s):=by
 unfold jy;split
 ·rename_i h;exact(bX hW hs (cx h (by decide))).toMv
 ·exact te hW 5 [59] (by decide) hs
include hW in
theorem cy(ok:mP->Bool)(hs:s.i<W.length):Ad W s (bO W ok s).2:=by
 unfold bO;split
 ·rename_i h;exact bX hW hs (by rw[h.2.1];decide)
 ·exact lN 2 (by decide) hs
include hW in
theorem pf(ok:mP->Bool)(hs:s.i<W.length):(bO W ok s).1.length<=2000:=by
 unfold bO;split
 ·exact ju hW hs
 ·exact Nat.zero_le _
end
section
variable (W : List Tok)
def kH(sub:PS->Option (mP×PS))(s:PS):mP×PS:=
 if s.e=0/\(bD W s).kind=1 then
  if (bD W s).text=[98,121,116,101] then([105,56],bp s)
  else if gf (bD W s).text=0 then bO W gU s
  else if gf (bD W s).text=15\/gf (bD W s).text=14\/gf (bD W s).text=13 then
   match sub (cP W [60] (bp s)) with
   |none=>([],dA W 6 s)
   |some x=>
    if gf (bD W s).text=13 then
     match sub (cP W [44] x.2) with
     |none=>([],dA W 6 s)
     |some y=>(ta 13 x.1 y.1,cP W [62] y.2)
    else(ta (gf (bD W s).text) x.1 [],cP W [62] x.2)
  else((bD W s).text,bp s)
 else([],dA W 2 s)
def gC:Nat->PS->mP×PS
 |0=>kH W λ _=>none
 |n+1=>kH W λ s=>some (gC n s)
end
section
variable {b : Bool} {W : List Tok} (hW : Wds W)
include hW in
theorem Kr{sub:PS->Option (mP×PS)}(hsub:∀s x,s.i<W.length->sub s=some x->Ad W s x.2){s:PS}(hs:s.i<W.length):Ad W s (kH W sub s).2:=by
 unfold kH;split
 ·rename_i h;have hn:=bX hW hs (by rw[h.2];decide);split
  ·exact hn
  ·split
   ·exact cy hW gU hs
   ·split
    ·have h1:=hn.mv (bY hW [60] hn.lt).toMv;split
     ·exact lN 6 (by decide) hs
     ·rename_i x hx;have h2:=h1.mv (hsub _ _ h1.lt hx).toMv;split
      ·have h3:=h2.mv (bY hW [44] h2.lt).toMv;split
       ·exact lN 6 (by decide) hs
       ·rename_i y hy;have h4:=h3.mv (hsub _ _ h3.lt hy).toMv;exact h4.mv (bY hW [62] h4.lt).toMv
      ·exact h2.mv (bY hW [62] h2.lt).toMv
    ·exact hn
 ·exact lN 2 (by decide) hs
include hW in
theorem iB:∀(n:Nat) {s:PS},s.i<W.length->Ad W s (gC W n s).2
 |0,s,hs=>Kr hW (λ _ _ _ h=>by cases h) hs
 |n+1,s,hs=>Kr hW (λ s x hs h=>by injection h with h;subst h;exact iB n hs) hs
theorem qa{k:Int}{x y:mP}:(ta k x y).length<=x.length+y.length+6:=by
 unfold ta;split
 ·simp;omega
 ·have:(UF k).length<=4:=by unfold UF;split;decide;split<;>decide
  simp;omega
include hW in
theorem Gv{sub:PS->Option (mP×PS)}{m:Nat}(hm:2000<=m)(hsub:∀s x,s.i<W.length->sub s=some x->Ad W s x.2/\x.1.length<=m){s:PS}(hs:s.i<W.length):(kH W sub s).1.length<=2*m+6:=by
 unfold kH;split
 ·rename_i h;have hn:=bX hW hs (by rw[h.2];decide);split
  ·simp
  ·split
   ·have:=pf hW gU hs;omega
   ·split
    ·have h1:=hn.mv (bY hW [60] hn.lt).toMv;split
     ·simp
     ·rename_i x hx;have h2:=h1.mv (hsub _ _ h1.lt hx).1.toMv;have l2:=(hsub _ _ h1.lt hx).2;split
      ·have h3:=h2.mv (bY hW [44] h2.lt).toMv;split
       ·simp
       ·rename_i y hy;have l4:=(hsub _ _ h3.lt hy).2;have:=qa (k:=13) (x:=x.1) (y:=y.1);simp only;omega
      ·have:=qa (k:=gf (bD W s).text) (x:=x.1) (y:=[]);simp only[List.length_nil]at this⊢;omega
    ·have:=ju hW hs;simp only;omega
 ·simp
include hW in
theorem Ku:∀(n:Nat) {s:PS},s.i<W.length->(gC W n s).1.length+6<=4012*2^n
 |0,s,hs=>by have:=Gv hW (m:=2000) (Nat.le_refl _) (sub:=λ _=>none) (λ _ _ _ h=>by cases h) hs;simp only[gC];omega
 |n+1,s,hs=>by
  have h0:0<2^n:=Nat.pow_pos (by decide);have:=Gv hW (m:=4012*2^n-6) (by omega) (sub:=λ s=>some (gC W n s)) (λ s x hs h=>by
   injection h with h;subst h
   have:=Ku n hs
   exact⟨iB hW n hs,by omega⟩) hs
  simp only[gC];rw[Nat.pow_succ];omega
include hW in
theorem mY{n:Nat}(hn:n<=12){s:PS}(hs:s.i<W.length):(gC W n s).1.length<=100000000:=by
 have h:=Ku hW n hs;have h2:2^n<=2^12:=Nat.pow_le_pow_right (by decide) hn;have:(2:Nat)^12=4096:=by decide
 omega
include hW in
theorem BS:∀(n:Nat),n<=12->∀{s:PS},s.i<W.length->RU (.call 77 [.p 0 0,vi (13-n:Int)] (pO b W s))=some (vs (gC W n s).1,pO b W (gC W n s).2):=by
 have body:∀(n:Nat) (sub:PS->Option (mP×PS)),n<=12->(∀{s:PS} {x},s.i<W.length->sub s=some x->n≠0/\RU (.call 77 [.p 0 0,vi (13-n+1:Int)] (pO b W s))=some (vs x.1,pO b W x.2)/\Ad W s x.2/\x.1.length<=100000000)->(∀s,sub s=none->n=0)->
   ∀{s:PS},s.i<W.length->RU (.call 77 [.p 0 0,vi (13-n:Int)] (pO b W s))=some (vs (kH W sub s).1,pO b W (kH W sub s).2):=by
  intro n sub hn hsub hsub0 s hs;have bad:¬(s.e=0/\(bD W s).kind=1)->RU (.at_ 77 1 (fw 27) (Mo (13-n:Int) true) [] [.cells ((bD W s).D.cells.map V.d) [],.cells (pC b W s) []])=some (vs (kH W sub s).1,pO b W (kH W sub s).2):=by intro h;unfold kH;rw[if_neg h,RU];refine(ED ..).trans ?_;rw[bF];refine(cr (jr hs 2) rfl rfl).trans ?_;rfl
  have at4047:∀(k:Int) (w:Bool),k=gf (bD W s).text->(bD W s).text≠[98,121,116,101]->k≠0->s.e=0->(bD W s).kind=1->w=decide (¬(k=15\/k=14\/k=13))->
    RU (.at_ 77 1 (fw 4047) (LX (13-n:Int) k w) [] [.cells ((bD W s).D.cells.map V.d) [],.cells (pC b W s) []])=some (vs (kH W sub s).1,pO b W (kH W sub s).2):=by
   intro k w hk hby hk0 he h1 hw;have hn1:=bX hW hs (by rw[h1];decide);unfold kH;rw[if_pos ⟨he,h1⟩,if_neg hby,<-hk,if_neg hk0,RU];refine(Hn ..).trans ?_;rw[hw];by_cases hc:k=15\/k=14\/k=13
   ·rw[bn (not_not_intro hc),if_pos hc];have hgt:((13-n:Int)>12)↔n=0:=by omega
    cases hx:sub (cP W [60] (bp s)) with
    |none=>
     have hn0:=hsub0 _ hx;rw[bz (hgt.2 hn0)];refine(cr (jr hs 6) rfl rfl).trans ?_;rfl
    |some x=>
     have h2:=hn1.mv (bY hW [60] hn1.lt).toMv;obtain⟨hn0,hr,hx1,hx2⟩:=hsub h2.lt hx;rw[bn (λ h=>hn0 (hgt.1 h))];refine(cr (gY hW hs) rfl rfl).trans ?_;refine(cr (iS hW hn1.lt [60]) rfl rfl).trans ?_;rw[Ww];refine(jX hr rfl rfl).trans ?_;have h3:=h2.mv hx1.toMv;have fin:∀(y:mP) (t:PS),t.i<W.length->y.length<=100000000->RU (.at_ 77 1 (fw 2047) (EP k x.1 y) [] (pO b W t))=some (vs (ta k x.1 y),pO b W (cP W [62] t)):=by intro y t ht hy;rw[RU];refine(Hm ..).trans ?_;refine(cr (iS hW ht [62]) rfl rfl).trans ?_;refine(fh (RJ k (by omega) x.1 y hx2 hy)).trans ?_;rfl
     by_cases h13:k=13
     ·rw[bK h13];dsimp only;rw[if_pos h13];refine(cr (iS hW h3.lt [44]) rfl rfl).trans ?_;have h4:=h3.mv (bY hW [44] h3.lt).toMv
      cases hy:sub (cP W [44] x.2) with
      |none=>exact absurd (hsub0 _ hy) hn0
      |some y=>
       obtain⟨_,hr',hy1,hy2⟩:=hsub h4.lt hy;refine(jX hr' rfl rfl).trans ?_;dsimp only;subst h13;exact aK (fin y.1 y.2 (h4.mv hy1.toMv).lt hy2)
     ·rw[bu h13];dsimp only;rw[if_neg h13];exact aK (fin [] x.2 h3.lt (by simp))
   ·rw[bz hc,if_neg hc];refine(cr (gY hW hs) rfl rfl).trans ?_;rfl
  have at27:s.e=0->(bD W s).kind=1->RU (.at_ 77 1 (fw 27) (Mo (13-n:Int) false) [] [.cells ((bD W s).D.cells.map V.d) [],.cells (pC b W s) []])=some (vs (kH W sub s).1,pO b W (kH W sub s).2):=by
   intro he h1;rw[RU];refine(ED ..).trans ?_;refine bo.trans ?_;refine(ed (qQ (bD W s).text)).trans ?_;by_cases hby:(bD W s).text=[98,121,116,101]
   ·refine(dz (by rw[hby];rfl)).trans ?_
    refine(cr (gY hW hs) rfl rfl).trans ?_;unfold kH;rw[if_pos ⟨he,h1⟩,if_pos hby];rfl
   ·refine(cF (by rw[ny];exact decide_eq_false hby)).trans ?_
    by_cases hk:gf (bD W s).text=0
    ·rw[bK hk];refine(jX (sB hW hs) rfl rfl).trans ?_;unfold kH;rw[if_pos ⟨he,h1⟩,if_neg hby,if_pos hk];rfl
    ·rw[bu hk];by_cases h15:gf (bD W s).text=15
     ·rw[dN h15];exact aK (at4047 _ _ rfl hby hk he h1 (by simp[h15]))
     ·rw[ep h15];by_cases h14:gf (bD W s).text=14
      ·rw[dN h14];exact aK (at4047 _ _ rfl hby hk he h1 (by simp[h14]))
      ·rw[ep h14];refine aK (at4047 _ _ rfl hby hk he h1 ?_);by_cases h13:gf (bD W s).text=13
       ·simp[h13]
       ·simp[h13,h14,h15,bne]
  rw[RU,Yg];refine(jD (jc hs) rfl rfl rfl).trans ?_;refine aN.trans ?_;refine(sR (j:=2) (n:=s.e) rfl).trans ?_;by_cases h:s.e=0
  ·rw[dN h];refine bS.trans ?_;by_cases h2:(bD W s).kind=1
   ·have e:(((bD W s).kind:Int) != 1)=false:=by rw[h2];rfl
    rw[e];exact aK (at27 h h2)
   ·have e:(((bD W s).kind:Int) != 1)=true:=bne_iff_ne.2 (by omega)
    rw[e];exact aK (bad λ x=>h2 x.2)
  ·rw[ep h];exact aK (bad λ x=>h x.1)
 intro n
 induction n with
 |zero=>intro hn s hs;exact body 0 (λ _=>none) hn (λ _ h=>by cases h) (λ _ _=>rfl) hs
 |succ n ih=>
  intro hn s hs;refine body (n+1) (λ s=>some (gC W n s)) hn (λ {s x} hs h=>?_) (λ s h=>by cases h) hs;injection h with h;subst h
  refine⟨by omega,?_,iB hW n hs,mY hW (by omega) hs⟩;have e:(13-((n+1:Nat):Int)+1)=(13-(n:Int)):=by omega
  rw[e];exact ih (by omega) hs
end
structure Cs where
 k:Int
 n:Int
 u:Int
 s:mP
 l:List D
def Cs.D(c:Cs):D:=cD c.k c.n c.u c.s c.l.isEmpty c.l
abbrev c0:Cs:=⟨0,0,0,[],[]⟩
abbrev y7:mP:=[116,114,117,101]
abbrev ud:mP:=[102,97,108,115,101]
section
variable (W : List Tok)
def vY(s:PS):Bool:=
 if (bD W s).kind=2\/(bD W s).kind=3\/(bD W s).kind=4 then true
 else if (bD W s).kind=1 then decide ((bD W s).text=y7\/(bD W s).text=ud)||gU (bD W s).text
 else decide (gK W [91] s\/gK W [123] s)
def kD(mp:Bool):mP:=if mp=true then [125]else [93]
def dS(cst:PS->Cs×PS)(mp:Bool):Nat->Nat->List D->PS->List D×PS
 |0,_,L,s=>(L,s)
 |f+1,n,L,s=>
  if s.e=0/\¬gK W (kD mp) s then
   if n=40/\vY W s=true then(L,dA W 4 s)
   else if mp=true then dS cst mp f (n+1) (L++[(cst s).1.D]++[(cst (cP W [58] (cst s).2)).1.D]) (jy W (cst (cP W [58] (cst s).2)).2)
   else dS cst mp f (n+1) (L++[(cst s).1.D]) (jy W (cst s).2)
  else(L,s)
def iL(cst:PS->Cs×PS)(s:PS):Cs×PS:=
 (⟨if gK W [123] s then 6 else 5,0,0,[],(dS W cst (decide (gK W [123] s)) (W.length+2) 0 [] (bp s)).1⟩,cP W (kD (decide (gK W [123] s))) (dS W cst (decide (gK W [123] s)) (W.length+2) 0 [] (bp s)).2)
def fW(it:PS->Cs×PS)(s:PS):Cs×PS:=
 if s.e≠0 then(c0,s)
 else if (bD W s).kind=2 then(⟨1,(bD W s).n,0,[],[]⟩,bp s)
 else if (bD W s).kind=3 then(⟨2,0,(bD W s).d,[],[]⟩,bp s)
 else if (bD W s).kind=4 then(⟨3,0,0,(bD W s).text,[]⟩,bp s)
 else if (bD W s).kind=1 then
  if (bD W s).text=y7\/(bD W s).text=ud then(⟨4,0,0,(bD W s).text,[]⟩,bp s)
  else(⟨4,0,0,(bO W gU s).1,[]⟩,(bO W gU s).2)
 else if gK W [91] s\/gK W [123] s then it s
 else(c0,dA W 2 s)
def jP:Nat->PS->Cs×PS
 |0=>fW W λ s=>(c0,dA W 6 s)
 |n+1=>fW W (iL W (jP n))
end
section
variable {b : Bool} {W : List Tok} (hW : Wds W)
include hW in
theorem kM{cst:PS->Cs×PS}(hc:∀s,s.i<W.length->Mv W s (cst s).2)(mp:Bool):∀(f n:Nat) (L:List D) {s:PS},s.i<W.length->Mv W s (dS W cst mp f n L s).2
 |0,n,L,s,hs=>Mv.refl hs
 |f+1,n,L,s,hs=>by
  unfold dS;split
  ·split
   ·exact jq 4 (by decide) hs
   ·have h1:=hc s hs;split
    ·have h2:=h1.trans (bY hW [58] h1.lt).toMv;have h3:=h2.trans (hc _ h2.lt);have h4:=h3.trans (fA hW h3.lt);exact h4.trans (kM hc mp f _ _ h4.lt)
    ·have h4:=h1.trans (fA hW h1.lt);exact h4.trans (kM hc mp f _ _ h4.lt)
  ·exact Mv.refl hs
include hW in
theorem Lu{cst:PS->Cs×PS}(hc:∀s,s.i<W.length->Mv W s (cst s).2){s:PS}(hs:s.i<W.length)(hk:(bD W s).kind≠6):Ad W s (iL W cst s).2:=by have h1:=bX hW hs hk;have h2:=h1.mv (kM hW hc (decide (gK W [123] s)) (W.length+2) 0 [] h1.lt);exact h2.mv (bY hW _ h2.lt).toMv
include hW in
theorem Af{it:PS->Cs×PS}(hit:∀s,s.i<W.length->(bD W s).kind≠6->Ad W s (it s).2){s:PS}(hs:s.i<W.length):Mv W s (fW W it s).2/\(s.e=0->Ad W s (fW W it s).2):=by
 have ad:∀{s':PS},Ad W s s'->Mv W s s'/\(s.e=0->Ad W s s'):=λ h=>⟨h.toMv,λ _=>h⟩
 unfold fW;split
 ·rename_i h;exact⟨Mv.refl hs,λ e=>absurd e h⟩
 split
 ·rename_i h;exact ad (bX hW hs (by rw[h];decide))
 split
 ·rename_i h;exact ad (bX hW hs (by rw[h];decide))
 split
 ·rename_i h;exact ad (bX hW hs (by rw[h];decide))
 split
 ·rename_i h;split
  ·exact ad (bX hW hs (by rw[h];decide))
  ·exact ad (cy hW gU hs)
 split
 ·rename_i h;exact ad (hit s hs (by rcases h with h|h<;>exact cx h (by decide)))
 ·exact ad (lN 2 (by decide) hs)
include hW in
theorem kc:∀(n:Nat) {s:PS},s.i<W.length->Mv W s (jP W n s).2/\(s.e=0->Ad W s (jP W n s).2)
 |0,s,hs=>Af hW (λ s hs _=>lN 6 (by decide) hs) hs
 |n+1,s,hs=>Af hW (λ s hs hk=>Lu hW (λ s hs=>(kc n hs).1) hs hk) hs
include hW in
theorem UX{s:PS}(hs:s.i<W.length):RU (.call 179 [.p 0 0] (pO b W s))=some (vb (vY W s),pO b W s):=by
 have at107:∀w:Bool,w=decide ((bD W s).kind=2\/(bD W s).kind=3\/(bD W s).kind=4)->RU (.at_ 179 1 (fw 107) (Mr ((bD W s).kind:Int) w) [] [.cells ((bD W s).D.cells.map V.d) [],.cells (pC b W s) []])=some (vb (vY W s),pO b W s):=by
  intro w hw;rw[RU];refine(Hk ..).trans ?_;unfold vY;rw[hw];by_cases h:(bD W s).kind=2\/(bD W s).kind=3\/(bD W s).kind=4
  ·rw[bz h,if_pos h];rfl
  ·rw[bn h,if_neg h];by_cases h1:(bD W s).kind=1
   ·rw[bK,if_pos h1];by_cases ht:(bD W s).text=y7
    ·refine(dz (by rw[ht];rfl)).trans ?_
     rw[decide_eq_true (.inl ht)];rfl
    ·refine(cF (by rw[ny];exact decide_eq_false ht)).trans ?_
     by_cases hf:(bD W s).text=ud
     ·refine(dz (by rw[hf];rfl)).trans ?_
      rw[decide_eq_true (.inr hf)];rfl
     ·refine(cF (by rw[ny];exact decide_eq_false hf)).trans ?_
      refine(dH (NS _ (Nat.le_trans (ju hW hs) (by decide)))).trans ?_;rw[decide_eq_false (λ h=>h.elim ht hf)];rfl
   ·rw[bu,if_neg h1];refine(dr (xY hs [91]) rfl rfl).trans ?_;by_cases ha:gK W [91] s
    ·rw[bz ha,decide_eq_true (.inl ha)];rfl
    ·rw[bn ha];refine(dr (xY hs [123]) rfl rfl).trans ?_;by_cases hb:gK W [123] s
     ·rw[decide_eq_true hb,decide_eq_true (.inr hb)];rfl
     ·rw[decide_eq_false hb,decide_eq_false (λ h=>h.elim ha hb)];rfl
 rw[RU,Xu];refine(jD (jc hs) rfl rfl rfl).trans ?_;refine aN.trans ?_;refine bS.trans ?_;by_cases h2:(bD W s).kind=2
 ·rw[bK];exact aK (at107 _ (by rw[h2];rfl))
 ·rw[bu];by_cases h3:(bD W s).kind=3
  ·rw[bK];exact aK (at107 _ (by rw[h3];rfl))
  ·rw[bu];refine aK (at107 _ ?_);rw[show (((bD W s).kind:Int)==4)=decide ((bD W s).kind=4)from Wi _ 4];simp[h2,h3]
theorem qm{f:Task->Option Out}{c:Bool}{X:Tr}(h:c=true):aC f (aH c X)=aC f X:=by rw[h];exact aN
theorem Cs.one(c:Cs):dK [c.D]=true:=rfl
theorem Sj{L:List D}(h:∀y∈L,y.width=5):bw 5 L=true:=by
 cases L with
 |nil=>rfl
 |cons y L=>exact beq_iff_eq.2 (h y (by simp))
theorem Jw{L:List D}{x:D}:(L++[x]).isEmpty=false:=by cases L<;>rfl
abbrev UE(mp:Bool)(L:List D):Ob := .cells (pd (if mp=true then 6 else 5) 0 0 [] L.isEmpty L) [(4,5)]
abbrev SC:Ob := .cells (pd 0 0 0 [] true []) []
include hW in
theorem HD{cst:PS->Cs×PS}(d:Int)(hd:0<=d/\d<=100)(hc:∀s,s.i<W.length->Mv W s (cst s).2/\(s.e=0->Ad W s (cst s).2))(hr:∀s,s.i<W.length->RU (.call 80 [.p 0 0,vi (d+1)] (pO b W s))=some (.d (cst s).1.D,pO b W (cst s).2))(mp:Bool):∀(f n:Nat) (L:List D) {s:PS},s.i<W.length->1<=f->(s.e=0->W.length<s.i+f)->n<=1000000->(s.e=0->n<=s.i)->L.length<=2*n->(∀y∈L,y.width=5)->
    RU (.at_ 132 1 (fw 703) (RX d (kD mp) (n:Int)) [] [UE mp L,SC,.cells (pC b W s) []])=
      some (.d (Cs.D ⟨if mp=true then 6 else 5,0,0,[],(dS W cst mp f n L s).1⟩),pO b W (cP W (kD mp) (dS W cst mp f n L s).2)):=by
  have at255:∀(L:List D) (s:PS),s.i<W.length->RU (.at_ 132 1 (fw 255) (Rt (kD mp)) [] [UE mp L,SC,.cells (pC b W s) []])=some (.d (Cs.D ⟨if mp=true then 6 else 5,0,0,[],L⟩),pO b W (cP W (kD mp) s)):=by intro L s hs;rw[RU];refine(Hd ..).trans ?_;refine(cr (iS hW hs _) rfl rfl).trans ?_;rfl
  intro f
  induction f with
  |zero=>intro n L s hs h1;omega
  |succ f ih=>
    intro n L s hs _ hf hn hni hL hw;have hlen:=hW.len
    have next:∀(L':List D) {s':PS},Mv W s s'->(s'.e=0->s.i<s'.i)->s.e=0->L'.length<=2*(n+1)->(∀y∈L',y.width=5)->
        RU (.at_ 132 1 (fw 7359) (RX d (kD mp) (n:Int)) [] [UE mp L',SC,.cells (pC b W s') []])=
          some (.d (Cs.D ⟨if mp=true then 6 else 5,0,0,[],(dS W cst mp f (n+1) L' s').1⟩),pO b W (cP W (kD mp) (dS W cst mp f (n+1) L' s').2)):=by
      intro L' s' hm had he hl' hw';have h1:=hf he;have h2:=hni he;rw[RU];refine(Ea ..).trans ?_;rw[Ww];exact aK (ih (n+1) L' hm.lt (by omega) (λ e=>by have:=had e;omega) (by omega) (λ e=>by have:=had e;omega) hl' hw')
    have go:s.e=0->¬gK W (kD mp) s->¬(n=40/\vY W s=true)->RU (.at_ 132 1 (fw 50367) (Ov d (kD mp) (n:Int) false) [] [UE mp L,SC,.cells (pC b W s) []])=
          some (.d (Cs.D ⟨if mp=true then 6 else 5,0,0,[],(dS W cst mp (f+1) n L s).1⟩),pO b W (cP W (kD mp) (dS W cst mp (f+1) n L s).2)):=by
      intro he h2 h3;have hm1:=hc s hs;have a1:=hm1.2 he;unfold dS;rw[if_pos (show s.e=0/\¬gK W (kD mp) s from⟨he,h2⟩),if_neg h3,RU];refine(su ..).trans ?_;refine bo.trans ?_;rw[Ww];refine(jD (hr s hs) rfl rfl rfl).trans ?_;have hh:=Sj hw;refine(qm hh).trans ?_;refine(qm (show (L.isEmpty||dK [(cst s).1.D])=true by rw[Cs.one,Bool.or_true])).trans ?_;refine(aJ (by omega)).trans ?_;have hw1:∀y∈L++[(cst s).1.D],y.width=5:=λ y hy=>by
        rcases List.mem_append.1 hy with h|h
        · exact hw y h
        · rw[List.mem_singleton.1 h];rfl
      cases mp with
      |true=>
        refine(dz (show (kD true==[125])=true from rfl)).trans ?_;refine(cr (iS hW a1.lt [58]) rfl rfl).trans ?_;have a2:=a1.mv (bY hW [58] a1.lt).toMv;refine(jD (hr _ a2.lt) rfl rfl rfl).trans ?_;have hh1:=Sj hw1;have a3:=a2.mv (hc _ a2.lt).1;have a4:=a3.mv (fA hW a3.lt);refine(qm hh1).trans ?_;refine(qm (show (L.isEmpty&&false||dK [(cst (cP W [58] (cst s).2)).1.D])=true by rw[Bool.and_false,Bool.false_or,Cs.one])).trans ?_;refine(aJ (by simp;omega)).trans ?_;refine(cr (uA hW a3.lt) rfl rfl).trans ?_;rw[if_pos rfl];refine aK ?_;have:=next (L++[(cst s).1.D]++[(cst (cP W [58] (cst s).2)).1.D]) a4.toMv a4.ad he (by simp;omega) λ y hy=>by
          rcases List.mem_append.1 hy with h|h
          · exact hw1 y h
          · rw[List.mem_singleton.1 h];rfl
        rw[show (L.isEmpty&&false&&false)=(L++[(cst s).1.D]++[(cst (cP W [58] (cst s).2)).1.D]).isEmpty by rw[Jw,Bool.and_false]];exact this
      |false=>
        refine(cF (show (kD false==[125])=false from rfl)).trans ?_;have a4:=a1.mv (fA hW a1.lt);refine(cr (uA hW a1.lt) rfl rfl).trans ?_;rw[if_neg (by decide)];refine aK ?_;rw[show (L.isEmpty&&false)=(L++[(cst s).1.D]).isEmpty by rw[Jw,Bool.and_false]];exact next _ a4.toMv a4.ad he (by simp;omega) hw1
    have at6335:∀w:Bool,w=decide (s.e=0/\¬gK W (kD mp) s)->RU (.at_ 132 1 (fw 6335) (SF d (kD mp) (n:Int) w) [] [UE mp L,SC,.cells (pC b W s) []])=
          some (.d (Cs.D ⟨if mp=true then 6 else 5,0,0,[],(dS W cst mp (f+1) n L s).1⟩),pO b W (cP W (kD mp) (dS W cst mp (f+1) n L s).2)):=by
      intro w hw';rw[RU];refine(D9 ..).trans ?_;rw[hw'];by_cases h:s.e=0/\¬gK W (kD mp) s
      · rw [bz h]
        by_cases h40:n=40
        · rw [bK]
          refine(dr (UX hW hs) rfl rfl).trans ?_
          cases hb:vY W s with
          |true=>
            refine aK ?_;unfold dS;rw[if_pos h,if_pos (show n=40/\vY W s=true from⟨h40,hb⟩),RU];refine(su ..).trans ?_;refine bF.trans ?_;refine(cr (jr hs 4) rfl rfl).trans ?_;exact aK (at255 L _ (jq 4 (by decide) hs).lt)
          |false=>exact aK (go h.1 h.2 (λ x=>by rw[hb]at x;cases x.2))
        · rw [bu]
          exact aK (go h.1 h.2 λ x=>h40 x.1)
      · rw [bn h]
        unfold dS;rw[if_neg h];exact aK (at255 L s hs)
    rw[RU];refine(He ..).trans ?_;refine(sR (j:=2) (n:=s.e) rfl).trans ?_;by_cases he:s.e=0
    · rw [bK he]
      refine(dr (xY hs (kD mp)) rfl rfl).trans ?_;refine aK (at6335 _ ?_);by_cases h:gK W (kD mp) s<;>simp[h,he]
    · rw [bu he]
      exact aK (at6335 _ (by simp[he]))
include hW in
theorem QW{cst:PS->Cs×PS}(d:Int)(hd:0<=d/\d<=12)(hc:∀s,s.i<W.length->Mv W s (cst s).2/\(s.e=0->Ad W s (cst s).2))(hr:∀s,s.i<W.length->RU (.call 80 [.p 0 0,vi (d+1)] (pO b W s))=some (.d (cst s).1.D,pO b W (cst s).2)){s:PS}(hs:s.i<W.length)(hk:(bD W s).kind≠6):
  RU (.call 132 [.p 0 0,vi d] (pO b W s))=some (.d (iL W cst s).1.D,pO b W (iL W cst s).2):=by
 have h1:=bX hW hs hk;have at63:∀mp:Bool,mp=decide (gK W [123] s)->RU (.at_ 132 1 (fw 63) (Pm d (kD mp)) [] [UE mp [],SC,.cells (pC b W s) []])=some (.d (iL W cst s).1.D,pO b W (iL W cst s).2):=by
  intro mp hmp;rw[RU];refine(K7 ..).trans ?_;refine(cr (gY hW hs) rfl rfl).trans ?_;refine(aK (HD hW d (by omega) hc hr mp (W.length+2) 0 [] h1.lt (by omega) (λ _=>by omega) (by omega) (λ _=>by omega) (by simp) (λ _ h=>by cases h))).trans ?_;unfold iL;rw[<-hmp];by_cases h:gK W [123] s
  ·rw[decide_eq_true h]at hmp;subst hmp;rw[if_pos h];rfl
  ·rw[decide_eq_false h]at hmp;subst hmp;rw[if_neg h];rfl
 rw[RU,VH,bn];refine(dr (xY hs [123]) rfl rfl).trans ?_;by_cases h:gK W [123] s
 ·rw[bz h];exact aK (at63 true (decide_eq_true h).symm)
 ·rw[bn h];exact aK (at63 false (decide_eq_false h).symm)
include hW in
theorem DR{it:PS->Cs×PS}(d:Int)(hit:∀s,s.i<W.length->(bD W s).kind≠6->RU (.call 132 [.p 0 0,vi d] (pO b W s))=some (.d (it s).1.D,pO b W (it s).2)){s:PS}(hs:s.i<W.length):
  RU (.call 80 [.p 0 0,vi d] (pO b W s))=some (.d (fW W it s).1.D,pO b W (fW W it s).2):=by
 have at131047:∀w:Bool,w=decide (gK W [91] s\/gK W [123] s)->RU (.at_ 80 1 (fw 131047) (DG d w) [] [SC,.cells (pC b W s) []])=
   some (.d (if gK W [91] s\/gK W [123] s then it s else(c0,dA W 2 s)).1.D,pO b W (if gK W [91] s\/gK W [123] s then it s else(c0,dA W 2 s)).2):=by
  intro w hw;rw[RU];refine(Cn ..).trans ?_;rw[hw];by_cases h:gK W [91] s\/gK W [123] s
  ·rw[bz h,if_pos h];refine(jD (hit s hs (by rcases h with h|h<;>exact cx h (by decide))) rfl rfl rfl).trans ?_;exact aN.trans rfl
  ·rw[bn h,if_neg h];refine(cr (jr hs 2) rfl rfl).trans ?_;rfl
 have at8167:∀w:Bool,s.e=0->¬(bD W s).kind=2->¬(bD W s).kind=3->¬(bD W s).kind=4->w=decide (cj W y7 s\/cj W ud s)->RU (.at_ 80 1 (fw 8167) (O3 d w) [] [.cells ((bD W s).D.cells.map V.d) [],SC,.cells (pC b W s) []])=
   some (.d (fW W it s).1.D,pO b W (fW W it s).2):=by
  intro w he h2 h3 h4 hw;unfold fW;rw[if_neg (λ h=>h he),if_neg h2,if_neg h3,if_neg h4,RU];refine(Ho ..).trans ?_;rw[hw];by_cases h:cj W y7 s\/cj W ud s
  ·have h1:(bD W s).kind=1:=by rcases h with h|h<;>exact h.2.1
   rw[bz h,if_pos h1,if_pos (by rcases h with h|h;exact .inl h.2.2;exact .inr h.2.2)];refine(cr (gY hW hs) rfl rfl).trans ?_;rfl
  ·rw[bn h];refine bS.trans ?_;by_cases h1:(bD W s).kind=1
   ·rw[bK,if_pos h1,if_neg (λ x=>h (by rcases x with x|x;exact .inl ⟨he,h1,x⟩;exact .inr ⟨he,h1,x⟩))]
    refine(jX (sB hW hs) rfl rfl).trans ?_;rfl
   ·rw[bu,if_neg h1];refine(dr (xY hs [91]) rfl rfl).trans ?_;by_cases ha:gK W [91] s
    ·rw[bz ha];exact aK (at131047 true (decide_eq_true (.inl ha)).symm)
    ·rw[bn ha];refine(dr (xY hs [123]) rfl rfl).trans ?_;exact aK (at131047 _ (by simp[ha]))
 rw[RU,Yj];refine(jD (jc hs) rfl rfl rfl).trans ?_;refine aN.trans ?_;refine(sR (j:=2) (n:=s.e) rfl).trans ?_;by_cases he:s.e=0
 ·rw[dN he];refine bS.trans ?_;by_cases h2:(bD W s).kind=2
  ·rw[bK];unfold fW;rw[if_neg (λ h=>h he),if_pos h2];refine(cr (gY hW hs) rfl rfl).trans ?_;refine bS.trans ?_;rfl
  ·rw[bu];refine bS.trans ?_;by_cases h3:(bD W s).kind=3
   ·rw[bK];unfold fW;rw[if_neg (λ h=>h he),if_neg h2,if_pos h3];refine(cr (gY hW hs) rfl rfl).trans ?_;refine bS.trans ?_;rfl
   ·rw[bu];refine bS.trans ?_;by_cases h4:(bD W s).kind=4
    ·rw[bK];unfold fW;rw[if_neg (λ h=>h he),if_neg h2,if_neg h3,if_pos h4];refine(cr (gY hW hs) rfl rfl).trans ?_;rfl
    ·rw[bu];refine(dr (Dp hs y7) rfl rfl).trans ?_;by_cases ht:cj W y7 s
     ·rw[bz ht];exact aK (at8167 true he h2 h3 h4 (decide_eq_true (.inl ht)).symm)
     ·rw[bn ht];refine(dr (Dp hs ud) rfl rfl).trans ?_;exact aK (at8167 _ he h2 h3 h4 (by simp[ht]))
 ·rw[ep he];unfold fW;rw[if_pos he];rfl
include hW in
theorem B8:∀(n:Nat),n<=12->∀{s:PS},s.i<W.length->RU (.call 80 [.p 0 0,vi (13-n:Int)] (pO b W s))=some (.d (jP W n s).1.D,pO b W (jP W n s).2)
 |0,_,s,hs=>DR hW _ (λ s hs _=>by
   rw[RU,VH,bz];refine(cr (jr hs 6) rfl rfl).trans ?_
   rfl) hs
 |n+1,hn,s,hs=>DR hW _ (λ s hs hk=>QW hW _ (by omega) (λ s hs=>kc hW n hs) (λ s hs=>by
   have e:(13-((n+1:Nat):Int)+1)=(13-(n:Int)):=by omega
   rw[e]
   exact B8 n (by omega) hs) hs hk) hs
end
end Go.Dn.Dec.Pa
namespace Go.Dn.Dec
open Go.IntKind (i64 u64 u8 u16 i32 u32)
open Go.Proofs
open Tryz (prog)
theorem VK(b:Bool)(l:List D)(i e a:Int)(s:mP):EQ bC (.call 133 [.p 0 0,vs s] [.cells (pH b l i e a) []]) (.call (.at_ 133 1 (fw 19) (Bi s true []) [(5,11)] [.cells (pH b l i e a) []]) .ret):=bU
theorem Yk(b:Bool)(l:List D)(i e a:Int):EQ bC (.call 81 [.p 0 0] [.cells (pH b l i e a) []]) (.call (.at_ 81 1 (fw 19) (BI true []) [(3,3)] [.cells (pH b l i e a) []]) .ret):=bU
theorem Yn(b:Bool)(l:List D)(i e a:Int):EQ bC (.call 83 [.p 0 0] [.cells (pH b l i e a) []]) (.call (.at_ 83 1 (fw 19) (BJ true []) [(3,5)] [.cells (pH b l i e a) []]) .ret):=bU
theorem Ym(b:Bool)(l:List D)(i e a n:Int):EQ bC (.call 82 [.p 0 0,vi n] [.cells (pH b l i e a) []]) (c1 (.call 78 [.p 0 0] [.cells (pH b l i e a) []]) 4 [] λ c f=>aS c λ h=>c1 (.call 79 [.p 0 0,vs [123]] [.cells f []]) f.length [] λ j k=>cL j λ m=>aH (m.length==0) (c1 (.call 133 [.p 0 0,vs [125]] [.cells k []]) k.length [] λ o q=>aL o λ r t => .ret (.d (.g [.i .i64 n,.s h,.s [],.i .i64 0,.i .i64 0,.i .u64 0,.s [],.l true [],.l r t,.l true [],.s [],.l true []]),[.cells q []]))):=bU
theorem X9(b:Bool)(l:List D)(i e a:Int):EQ bC (.call 41 [.p 0 0] [.cells (pH b l i e a) []]) (c1 (.call 72 [.p 0 0,vs [116,121,112,101,100,101,102]] [.cells (pH b l i e a) []]) 4 [] λ c f=>aB c λ h=>aM h (c1 (.call 77 [.p 0 0,vi 1] [.cells f []]) f.length [] λ j k=>aS j λ m=>c1 (.call 78 [.p 0 0] [.cells k []]) k.length [] λ n o=>aS n λ q => .call (.at_ 41 1 (fw 15) IB [] [.cells (nY 1 q m 0 0 0 [] true [] true [] true [] [] true []) [],.cells (nY 0 [] [] 0 0 0 [] true [] true [] true [] [] true []) [],.cells o []]) .ret) (c1 (.call 72 [.p 0 0,vs [99,111,110,115,116]] [.cells f []]) f.length [] λ r v=>aB r λ w=>aM w (c1 (.call 77 [.p 0 0,vi 1] [.cells v []]) v.length [] λ x y=>aS x λ z=>c1 (.call 78 [.p 0 0] [.cells y []]) y.length [] λ a0 a1=>aS a0 λ a2=>c1 (.call 79 [.p 0 0,vs [61]] [.cells a1 []]) a1.length [] λ a3 a4=>cL a3 λ a5=>aH (a5.length==0) (c1 (.call 80 [.p 0 0,vi 1] [.cells a4 []]) a4.length [] λ a6 a7=>bm a6 λ a8=>jM 5 a8 λ a9=>aH ([.d (pb a9 0),.d (pb a9 1),.d (pb a9 2),.d (pb a9 3),.d (pb a9 4)].all V.one) (.call (.at_ 41 1 (fw 15) IB [] [.cells [vi 3,vs a2,vs z,.d (pb a9 0),.d (pb a9 1),.d (pb a9 2),.d (pb a9 3),.d (pb a9 4),vl true [],vl true [],vs [],vl true []] [],.cells (nY 0 [] [] 0 0 0 [] true [] true [] true [] [] true []) [],.cells a7 []]) .ret))) (c1 (.call 72 [.p 0 0,vs [101,110,117,109]] [.cells v []]) v.length [] λ aa ab=>aB aa λ ac=>aM ac (c1 (.call 78 [.p 0 0] [.cells ab []]) ab.length [] λ ad ae=>aS ad λ af=>c1 (.call 79 [.p 0 0,vs [123]] [.cells ae []]) ae.length [] λ ag ah=>cL ag λ ai=>aH (ai.length==0) (c1 (.call 81 [.p 0 0] [.cells ah []]) ah.length [] λ aj ak=>aL aj λ al am => .call (.at_ 41 1 (fw 15) IB [] [.cells (nY 2 af [] 0 0 0 [] true [] true [] al am [] true []) [],.cells (nY 0 [] [] 0 0 0 [] true [] true [] true [] [] true []) [],.cells ak []]) .ret)) (c1 (.call 72 [.p 0 0,vs [115,116,114,117,99,116]] [.cells ab []]) ab.length [] λ an ao=>aB an λ ap=>aM ap (c1 (.call 82 [.p 0 0,vi 4] [.cells ao []]) ao.length [] λ aq ar=>bm aq λ au=>jM 12 au λ av=>aH ([.d (pb av 0),.d (pb av 1),.d (pb av 2),.d (pb av 3),.d (pb av 4),.d (pb av 5),.d (pb av 6),.d (pb av 7),.d (pb av 8),.d (pb av 9),.d (pb av 10),.d (pb av 11)].all V.one) (.call (.at_ 41 1 (fw 15) IB [] [.cells [.d (pb av 0),.d (pb av 1),.d (pb av 2),.d (pb av 3),.d (pb av 4),.d (pb av 5),.d (pb av 6),.d (pb av 7),.d (pb av 8),.d (pb av 9),.d (pb av 10),.d (pb av 11)] [],.cells (nY 0 [] [] 0 0 0 [] true [] true [] true [] [] true []) [],.cells ar []]) .ret)) (c1 (.call 72 [.p 0 0,vs [117,110,105,111,110]] [.cells ao []]) ao.length [] λ aw ax=>aB aw λ ay=>aM ay (c1 (.call 82 [.p 0 0,vi 5] [.cells ax []]) ax.length [] λ az b0=>bm az λ b1=>jM 12 b1 λ b2=>aH ([.d (pb b2 0),.d (pb b2 1),.d (pb b2 2),.d (pb b2 3),.d (pb b2 4),.d (pb b2 5),.d (pb b2 6),.d (pb b2 7),.d (pb b2 8),.d (pb b2 9),.d (pb b2 10),.d (pb b2 11)].all V.one) (.call (.at_ 41 1 (fw 15) IB [] [.cells [.d (pb b2 0),.d (pb b2 1),.d (pb b2 2),.d (pb b2 3),.d (pb b2 4),.d (pb b2 5),.d (pb b2 6),.d (pb b2 7),.d (pb b2 8),.d (pb b2 9),.d (pb b2 10),.d (pb b2 11)] [],.cells (nY 0 [] [] 0 0 0 [] true [] true [] true [] [] true []) [],.cells b0 []]) .ret)) (c1 (.call 72 [.p 0 0,vs [101,120,99,101,112,116,105,111,110]] [.cells ax []]) ax.length [] λ b3 b4=>aB b3 λ b5=>aM b5 (c1 (.call 82 [.p 0 0,vi 6] [.cells b4 []]) b4.length [] λ b6 b7=>bm b6 λ b8=>jM 12 b8 λ b9=>aH ([.d (pb b9 0),.d (pb b9 1),.d (pb b9 2),.d (pb b9 3),.d (pb b9 4),.d (pb b9 5),.d (pb b9 6),.d (pb b9 7),.d (pb b9 8),.d (pb b9 9),.d (pb b9 10),.d (pb b9 11)].all V.one) (.call (.at_ 41 1 (fw 15) IB [] [.cells [.d (pb b9 0),.d (pb b9 1),.d (pb b9 2),.d (pb b9 3),.d (pb b9 4),.d (pb b9 5),.d (pb b9 6),.d (pb b9 7),.d (pb b9 8),.d (pb b9 9),.d (pb b9 10),.d (pb b9 11)] [],.cells (nY 0 [] [] 0 0 0 [] true [] true [] true [] [] true []) [],.cells b7 []]) .ret)) (c1 (.call 72 [.p 0 0,vs [115,101,114,118,105,99,101]] [.cells b4 []]) b4.length [] λ ba bb=>aB ba λ bc=>aM bc (c1 (.call 78 [.p 0 0] [.cells bb []]) bb.length [] λ bd be=>aS bd λ bf=>c1 (.call 72 [.p 0 0,vs [101,120,116,101,110,100,115]] [.cells be []]) be.length [] λ bg bh=>aB bg λ bi=>aM bi (c1 (.call 76 [.p 0 0] [.cells bh []]) bh.length [] λ bj bk=>aS bj λ bl => .call (.at_ 41 1 (fw 1966067) IB [] [.cells (nY 7 bf [] 0 0 0 [] true [] true [] true [] bl true []) [],.cells (nY 0 [] [] 0 0 0 [] true [] true [] true [] [] true []) [],.cells bk []]) .ret) (.call (.at_ 41 1 (fw 1966067) IB [] [.cells (nY 7 bf [] 0 0 0 [] true [] true [] true [] [] true []) [],.cells (nY 0 [] [] 0 0 0 [] true [] true [] true [] [] true []) [],.cells bh []]) .ret)) (.ret (.t [.d (.g [.i .i64 0,.s [],.s [],.i .i64 0,.i .i64 0,.i .u64 0,.s [],.l true [],.l true [],.l true [],.s [],.l true []]),vb false],[.cells bb []]))))))))):=bU
theorem NN(n0:Int)(l1 l2:mP)(n3 n4 n5:Int)(l6:mP)(b7:Bool)(l8:List D)(b9:Bool)(l10:List D)(b11:Bool)(l12:List D)(l13:mP)(b14:Bool)(l15:List D)(n16:Int)(l17 l18:mP)(n19 n20 n21:Int)(l22:mP)(b23:Bool)(l24:List D)(b25:Bool)(l26:List D)(b27:Bool)(l28:List D)(l29:mP)(b30:Bool)(l31:List D)(l32:List V):EQ bC (.at_ 41 1 (fw 15) IB [] [.cells (nY n0 l1 l2 n3 n4 n5 l6 b7 l8 b9 l10 b11 l12 l13 b14 l15) [],.cells (nY n16 l17 l18 n19 n20 n21 l22 b23 l24 b25 l26 b27 l28 l29 b30 l31) [],.cells l32 []]) (c1 (.call 84 [.p 0 0] [.cells l32 []]) l32.length [] λ a c=>cL a λ e=>aH (e.length==0) (.ret (.t [.d (.g [.i .i64 n0,.s l1,.s l2,.i .i64 n3,.i .i64 n4,.i .u64 n5,.s l6,.l b7 l8,.l b9 l10,.l b11 l12,.s l13,.l b14 l15]),vb true],[.cells c []]))):=bU
theorem zB(n0:Int)(l1 l2:mP)(n3 n4 n5:Int)(l6:mP)(b7:Bool)(l8:List D)(b9:Bool)(l10:List D)(b11:Bool)(l12:List D)(l13:mP)(b14:Bool)(l15:List D)(n16:Int)(l17 l18:mP)(n19 n20 n21:Int)(l22:mP)(b23:Bool)(l24:List D)(b25:Bool)(l26:List D)(b27:Bool)(l28:List D)(l29:mP)(b30:Bool)(l31:List D)(l32:List V):EQ bC (.at_ 41 1 (fw 1966067) IB [] [.cells (nY n0 l1 l2 n3 n4 n5 l6 b7 l8 b9 l10 b11 l12 l13 b14 l15) [],.cells (nY n16 l17 l18 n19 n20 n21 l22 b23 l24 b25 l26 b27 l28 l29 b30 l31) [],.cells l32 []]) (c1 (.call 79 [.p 0 0,vs [123]] [.cells l32 []]) l32.length [] λ a b=>cL a λ c=>aH (c.length==0) (c1 (.call 83 [.p 0 0] [.cells b []]) b.length [] λ e f=>aL e λ g h => .call (.at_ 41 1 (fw 15) IB [] [.cells (nY n0 l1 l2 n3 n4 n5 l6 b7 l8 b9 l10 b11 l12 l13 g h) [],.cells (nY n16 l17 l18 n19 n20 n21 l22 b23 l24 b25 l26 b27 l28 l29 b30 l31) [],.cells f []]) .ret)):=bU
theorem Hf(l0:mP)(b1:Bool)(l2:List D)(b3:Bool)(l4:List V):EQ bC (.at_ 133 1 (fw 195) (sv 83 [(0,.p 0 0),(1,vs l0),(5,vl b1 l2),(17,vb b3)]) [(5,11)] [.cells l4 []]) (aM b3 (aM ((l2.length:Int)==30) (c1 (.call 38 [.p 0 0] [.cells l4 []]) l4.length [] λ a c=>bm a λ e=>jM 5 e λ f=>bR .i64 (pb f 0) λ g=>aM (g==2) (.call (.at_ 133 1 (fw 803) (yP l0 b1 l2 true) [(5,11)] [.cells c []]) .ret) (c1 (.call 71 [.p 0 0,vs [114,101,113,117,105,114,101,100]] [.cells c []]) c.length [] λ h i=>aB h λ j=>aM j (.call (.at_ 133 1 (fw 803) (yP l0 b1 l2 true) [(5,11)] [.cells i []]) .ret) (c1 (.call 71 [.p 0 0,vs [111,112,116,105,111,110,97,108]] [.cells i []]) i.length [] λ k m=>aB k λ n=>aM n (.call (.at_ 133 1 (fw 803) (yP l0 b1 l2 true) [(5,11)] [.cells m []]) .ret) (c1 (.call 134 [.p 0 0] [.cells m []]) m.length [] λ o q=>aB o λ r => .call (.at_ 133 1 (fw 803) (yP l0 b1 l2 r) [(5,11)] [.cells q []]) .ret)))) (.call (.at_ 133 1 (fw 803) (yP l0 b1 l2 false) [(5,11)] [.cells l4 []]) .ret)) (.call (.at_ 133 1 (fw 15) (Bi l0 b1 l2) [(5,11)] [.cells l4 []]) .ret)):=bU
theorem Lj(b0:Bool)(l1:List D)(b2:Bool)(l3:List V):EQ bC (.at_ 81 1 (fw 195) (sv 66 [(0,.p 0 0),(3,vl b0 l1),(14,vb b2)]) [(3,3)] [.cells l3 []]) (aM b2 (aM ((l1.length:Int)==30) (c1 (.call 38 [.p 0 0] [.cells l3 []]) l3.length [] λ a c=>bm a λ e=>jM 5 e λ f=>bR .i64 (pb f 0) λ g=>aM (g==1) (c1 (.call 38 [.p 0 0] [.cells c []]) c.length [] λ h i=>bm h λ j=>jM 5 j λ k=>eF (pb k 1) λ m=>cV (.call 73 [vs m] []) λ n=>aB n λ o => .call (.at_ 81 1 (fw 803) (Jm b0 l1 o) [(3,3)] [.cells i []]) .ret) (.call (.at_ 81 1 (fw 803) (Jm b0 l1 false) [(3,3)] [.cells c []]) .ret)) (.call (.at_ 81 1 (fw 803) (Jm b0 l1 false) [(3,3)] [.cells l3 []]) .ret)) (.call (.at_ 81 1 (fw 15) (BI b0 l1) [(3,3)] [.cells l3 []]) .ret)):=bU
theorem Lk(b0:Bool)(l1:List D)(b2:Bool)(l3:List V):EQ bC (.at_ 83 1 (fw 195) (sv 65 [(0,.p 0 0),(3,vl b0 l1),(14,vb b2)]) [(3,5)] [.cells l3 []]) (aM b2 (aM ((l1.length:Int)==30) (c1 (.call 71 [.p 0 0,vs [111,110,101,119,97,121]] [.cells l3 []]) l3.length [] λ a c=>aB a λ e=>aM e (.call (.at_ 83 1 (fw 803) (Cc b0 l1 true) [(3,5)] [.cells c []]) .ret) (c1 (.call 71 [.p 0 0,vs [118,111,105,100]] [.cells c []]) c.length [] λ f g=>aB f λ h=>aM h (.call (.at_ 83 1 (fw 803) (Cc b0 l1 true) [(3,5)] [.cells g []]) .ret) (c1 (.call 134 [.p 0 0] [.cells g []]) g.length [] λ i j=>aB i λ k => .call (.at_ 83 1 (fw 803) (Cc b0 l1 k) [(3,5)] [.cells j []]) .ret))) (.call (.at_ 83 1 (fw 803) (Cc b0 l1 false) [(3,5)] [.cells l3 []]) .ret)) (.call (.at_ 83 1 (fw 15) (BJ b0 l1) [(3,5)] [.cells l3 []]) .ret)):=bU
theorem xy(l0:mP)(b1:Bool)(l2:List D)(b3:Bool)(l4:List V):EQ bC (.at_ 133 1 (fw 803) (yP l0 b1 l2 b3) [(5,11)] [.cells l4 []]) (aM b3 (c1 (.call 40 [.p 0 0,vi 4] [.cells l4 []]) l4.length [] λ a c=>cL a λ e=>aH (e.length==0) (.call (.at_ 133 1 (fw 15) (Bi l0 b1 l2) [(5,11)] [.cells c []]) .ret)) (c1 (.call 38 [.p 0 0] [.cells l4 []]) l4.length [] λ f g=>bm f λ h=>jM 5 h λ j=>bR .i64 (pb j 0) λ k=>aM (k==2) (c1 (.call 38 [.p 0 0] [.cells g []]) g.length [] λ m n=>bm m λ o=>jM 5 o λ q=>bR .i64 (pb q 2) λ r=>c1 (.call 74 [.p 0 0] [.cells n []]) n.length [] λ t v=>cL t λ w=>aH (w.length==0) (c1 (.call 79 [.p 0 0,vs [58]] [.cells v []]) v.length [] λ x y=>cL x λ z=>aH (z.length==0) (.call (.at_ 133 1 (fw 1955) (BK l0 b1 l2) [(5,11)] [.cells (pT true r 0 [] [] false 0 0 0 [] true []) [],.cells y []]) .ret))) (.call (.at_ 133 1 (fw 1955) (BK l0 b1 l2) [(5,11)] [.cells (pT false 0 0 [] [] false 0 0 0 [] true []) [],.cells g []]) .ret))):=bU
theorem K8(l0:mP)(b1:Bool)(l2:List D)(l3:List V):EQ bC (.at_ 133 1 (fw 15) (Bi l0 b1 l2) [(5,11)] [.cells l3 []]) (c1 (.call 79 [.p 0 0,vs l0] [.cells l3 []]) l3.length [] λ a b=>cL a λ c=>aH (c.length==0) (.ret (vl b1 l2,[.cells b []]))):=bU
theorem AI(b0:Bool)(l1:List D)(b2:Bool)(l3:List V):EQ bC (.at_ 81 1 (fw 803) (Jm b0 l1 b2) [(3,3)] [.cells l3 []]) (aM b2 (c1 (.call 40 [.p 0 0,vi 4] [.cells l3 []]) l3.length [] λ a c=>cL a λ e=>aH (e.length==0) (.call (.at_ 81 1 (fw 15) (BI b0 l1) [(3,3)] [.cells c []]) .ret)) (c1 (.call 78 [.p 0 0] [.cells l3 []]) l3.length [] λ f g=>aS f λ h=>c1 (.call 75 [.p 0 0,vs [61]] [.cells g []]) g.length [] λ j k=>aB j λ m=>aM m (ob k[2]? λ n=>aI n λ o=>aM (o==0) (c1 (.call 38 [.p 0 0] [.cells k []]) k.length [] λ q r=>bm q λ t=>jM 5 t λ v=>bR .i64 (pb v 0) λ w => .call (.at_ 81 1 (fw 13731) (Ky b0 l1 (w != 2)) [(3,3)] [.cells [vs h,vb false,vi 0] [],.cells r []]) .ret) (.call (.at_ 81 1 (fw 13731) (Ky b0 l1 false) [(3,3)] [.cells [vs h,vb false,vi 0] [],.cells k []]) .ret)) (.call (.at_ 81 1 (fw 1955) (vS b0 l1) [(3,3)] [.cells [vs h,vb false,vi 0] [],.cells k []]) .ret))):=bU
theorem NQ(b0:Bool)(l1:List D)(l2:List V):EQ bC (.at_ 81 1 (fw 15) (BI b0 l1) [(3,3)] [.cells l2 []]) (c1 (.call 79 [.p 0 0,vs [125]] [.cells l2 []]) l2.length [] λ a b=>cL a λ c=>aH (c.length==0) (.ret (vl b0 l1,[.cells b []]))):=bU
theorem AJ(b0:Bool)(l1:List D)(b2:Bool)(l3:List V):EQ bC (.at_ 83 1 (fw 803) (Cc b0 l1 b2) [(3,5)] [.cells l3 []]) (aM b2 (c1 (.call 40 [.p 0 0,vi 4] [.cells l3 []]) l3.length [] λ a c=>cL a λ e=>aH (e.length==0) (.call (.at_ 83 1 (fw 15) (BJ b0 l1) [(3,5)] [.cells c []]) .ret)) (c1 (.call 72 [.p 0 0,vs [111,110,101,119,97,121]] [.cells l3 []]) l3.length [] λ f g=>aB f λ h=>c1 (.call 72 [.p 0 0,vs [118,111,105,100]] [.cells g []]) g.length [] λ j k=>aB j λ m=>aM m (.call (.at_ 83 1 (fw 1955) (zW b0 l1) [(3,5)] [.cells (tF [] h [118,111,105,100] true [] true []) [],.cells k []]) .ret) (c1 (.call 77 [.p 0 0,vi 1] [.cells k []]) k.length [] λ n o=>aS n λ q => .call (.at_ 83 1 (fw 1955) (zW b0 l1) [(3,5)] [.cells (tF [] h q true [] true []) [],.cells o []]) .ret))):=bU
theorem NR(b0:Bool)(l1:List D)(l2:List V):EQ bC (.at_ 83 1 (fw 15) (BJ b0 l1) [(3,5)] [.cells l2 []]) (c1 (.call 79 [.p 0 0,vs [125]] [.cells l2 []]) l2.length [] λ a b=>cL a λ c=>aH (c.length==0) (.ret (vl b0 l1,[.cells b []]))):=bU
theorem Eb(l0:mP)(b1:Bool)(l2:List D)(b3:Bool)(n4 n5:Int)(l6 l7:mP)(b8:Bool)(n9 n10 n11:Int)(l12:mP)(b13:Bool)(l14:List D)(l15:List V):EQ bC (.at_ 133 1 (fw 1955) (BK l0 b1 l2) [(5,11)] [.cells (pT b3 n4 n5 l6 l7 b8 n9 n10 n11 l12 b13 l14) [],.cells l15 []]) (c1 (.call 72 [.p 0 0,vs [114,101,113,117,105,114,101,100]] [.cells l15 []]) l15.length [] λ a c=>aB a λ e=>aM e (.call (.at_ 133 1 (fw 4003) (BK l0 b1 l2) [(5,11)] [.cells (pT b3 n4 1 l6 l7 b8 n9 n10 n11 l12 b13 l14) [],.cells c []]) .ret) (c1 (.call 72 [.p 0 0,vs [111,112,116,105,111,110,97,108]] [.cells c []]) c.length [] λ f g=>aB f λ h=>aM h (.call (.at_ 133 1 (fw 4003) (BK l0 b1 l2) [(5,11)] [.cells (pT b3 n4 2 l6 l7 b8 n9 n10 n11 l12 b13 l14) [],.cells g []]) .ret) (.call (.at_ 133 1 (fw 4003) (BK l0 b1 l2) [(5,11)] [.cells (pT b3 n4 n5 l6 l7 b8 n9 n10 n11 l12 b13 l14) [],.cells g []]) .ret))):=bU
theorem EF(b0:Bool)(l1:List D)(b2:Bool)(l3:mP)(b4:Bool)(n5:Int)(l6:List V):EQ bC (.at_ 81 1 (fw 13731) (Ky b0 l1 b2) [(3,3)] [.cells [vs l3,vb b4,vi n5] [],.cells l6 []]) (aM b2 (c1 (.call 40 [.p 0 0,vi 2] [.cells l6 []]) l6.length [] λ a c=>cL a λ e=>aH (e.length==0) (.call (.at_ 81 1 (fw 1955) (vS b0 l1) [(3,3)] [.cells [vs l3,vb b4,vi n5] [],.cells c []]) .ret)) (c1 (.call 38 [.p 0 0] [.cells l6 []]) l6.length [] λ f g=>bm f λ h=>jM 5 h λ j=>bR .i64 (pb j 2) λ k=>c1 (.call 74 [.p 0 0] [.cells g []]) g.length [] λ m n=>cL m λ o=>aH (o.length==0) (.call (.at_ 81 1 (fw 1955) (vS b0 l1) [(3,3)] [.cells [vs l3,vb true,vi k] [],.cells n []]) .ret))):=bU
theorem Hp(b0:Bool)(l1:List D)(l2:mP)(b3:Bool)(n4:Int)(l5:List V):EQ bC (.at_ 81 1 (fw 1955) (vS b0 l1) [(3,3)] [.cells [vs l2,vb b3,vi n4] [],.cells l5 []]) (c1 (.call 84 [.p 0 0] [.cells l5 []]) l5.length [] λ o0 l3=>cL o0 λ l5=>aH (l5.length==0) (aH (bw 3 l1) (aH (b0||true) (aH (decide (l1.length+1<=4294967296)) (.call (.at_ 81 1 (fw 19) (BI (b0&&false) (l1++[D.g [.s l2,.b b3,.i .i64 n4]])) [(3,3)] [.cells l3 []]) .ret))))):=bU
theorem Hr(b0:Bool)(l1:List D)(l2:mP)(b3:Bool)(l4:mP)(b5:Bool)(l6:List D)(b7:Bool)(l8:List D)(l9:List V):EQ bC (.at_ 83 1 (fw 1955) (zW b0 l1) [(3,5)] [.cells (tF l2 b3 l4 b5 l6 b7 l8) [],.cells l9 []]) (c1 (.call 78 [.p 0 0] [.cells l9 []]) l9.length [] λ o0 l3=>aS o0 λ l6=>c1 (.call 79 [.p 0 0,vs [40]] [.cells l3 []]) l3.length [] λ o7 l10=>cL o7 λ l12=>aH (l12.length==0) (c1 (.call 133 [.p 0 0,vs [41]] [.cells l10 []]) l10.length [] λ o13 l16=>aL o13 λ b19 l20=>c1 (.call 72 [.p 0 0,vs [116,104,114,111,119,115]] [.cells l16 []]) l16.length [] λ o21 l24=>aB o21 λ b27=>aM b27 (c1 (.call 79 [.p 0 0,vs [40]] [.cells l24 []]) l24.length [] λ o28 l31=>cL o28 λ l33=>aH (l33.length==0) (c1 (.call 133 [.p 0 0,vs [41]] [.cells l31 []]) l31.length [] λ o34 l37=>aL o34 λ b40 l41 => .call (.at_ 83 1 (fw 32675) (zW b0 l1) [(3,5)] [.cells (tF l6 b3 l4 b19 l20 b40 l41) [],.cells l37 []]) .ret)) (.call (.at_ 83 1 (fw 32675) (zW b0 l1) [(3,5)] [.cells (tF l6 b3 l4 b19 l20 b7 l8) [],.cells l24 []]) .ret))):=bU
theorem Ed(l0:mP)(b1:Bool)(l2:List D)(b3:Bool)(n4 n5:Int)(l6 l7:mP)(b8:Bool)(n9 n10 n11:Int)(l12:mP)(b13:Bool)(l14:List D)(l15:List V):EQ bC (.at_ 133 1 (fw 4003) (BK l0 b1 l2) [(5,11)] [.cells (pT b3 n4 n5 l6 l7 b8 n9 n10 n11 l12 b13 l14) [],.cells l15 []]) (c1 (.call 77 [.p 0 0,vi 1] [.cells l15 []]) l15.length [] λ o0 l3=>aS o0 λ l6=>c1 (.call 78 [.p 0 0] [.cells l3 []]) l3.length [] λ o7 l10=>aS o7 λ l13=>c1 (.call 75 [.p 0 0,vs [61]] [.cells l10 []]) l10.length [] λ o14 l17=>aB o14 λ b20=>aM b20 (c1 (.call 80 [.p 0 0,vi 1] [.cells l17 []]) l17.length [] λ o21 l24=>bm o21 λ d26=>jM 5 d26 λ l27=>aH ([.d (pb l27 0),.d (pb l27 1),.d (pb l27 2),.d (pb l27 3),.d (pb l27 4)].all V.one) (.call (.at_ 133 1 (fw 32675) (BK l0 b1 l2) [(5,11)] [.cells [vb b3,vi n4,vi n5,vs l6,vs l13,vb true,.d (pb l27 0),.d (pb l27 1),.d (pb l27 2),.d (pb l27 3),.d (pb l27 4)] [],.cells l24 []]) .ret)) (.call (.at_ 133 1 (fw 32675) (BK l0 b1 l2) [(5,11)] [.cells (pT b3 n4 n5 l6 l13 b8 n9 n10 n11 l12 b13 l14) [],.cells l17 []]) .ret)):=bU
theorem Hq(b0:Bool)(l1:List D)(l2:List V):EQ bC (.at_ 81 1 (fw 19) (BI b0 l1) [(3,3)] [.cells l2 []]) (ob l2[2]? λ a=>aI a λ c=>aM (c==0) (c1 (.call 128 [.p 0 0,vs [125]] [.cells l2 []]) l2.length [] λ e f=>aB e λ g => .call (.at_ 81 1 (fw 195) (sv 66 [(0,.p 0 0),(3,vl b0 l1),(14,vb !g)]) [(3,3)] [.cells f []]) .ret) (.call (.at_ 81 1 (fw 195) (sv 66 [(0,.p 0 0),(3,vl b0 l1),(14,vb false)]) [(3,3)] [.cells l2 []]) .ret)):=bU
theorem EG(b0:Bool)(l1:List D)(l2:mP)(b3:Bool)(l4:mP)(b5:Bool)(l6:List D)(b7:Bool)(l8:List D)(l9:List V):EQ bC (.at_ 83 1 (fw 32675) (zW b0 l1) [(3,5)] [.cells (tF l2 b3 l4 b5 l6 b7 l8) [],.cells l9 []]) (c1 (.call 84 [.p 0 0] [.cells l9 []]) l9.length [] λ a c=>cL a λ e=>aH (e.length==0) (aH (bw 5 l1) (aH (b0||true) (aH (decide (l1.length+1<=4294967296)) (.call (.at_ 83 1 (fw 19) (BJ (b0&&false) (l1++[D.g [.s l2,.b b3,.s l4,.l b5 l6,.l b7 l8]])) [(3,5)] [.cells c []]) .ret))))):=bU
theorem xx(l0:mP)(b1:Bool)(l2:List D)(b3:Bool)(n4 n5:Int)(l6 l7:mP)(b8:Bool)(n9 n10 n11:Int)(l12:mP)(b13:Bool)(l14:List D)(l15:List V):EQ bC (.at_ 133 1 (fw 32675) (BK l0 b1 l2) [(5,11)] [.cells (pT b3 n4 n5 l6 l7 b8 n9 n10 n11 l12 b13 l14) [],.cells l15 []]) (c1 (.call 84 [.p 0 0] [.cells l15 []]) l15.length [] λ a c=>cL a λ e=>aH (e.length==0) (aH (bw 11 l2) (aH (b1||true) (aH (decide (l2.length+1<=4294967296)) (.call (.at_ 133 1 (fw 19) (Bi l0 (b1&&false) (l2++[D.g [.b b3,.i .i64 n4,.i .i64 n5,.s l6,.s l7,.b b8,.i .i64 n9,.i .i64 n10,.i .u64 n11,.s l12,.l b13 l14]])) [(5,11)] [.cells c []]) .ret))))):=bU
theorem Hs(b0:Bool)(l1:List D)(l2:List V):EQ bC (.at_ 83 1 (fw 19) (BJ b0 l1) [(3,5)] [.cells l2 []]) (ob l2[2]? λ a=>aI a λ c=>aM (c==0) (c1 (.call 128 [.p 0 0,vs [125]] [.cells l2 []]) l2.length [] λ e f=>aB e λ g => .call (.at_ 83 1 (fw 195) (sv 65 [(0,.p 0 0),(3,vl b0 l1),(14,vb !g)]) [(3,5)] [.cells f []]) .ret) (.call (.at_ 83 1 (fw 195) (sv 65 [(0,.p 0 0),(3,vl b0 l1),(14,vb false)]) [(3,5)] [.cells l2 []]) .ret)):=bU
theorem Ec(l0:mP)(b1:Bool)(l2:List D)(l3:List V):EQ bC (.at_ 133 1 (fw 19) (Bi l0 b1 l2) [(5,11)] [.cells l3 []]) (ob l3[2]? λ a=>aI a λ c=>aM (c==0) (c1 (.call 128 [.p 0 0,vs l0] [.cells l3 []]) l3.length [] λ e f=>aB e λ g => .call (.at_ 133 1 (fw 195) (sv 83 [(0,.p 0 0),(1,vs l0),(5,vl b1 l2),(17,vb !g)]) [(5,11)] [.cells f []]) .ret) (.call (.at_ 133 1 (fw 195) (sv 83 [(0,.p 0 0),(1,vs l0),(5,vl b1 l2),(17,vb false)]) [(5,11)] [.cells l3 []]) .ret)):=bU
end Go.Dn.Dec
namespace Go.Dn.Dec.Pa
open Go.IntKind (i64 u64 u8 u16 i32 u32)
open Go.Proofs
open Tryz (prog)
set_option maxRecDepth 100000
abbrev CZ:mP:=[114,101,113,117,105,114,101,100]
abbrev Fm:mP:=[111,112,116,105,111,110,97,108]
section
variable (W : List Tok)
def rK(en:mP)(beg:PS->Bool)(one:PS->D×PS):Nat->List D->PS->List D×PS
 |0,L,s=>(L,s)
 |f+1,L,s=>
  if s.e=0/\¬gK W en s then
   if L.length=30/\beg s=true then(L,dA W 4 s)else rK en beg one f (L++[(one s).1]) (one s).2
  else(L,s)
def zP(en:mP)(beg:PS->Bool)(one:PS->D×PS)(s:PS):List D×PS:=
 ((rK W en beg one (W.length+2) [] s).1,cP W en (rK W en beg one (W.length+2) [] s).2)
def rO(s:PS):Bool:=decide ((bD W s).kind=1/\(gf (bD W s).text≠0\/(bD W s).text=[98,121,116,101]\/gU (bD W s).text=true))
def wY(s:PS):Bool:=decide ((bD W s).kind=2\/cj W CZ s\/cj W Fm s)||rO W s
def qi(s:PS):PS:=if (bD W s).kind=2 then cP W [58] (bp s)else s
def zE(s:PS):PS:=if cj W CZ s then bp s else cS W 1 Fm s
def NV(s:PS):Int:=if cj W CZ s then 1 else if cj W Fm s then 2 else 0
def mE(s:PS):Cs×PS:=if gK W [61] s then jP W 12 (bp s) else(c0,s)
def gi(s:PS):D×PS:=
 let s2:=zE W (qi W s)
 let t:=gC W 12 s2
 let m:=bO W aZ t.2
 let c:=mE W m.2
 (fD (decide ((bD W s).kind=2)) (if (bD W s).kind=2 then(bD W s).n else 0) (NV W (qi W s)) t.1 m.1 (decide (gK W [61] m.2)) c.1.k c.1.n c.1.u c.1.s c.1.l.isEmpty c.1.l,jy W c.2)
def dF(en:mP)(s:PS):List D×PS:=zP W en (wY W) (gi W) s
end
section
variable {b : Bool} {W : List Tok} (hW : Wds W)
theorem wI{en:mP}{beg:PS->Bool}{one:PS->D×PS}(hone:∀s,s.i<W.length->s.e=0->Ad W s (one s).2):∀(f:Nat) (L:List D) {s:PS},s.i<W.length->Mv W s (rK W en beg one f L s).2
 |0,L,s,hs=>Mv.refl hs
 |f+1,L,s,hs=>by
  unfold rK;split
  ·rename_i h;split
   ·exact jq 4 (by decide) hs
   ·have h1:=(hone s hs h.1).toMv;exact h1.trans (wI hone f _ h1.lt)
  ·exact Mv.refl hs
include hW in
theorem C2{en:mP}{beg:PS->Bool}{one:PS->D×PS}(hone:∀s,s.i<W.length->s.e=0->Ad W s (one s).2){s:PS}(hs:s.i<W.length):Ad W s (zP W en beg one s).2:=by have h:=wI (en:=en) (beg:=beg) hone (W.length+2) [] hs;exact h.ad (bY hW en h.lt)
theorem s7{en:mP}{beg:PS->Bool}{one:PS->D×PS}(w:Nat){T Te:List D->PS->Task}(hlen:W.length<=100000)(hone:∀s,s.i<W.length->s.e=0->Ad W s (one s).2)(hw:∀s,s.i<W.length->s.e=0->(one s).1.width=w)
  (hend:∀L s,s.i<W.length->RU (Te L s)=some (vl L.isEmpty L,pO b W (cP W en s)))
  (hstep:∀L s,s.i<W.length->L.length<=100000->bw w L=true->RU (T L s)=if s.e=0/\¬gK W en s then(if L.length=30/\beg s=true then RU (Te L (dA W 4 s))else RU (T (L++[(one s).1]) (one s).2))else RU (Te L s)):
  ∀(f:Nat) (L:List D) {s:PS},s.i<W.length->1<=f->(s.e=0->W.length<s.i+f)->(s.e=0->L.length<=s.i)->L.length<=100000->(∀y∈L,y.width=w)->
   RU (T L s)=some (vl (rK W en beg one f L s).1.isEmpty (rK W en beg one f L s).1,pO b W (cP W en (rK W en beg one f L s).2))
 |0,L,s,hs,hf,_,_,_,_=>by omega
 |f+1,L,s,hs,hf,hm,hl,hl2,hy=>by
  have hh:bw w L=true:=by
   cases L with
   |nil=>rfl
   |cons y L=>exact beq_iff_eq.2 (hy y (by simp))
  rw[hstep L s hs hl2 hh];unfold rK;by_cases h:s.e=0/\¬gK W en s
  ·rw[if_pos h,if_pos h];by_cases h2:L.length=30/\beg s=true
   ·rw[if_pos h2,if_pos h2];exact hend L _ (jq 4 (by decide) hs).lt
   ·rw[if_neg h2,if_neg h2];have a:=hone s hs h.1;have h3:=hm h.1;have h4:=hl h.1;refine s7 w hlen hone hw hend hstep f _ a.lt (by omega) (λ e=>by have:=a.ad e;omega) (λ e=>by have:=a.ad e;simp;omega) (by simp;omega) λ y hy'=>?_;rcases List.mem_append.1 hy' with h5|h5
    ·exact hy y h5
    ·rw[List.mem_singleton.1 h5];exact hw s hs h.1
  ·rw[if_neg h,if_neg h];exact hend L s hs
include hW in
theorem Cr{s:PS}(hs:s.i<W.length):Mv W s (qi W s):=by
 unfold qi;split
 ·rename_i h;have a:=bX hW hs (by rw[h];decide);exact a.toMv.trans (bY hW [58] a.lt).toMv
 ·exact Mv.refl hs
include hW in
theorem Ct{s:PS}(hs:s.i<W.length):Mv W s (zE W s):=by
 unfold zE;split
 ·rename_i h;exact(bX hW hs (cx h (by decide))).toMv
 ·exact te hW 1 Fm (by decide) hs
include hW in
theorem wq{s:PS}(hs:s.i<W.length):Mv W s (mE W s).2:=by
 unfold mE;split
 ·rename_i h;have a:=bX hW hs (cx h (by decide));exact a.toMv.trans (kc hW 12 a.lt).1
 ·exact Mv.refl hs
include hW in
theorem xI{s:PS}(hs:s.i<W.length):Ad W s (gi W s).2:=by have h1:=Cr hW hs;have h2:=h1.trans (Ct hW h1.lt);have h3:=h2.ad (iB hW 12 h2.lt);have h4:=h3.mv (cy hW aZ h3.lt).toMv;have h5:=h4.mv (wq hW h4.lt);exact h5.mv (fA hW h5.lt)
include hW in
theorem iX(en:mP){s:PS}(hs:s.i<W.length):Ad W s (dF W en s).2:=C2 hW (λ s hs _=>xI hW hs) hs
include hW in
theorem Kv{s:PS}(hs:s.i<W.length):RU (.call 134 [.p 0 0] (pO b W s))=some (vb (rO W s),pO b W s):=by
 rw[RU,Xs];refine(jD (jc hs) rfl rfl rfl).trans ?_;refine aN.trans ?_;refine bS.trans ?_;unfold rO;by_cases h1:(bD W s).kind=1
 ·rw[bK];refine(ed (qQ _)).trans ?_;by_cases h2:gf (bD W s).text=0
  ·rw[dN h2];by_cases h3:(bD W s).text=[98,121,116,101]
   ·refine(dz (by rw[h3];rfl)).trans ?_
    rw[decide_eq_true ⟨h1,.inr (.inl h3)⟩];rfl
   ·refine(cF (by rw[ny];exact decide_eq_false h3)).trans ?_
    refine(dH (NS _ (Nat.le_trans (ju hW hs) (by decide)))).trans ?_;have:decide ((bD W s).kind=1/\(gf (bD W s).text≠0\/(bD W s).text=[98,121,116,101]\/gU (bD W s).text=true))=gU (bD W s).text:=by
     cases hf:gU (bD W s).text with
     |true=>exact decide_eq_true ⟨h1,.inr (.inr rfl)⟩
     |false=>exact decide_eq_false (by rintro⟨_,h|h|h⟩;exact h h2;exact h3 h;cases h)
    rw[this];rfl
  ·rw[ep h2,decide_eq_true ⟨h1,.inl h2⟩];rfl
 ·rw[bu,decide_eq_false (λ h=>h1 h.1)];rfl
abbrev QO(en:mP)(L:List D)(s:PS)(b:Bool)(W:List Tok):Task := .at_ 133 1 (fw 19) (Bi en L.isEmpty L) [(5,11)] (pO b W s)
abbrev UA(en:mP)(L:List D)(s:PS)(b:Bool)(W:List Tok):Task := .at_ 133 1 (fw 15) (Bi en L.isEmpty L) [(5,11)] (pO b W s)
theorem dc{f:Task->Option Out}{t:Task}:aC f (.call t .ret)=f t:=aA t
include hW in
theorem Hu(en:mP)(L:List D)(s:PS)(hs:s.i<W.length)(hl:L.length<=100000)(hh:bw 11 L=true):
  RU (QO en L s b W)=if s.e=0/\¬gK W en s then(if L.length=30/\wY W s=true then RU (UA en L (dA W 4 s) b W)else RU (QO en (L++[(gi W s).1]) (gi W s).2 b W))else RU (UA en L s b W):=by
 have at32675:∀(h:Bool) (id r:Int) (t m:mP) (hi:Bool) (c:Cs) (s:PS),s.i<W.length->
   RU (.at_ 133 1 (fw 32675) (BK en L.isEmpty L) [(5,11)] [.cells (pT h id r t m hi c.k c.n c.u c.s c.l.isEmpty c.l) [],.cells (pC b W s) []])=
    RU (QO en (L++[fD h id r t m hi c.k c.n c.u c.s c.l.isEmpty c.l]) (jy W s) b W):=by
  intro h id r t m hi c s hs;rw[RU];refine(xx ..).trans ?_;refine(cr (uA hW hs) rfl rfl).trans ?_;refine(qm hh).trans ?_;refine(qm (show (L.isEmpty||true)=true by simp)).trans ?_;refine(aJ (by omega)).trans ?_;rw[show (L.isEmpty&&false)=(L++[fD h id r t m hi c.k c.n c.u c.s c.l.isEmpty c.l]).isEmpty by rw[Jw,Bool.and_false]];exact dc
 have at4003:∀(h:Bool) (id r:Int) (s:PS),s.i<W.length->
   RU (.at_ 133 1 (fw 4003) (BK en L.isEmpty L) [(5,11)] [.cells (pT h id r [] [] false 0 0 0 [] true []) [],.cells (pC b W s) []])=
    RU (QO en (L++[fD h id r (gC W 12 s).1 (bO W aZ (gC W 12 s).2).1 (decide (gK W [61] (bO W aZ (gC W 12 s).2).2)) (mE W (bO W aZ (gC W 12 s).2).2).1.k (mE W (bO W aZ (gC W 12 s).2).2).1.n (mE W (bO W aZ (gC W 12 s).2).2).1.u (mE W (bO W aZ (gC W 12 s).2).2).1.s (mE W (bO W aZ (gC W 12 s).2).2).1.l.isEmpty (mE W (bO W aZ (gC W 12 s).2).2).1.l]) (jy W (mE W (bO W aZ (gC W 12 s).2).2).2) b W):=by
  intro h id r s hs;have a1:=iB hW 12 hs;have a2:=a1.mv (cy hW aZ a1.lt).toMv;rw[RU];refine(Ed ..).trans ?_;refine(jX (BS hW 12 (by decide) hs) rfl rfl).trans ?_;refine(jX (mi hW a1.lt) rfl rfl).trans ?_;refine(dr (rL hW a2.lt [61]) rfl rfl).trans ?_;unfold cS mE;by_cases he:gK W [61] (bO W aZ (gC W 12 s).2).2
  ·have a3:=a2.mv (bX hW a2.lt (cx he (by decide))).toMv
   rw[bz he,if_pos he,if_pos he,decide_eq_true he];refine(jD (B8 hW 12 (by decide) a3.lt) rfl rfl rfl).trans ?_;refine aN.trans ?_;refine dc.trans ?_;exact at32675 h id r _ _ true _ _ (a3.mv (kc hW 12 a3.lt).1).lt
  ·rw[bn he,if_neg he,if_neg he,decide_eq_false he];refine dc.trans ?_;exact at32675 h id r _ _ false c0 _ a2.lt
 have at1955:∀(h:Bool) (id:Int) (s:PS),s.i<W.length->
   RU (.at_ 133 1 (fw 1955) (BK en L.isEmpty L) [(5,11)] [.cells (pT h id 0 [] [] false 0 0 0 [] true []) [],.cells (pC b W s) []])=
    RU (.at_ 133 1 (fw 4003) (BK en L.isEmpty L) [(5,11)] [.cells (pT h id (NV W s) [] [] false 0 0 0 [] true []) [],.cells (pC b W (zE W s)) []]):=by
  intro h id s hs;rw[RU];refine(Eb ..).trans ?_;refine(dr (rN hW hs CZ) rfl rfl).trans ?_;unfold NV zE;by_cases h1:cj W CZ s
  ·rw[bz h1,if_pos h1,if_pos h1];have:cS W 1 CZ s=bp s:=by unfold cS;rw[if_pos h1]
   rw[this];exact dc
  ·rw[bn h1,if_neg h1,if_neg h1];have:cS W 1 CZ s=s:=by unfold cS;rw[if_neg h1]
   rw[this];refine(dr (rN hW hs Fm) rfl rfl).trans ?_;by_cases h2:cj W Fm s
   ·rw[bz h2,if_pos h2];exact dc
   ·rw[bn h2,if_neg h2];exact dc
 have go:s.e=0->RU (.at_ 133 1 (fw 803) (yP en L.isEmpty L false) [(5,11)] (pO b W s))=RU (QO en (L++[(gi W s).1]) (gi W s).2 b W):=by
  intro he;rw[RU];refine(xy ..).trans ?_;refine bo.trans ?_;refine(jD (jc hs) rfl rfl rfl).trans ?_;refine bS.trans ?_;have h1:=Cr hW hs;have h2:=h1.trans (Ct hW h1.lt);have last:∀(h:Bool) (id:Int),h=decide ((bD W s).kind=2)->id=(if (bD W s).kind=2 then(bD W s).n else 0)->
    RU (.at_ 133 1 (fw 1955) (BK en L.isEmpty L) [(5,11)] [.cells (pT h id 0 [] [] false 0 0 0 [] true []) [],.cells (pC b W (qi W s)) []])=RU (QO en (L++[(gi W s).1]) (gi W s).2 b W):=by
   intro h id e1 e2;rw[at1955 h id _ h1.lt,at4003 h id _ _ h2.lt,e1,e2];rfl
  by_cases hk:(bD W s).kind=2
  ·rw[bK];refine(jD (jc hs) rfl rfl rfl).trans ?_;refine bS.trans ?_;have a:=bX hW hs (by rw[hk];decide);refine(cr (gY hW hs) rfl rfl).trans ?_;refine(cr (iS hW a.lt [58]) rfl rfl).trans ?_;refine dc.trans ?_;have:=last true (bD W s).n (decide_eq_true hk).symm (if_pos hk).symm;rw[show qi W s=cP W [58] (bp s) by unfold qi;rw[if_pos hk]]at this;exact this
  ·rw[bu];refine dc.trans ?_;have:=last false 0 (decide_eq_false hk).symm (if_neg hk).symm;rw[show qi W s=s by unfold qi;rw[if_neg hk]]at this;exact this
 have at803:∀w:Bool,w=wY W s->s.e=0->L.length=30->RU (.at_ 133 1 (fw 803) (yP en L.isEmpty L w) [(5,11)] (pO b W s))=if L.length=30/\wY W s=true then RU (UA en L (dA W 4 s) b W)else RU (QO en (L++[(gi W s).1]) (gi W s).2 b W):=by
  intro w hw he h30
  cases w with
  |true=>
   rw[if_pos ⟨h30,hw.symm⟩,RU];refine(xy ..).trans ?_;refine bF.trans ?_;refine(cr (jr hs 4) rfl rfl).trans ?_;exact dc
  |false=>
   rw[if_neg (λ x=>by rw[<-hw]at x;cases x.2)];exact go he
 have at195:∀w:Bool,w=decide (s.e=0/\¬gK W en s)->RU (.at_ 133 1 (fw 195) (sv 83 [(0,.p 0 0),(1,vs en),(5,vl L.isEmpty L),(17,vb w)]) [(5,11)] (pO b W s))=if s.e=0/\¬gK W en s then(if L.length=30/\wY W s=true then RU (UA en L (dA W 4 s) b W)else RU (QO en (L++[(gi W s).1]) (gi W s).2 b W))else RU (UA en L s b W):=by
  intro w hw;rw[RU];refine(Hf ..).trans ?_;rw[hw];by_cases h:s.e=0/\¬gK W en s
  ·rw[bz h,if_pos h];by_cases h30:L.length=30
   ·rw[bK];refine(jD (jc hs) rfl rfl rfl).trans ?_;refine bS.trans ?_;by_cases hk:(bD W s).kind=2
    ·rw[bK];refine dc.trans ?_;exact at803 true (by unfold wY;rw[decide_eq_true (.inl hk)];rfl) h.1 h30
    ·rw[bu];refine(dr (Dp hs CZ) rfl rfl).trans ?_;by_cases h1:cj W CZ s
     ·rw[bz h1];refine dc.trans ?_;exact at803 true (by unfold wY;rw[decide_eq_true (.inr (.inl h1))];rfl) h.1 h30
     ·rw[bn h1];refine(dr (Dp hs Fm) rfl rfl).trans ?_;by_cases h2:cj W Fm s
      ·rw[bz h2];refine dc.trans ?_;exact at803 true (by unfold wY;rw[decide_eq_true (.inr (.inr h2))];rfl) h.1 h30
      ·rw[bn h2];refine(dr (Kv hW hs) rfl rfl).trans ?_;refine dc.trans ?_;exact at803 _ (by unfold wY;rw[decide_eq_false (λ x=>x.elim hk λ x=>x.elim h1 h2)];rfl) h.1 h30
   ·rw[bu,if_neg (λ x=>h30 x.1)];exact dc.trans (go h.1)
  ·rw[bn h,if_neg h];exact dc
 rw[RU];refine(Ec ..).trans ?_;refine(sR (j:=2) (n:=s.e) rfl).trans ?_;by_cases he:s.e=0
 ·rw[bK he];refine(dr (xY hs en) rfl rfl).trans ?_;refine dc.trans ?_;exact at195 _ (by by_cases h:gK W en s<;>simp[h,he])
 ·rw[bu he];exact dc.trans (at195 false (by simp[he]))
include hW in
theorem kh(en:mP){s:PS}(hs:s.i<W.length):RU (.call 133 [.p 0 0,vs en] (pO b W s))=some (vl (dF W en s).1.isEmpty (dF W en s).1,pO b W (dF W en s).2):=by
 rw[RU,VK];refine dc.trans ?_;exact s7 (T:=λ L s=>QO en L s b W) (Te:=λ L s=>UA en L s b W) 11 hW.len (λ s hs _=>xI hW hs) (λ s hs _=>rfl) (λ L s hs=>by
  rw[RU];refine(K8 ..).trans ?_;refine(cr (iS hW hs en) rfl rfl).trans ?_
  rfl) (λ L s hs hl hh=>Hu hW en L s hs hl hh) (W.length+2) [] hs (by omega) (λ _=>by omega) (λ _=>by simp) (by simp) (λ _ h=>by cases h)
end
abbrev eG:mP:=[111,110,101,119,97,121]
abbrev qK:mP:=[118,111,105,100]
abbrev PF:mP:=[116,104,114,111,119,115]
abbrev R3:mP:=[116,121,112,101,100,101,102]
abbrev Qy:mP:=[99,111,110,115,116]
abbrev Jp:mP:=[101,110,117,109]
abbrev RO:mP:=[115,116,114,117,99,116]
abbrev R6:mP:=[117,110,105,111,110]
abbrev QH:mP:=[101,120,99,101,112,116,105,111,110]
abbrev RF:mP:=[115,101,114,118,105,99,101]
abbrev U9:mP:=[101,120,116,101,110,100,115]
def oP:List mP:=[R3,Qy,Jp,RO,R6,QH,RF]
section
variable (W : List Tok)
def DF(s:PS):Bool:=decide ((bD W s).kind=1/\aZ (bD W s).text=true)
def E2(s:PS):Bool×Int×PS:=
 if gK W [61] s then(if (bD W (bp s)).kind=2 then(true,(bD W (bp s)).n,bp (bp s)) else(false,0,dA W 2 (bp s))) else(false,0,s)
def eX(s:PS):D×PS:=
 let m:=bO W aZ s
 let c:=E2 W m.2
 (mD m.1 c.1 c.2.1,jy W c.2.2)
def gF(s:PS):List D×PS:=zP W [125] (DF W) (eX W) s
def qp(s:PS):Bool:=decide (cj W eG s\/cj W qK s)||rO W s
def lH(s:PS):mP×PS:=if cj W qK s then(qK,bp s)else gC W 12 s
def lu(s:PS):List D×PS:=if cj W PF s then dF W [41] (cP W [40] (bp s)) else([],s)
def eY(s:PS):D×PS:=
 let r:=lH W (cS W 1 eG s)
 let m:=bO W aZ r.2
 let a:=dF W [41] (cP W [40] m.2)
 let t:=lu W a.2
 (TN m.1 (decide (cj W eG s)) r.1 a.1.isEmpty a.1 t.1.isEmpty t.1,jy W t.2)
def eU(s:PS):List D×PS:=zP W [125] (qp W) (eY W) s
def jG(kd:Int)(s:PS):D×PS:=
 let m:=bO W aZ s
 let r:=dF W [125] (cP W [123] m.2)
 (dD kd m.1 [] 0 0 0 [] true [] r.1.isEmpty r.1 true [] [] true [],r.2)
def tV(s:PS):mP×PS:=if cj W U9 s then bO W gU (bp s) else([],s)
def mB(s:PS):Option (D×PS):=
 if cj W R3 s then
  let t:=gC W 12 (bp s)
  let m:=bO W aZ t.2
  some (dD 1 m.1 t.1 0 0 0 [] true [] true [] true [] [] true [],m.2)
 else if cj W Qy s then
  let t:=gC W 12 (bp s)
  let m:=bO W aZ t.2
  let c:=jP W 12 (cP W [61] m.2)
  some (dD 3 m.1 t.1 c.1.k c.1.n c.1.u c.1.s c.1.l.isEmpty c.1.l true [] true [] [] true [],c.2)
 else if cj W Jp s then
  let m:=bO W aZ (bp s)
  let r:=gF W (cP W [123] m.2)
  some (dD 2 m.1 [] 0 0 0 [] true [] true [] r.1.isEmpty r.1 [] true [],r.2)
 else if cj W RO s then some (jG W 4 (bp s))
 else if cj W R6 s then some (jG W 5 (bp s))
 else if cj W QH s then some (jG W 6 (bp s))
 else if cj W RF s then
  let m:=bO W aZ (bp s)
  let x:=tV W m.2
  let r:=eU W (cP W [123] x.2)
  some (dD 7 m.1 [] 0 0 0 [] true [] true [] true [] x.1 r.1.isEmpty r.1,r.2)
 else none
def d0:D:=dD 0 [] [] 0 0 0 [] true [] true [] true [] [] true []
def iO(s:PS):D×Bool×PS:=match mB W s with
 |some x=>(x.1,true,jy W x.2)
 |none=>(d0,false,s)
def sn(s:PS):Bool:=oP.any λ w=>decide (cj W w s)
end
section
variable {b : Bool} {W : List Tok} (hW : Wds W)
include hW in
theorem CG{s:PS}(hs:s.i<W.length):Mv W s (E2 W s).2.2:=by
 unfold E2;split
 ·rename_i h;have a:=bX hW hs (cx h (by decide));split
  ·rename_i h2;exact(a.mv (bX hW a.lt (by rw[h2];decide)).toMv).toMv
  ·exact a.toMv.trans (jq 2 (by decide) a.lt)
 ·exact Mv.refl hs
include hW in
theorem um{s:PS}(hs:s.i<W.length):Ad W s (eX W s).2:=by have h1:=cy hW aZ hs;have h2:=h1.mv (CG hW h1.lt);exact h2.mv (fA hW h2.lt)
include hW in
theorem rC{s:PS}(hs:s.i<W.length):Ad W s (gF W s).2:=C2 hW (λ s hs _=>um hW hs) hs
include hW in
theorem Ig{s:PS}(hs:s.i<W.length):Ad W s (lH W s).2:=by
 unfold lH;split
 ·rename_i h;exact bX hW hs (cx h (by decide))
 ·exact iB hW 12 hs
include hW in
theorem Dc{s:PS}(hs:s.i<W.length):Mv W s (lu W s).2:=by
 unfold lu;split
 ·rename_i h;have a:=bX hW hs (cx h (by decide));have a2:=a.mv (bY hW [40] a.lt).toMv;exact(a2.mv (iX hW [41] a2.lt).toMv).toMv
 ·exact Mv.refl hs
include hW in
theorem uo{s:PS}(hs:s.i<W.length):Ad W s (eY W s).2:=by have h1:=te hW 1 eG (by decide) hs;have h2:=h1.ad (Ig hW h1.lt);have h3:=h2.mv (cy hW aZ h2.lt).toMv;have h4:=h3.mv (bY hW [40] h3.lt).toMv;have h5:=h4.mv (iX hW [41] h4.lt).toMv;have h6:=h5.mv (Dc hW h5.lt);exact h6.mv (fA hW h6.lt)
include hW in
theorem rD{s:PS}(hs:s.i<W.length):Ad W s (eU W s).2:=C2 hW (λ s hs _=>uo hW hs) hs
include hW in
theorem kO(kd:Int){s:PS}(hs:s.i<W.length):Ad W s (jG W kd s).2:=by have h1:=cy hW aZ hs;have h2:=h1.mv (bY hW [123] h1.lt).toMv;exact h2.mv (iX hW [125] h2.lt).toMv
include hW in
theorem NG{s:PS}(hs:s.i<W.length):Mv W s (tV W s).2:=by
 unfold tV;split
 ·rename_i h;have a:=bX hW hs (cx h (by decide));exact(a.mv (cy hW gU a.lt).toMv).toMv
 ·exact Mv.refl hs
include hW in
theorem Jk{s:PS}(hs:s.i<W.length){x:D×PS}(h:mB W s=some x):Ad W s x.2:=by
 have nx:∀{g:mP},cj W g s->Ad W s (bp s):=λ h=>bX hW hs (cx h (by decide));unfold mB at h;split at h
 ·rename_i h0;injection h with h;subst h
  have a:=(nx h0).mv (iB hW 12 (nx h0).lt).toMv;exact a.mv (cy hW aZ a.lt).toMv
 split at h
 ·rename_i h0;injection h with h;subst h
  have a:=(nx h0).mv (iB hW 12 (nx h0).lt).toMv;have a2:=a.mv (cy hW aZ a.lt).toMv;have a3:=a2.mv (bY hW [61] a2.lt).toMv;exact a3.mv (kc hW 12 a3.lt).1
 split at h
 ·rename_i h0;injection h with h;subst h
  have a:=(nx h0).mv (cy hW aZ (nx h0).lt).toMv;have a2:=a.mv (bY hW [123] a.lt).toMv;exact a2.mv (rC hW a2.lt).toMv
 split at h
 ·rename_i h0;injection h with h;subst h;exact(nx h0).mv (kO hW 4 (nx h0).lt).toMv
 split at h
 ·rename_i h0;injection h with h;subst h;exact(nx h0).mv (kO hW 5 (nx h0).lt).toMv
 split at h
 ·rename_i h0;injection h with h;subst h;exact(nx h0).mv (kO hW 6 (nx h0).lt).toMv
 split at h
 ·rename_i h0;injection h with h;subst h
  have a:=(nx h0).mv (cy hW aZ (nx h0).lt).toMv;have a2:=a.mv (NG hW a.lt);have a3:=a2.mv (bY hW [123] a2.lt).toMv;exact a3.mv (rD hW a3.lt).toMv
 ·cases h
include hW in
theorem Nt{s:PS}(hs:s.i<W.length):Mv W s (iO W s).2.2/\((iO W s).2.1=true->Ad W s (iO W s).2.2):=by
 unfold iO
 cases h:mB W s with
 |none=>exact⟨Mv.refl hs,λ e=>by cases e⟩
 |some x=>
  have a:=Jk hW hs h;have a2:=a.mv (fA hW a.lt);exact⟨a2.toMv,λ _=>a2⟩
abbrev TL(L:List D)(s:PS)(b:Bool)(W:List Tok):Task := .at_ 81 1 (fw 19) (BI L.isEmpty L) [(3,3)] (pO b W s)
abbrev UH(L:List D)(s:PS)(b:Bool)(W:List Tok):Task := .at_ 81 1 (fw 15) (BI L.isEmpty L) [(3,3)] (pO b W s)
include hW in
theorem E4(L:List D)(s:PS)(hs:s.i<W.length)(hl:L.length<=100000)(hh:bw 3 L=true):
  RU (TL L s b W)=if s.e=0/\¬gK W [125] s then(if L.length=30/\DF W s=true then RU (UH L (dA W 4 s) b W)else RU (TL (L++[(eX W s).1]) (eX W s).2 b W))else RU (UH L s b W):=by
 have at1955:∀(m:mP) (h:Bool) (n:Int) (s:PS),s.i<W.length->
   RU (.at_ 81 1 (fw 1955) (vS L.isEmpty L) [(3,3)] [.cells [vs m,vb h,vi n] [],.cells (pC b W s) []])=RU (TL (L++[mD m h n]) (jy W s) b W):=by
  intro m h n s hs;rw[RU];refine(Hp ..).trans ?_;refine(cr (uA hW hs) rfl rfl).trans ?_;refine(qm hh).trans ?_;refine(qm (show (L.isEmpty||true)=true by simp)).trans ?_;refine(aJ (by omega)).trans ?_;rw[show (L.isEmpty&&false)=(L++[mD m h n]).isEmpty by rw[Jw,Bool.and_false]];exact dc
 have go:RU (.at_ 81 1 (fw 803) (Jm L.isEmpty L false) [(3,3)] (pO b W s))=RU (TL (L++[(eX W s).1]) (eX W s).2 b W):=by
  have a1:=cy hW aZ hs;rw[RU];refine(AI ..).trans ?_;refine bo.trans ?_;refine(jX (mi hW hs) rfl rfl).trans ?_;refine(dr (rL hW a1.lt [61]) rfl rfl).trans ?_;unfold eX E2 cS;by_cases h:gK W [61] (bO W aZ s).2
  ·have a2:=a1.mv (bX hW a1.lt (cx h (by decide))).toMv
   rw[bz h,if_pos h];dsimp only;rw[if_pos h];refine(sR (j:=2) (n:=(bO W aZ s).2.e) rfl).trans ?_;rw[bK h.1];refine(jD (jc a2.lt) rfl rfl rfl).trans ?_;refine bS.trans ?_;refine dc.trans ?_;rw[RU];refine(EF ..).trans ?_;by_cases hk:(bD W (bp (bO W aZ s).2)).kind=2
   ·rw[if_pos hk];refine(cF (show (((bD W (bp (bO W aZ s).2)).kind:Int) != 2)=false by rw[hk];rfl)).trans ?_;refine(jD (jc a2.lt) rfl rfl rfl).trans ?_;refine bS.trans ?_;refine(cr (gY hW a2.lt) rfl rfl).trans ?_;refine dc.trans ?_;exact at1955 _ true _ _ (bX hW a2.lt (by rw[hk];decide)).lt
   ·rw[if_neg hk];refine(dz (show (((bD W (bp (bO W aZ s).2)).kind:Int) != 2)=true from bne_iff_ne.2 (by omega))).trans ?_;refine(cr (jr a2.lt 2) rfl rfl).trans ?_;refine dc.trans ?_;exact at1955 _ false 0 _ (jq 2 (by decide) a2.lt).lt
  ·rw[bn h,if_neg h];dsimp only;rw[if_neg h];refine dc.trans ?_;exact at1955 _ false 0 _ a1.lt
 have at803:∀w:Bool,w=DF W s->L.length=30->RU (.at_ 81 1 (fw 803) (Jm L.isEmpty L w) [(3,3)] (pO b W s))=if L.length=30/\DF W s=true then RU (UH L (dA W 4 s) b W)else RU (TL (L++[(eX W s).1]) (eX W s).2 b W):=by
  intro w hw h30
  cases w with
  |true=>
   rw[if_pos ⟨h30,hw.symm⟩,RU];refine(AI ..).trans ?_;refine bF.trans ?_;refine(cr (jr hs 4) rfl rfl).trans ?_;exact dc
  |false=>
   rw[if_neg (λ x=>by rw[<-hw]at x;cases x.2)];exact go
 have at195:∀w:Bool,w=decide (s.e=0/\¬gK W [125] s)->RU (.at_ 81 1 (fw 195) (sv 66 [(0,.p 0 0),(3,vl L.isEmpty L),(14,vb w)]) [(3,3)] (pO b W s))=if s.e=0/\¬gK W [125] s then(if L.length=30/\DF W s=true then RU (UH L (dA W 4 s) b W)else RU (TL (L++[(eX W s).1]) (eX W s).2 b W))else RU (UH L s b W):=by
  intro w hw;rw[RU];refine(Lj ..).trans ?_;rw[hw];by_cases h:s.e=0/\¬gK W [125] s
  ·rw[bz h,if_pos h];by_cases h30:L.length=30
   ·rw[bK];refine(jD (jc hs) rfl rfl rfl).trans ?_;refine bS.trans ?_;by_cases hk:(bD W s).kind=1
    ·rw[bK];refine(jD (jc hs) rfl rfl rfl).trans ?_;refine(dH (sT _ (Nat.le_trans (ju hW hs) (by decide)))).trans ?_;refine dc.trans ?_;exact at803 _ (by unfold DF;cases hp:aZ (bD W s).text<;>simp[hk]) h30
    ·rw[bu];refine dc.trans ?_;exact at803 false (by unfold DF;rw[decide_eq_false (λ x=>hk x.1)]) h30
   ·rw[bu,if_neg (λ x=>h30 x.1)];exact dc.trans go
  ·rw[bn h,if_neg h];exact dc
 rw[RU];refine(Hq ..).trans ?_;refine(sR (j:=2) (n:=s.e) rfl).trans ?_;by_cases he:s.e=0
 ·rw[bK he];refine(dr (xY hs [125]) rfl rfl).trans ?_;refine dc.trans ?_;exact at195 _ (by by_cases h:gK W [125] s<;>simp[h,he])
 ·rw[bu he];exact dc.trans (at195 false (by simp[he]))
include hW in
theorem LK{s:PS}(hs:s.i<W.length):RU (.call 81 [.p 0 0] (pO b W s))=some (vl (gF W s).1.isEmpty (gF W s).1,pO b W (gF W s).2):=by
 rw[RU,Yk];refine dc.trans ?_;exact s7 (T:=λ L s=>TL L s b W) (Te:=λ L s=>UH L s b W) 3 hW.len (λ s hs _=>um hW hs) (λ s hs _=>rfl) (λ L s hs=>by
  rw[RU];refine(NQ ..).trans ?_;refine(cr (iS hW hs [125]) rfl rfl).trans ?_
  rfl) (λ L s hs hl hh=>E4 hW L s hs hl hh) (W.length+2) [] hs (by omega) (λ _=>by omega) (λ _=>by simp) (by simp) (λ _ h=>by cases h)
abbrev Sq(L:List D)(s:PS)(b:Bool)(W:List Tok):Task := .at_ 83 1 (fw 19) (BJ L.isEmpty L) [(3,5)] (pO b W s)
abbrev UI(L:List D)(s:PS)(b:Bool)(W:List Tok):Task := .at_ 83 1 (fw 15) (BJ L.isEmpty L) [(3,5)] (pO b W s)
include hW in
theorem E5(L:List D)(s:PS)(hs:s.i<W.length)(hl:L.length<=100000)(hh:bw 5 L=true):
  RU (Sq L s b W)=if s.e=0/\¬gK W [125] s then(if L.length=30/\qp W s=true then RU (UI L (dA W 4 s) b W)else RU (Sq (L++[(eY W s).1]) (eY W s).2 b W))else RU (UI L s b W):=by
 have at32675:∀(m:mP) (h:Bool) (r:mP) (a t:List D) (s:PS),s.i<W.length->
   RU (.at_ 83 1 (fw 32675) (zW L.isEmpty L) [(3,5)] [.cells (tF m h r a.isEmpty a t.isEmpty t) [],.cells (pC b W s) []])=RU (Sq (L++[TN m h r a.isEmpty a t.isEmpty t]) (jy W s) b W):=by
  intro m h r a t s hs;rw[RU];refine(EG ..).trans ?_;refine(cr (uA hW hs) rfl rfl).trans ?_;refine(qm hh).trans ?_;refine(qm (show (L.isEmpty||true)=true by simp)).trans ?_;refine(aJ (by omega)).trans ?_;rw[show (L.isEmpty&&false)=(L++[TN m h r a.isEmpty a t.isEmpty t]).isEmpty by rw[Jw,Bool.and_false]];exact dc
 have at1955:∀(h:Bool) (r:mP) (s:PS),s.i<W.length->
   RU (.at_ 83 1 (fw 1955) (zW L.isEmpty L) [(3,5)] [.cells (tF [] h r true [] true []) [],.cells (pC b W s) []])=
    RU (Sq (L++[TN (bO W aZ s).1 h r (dF W [41] (cP W [40] (bO W aZ s).2)).1.isEmpty (dF W [41] (cP W [40] (bO W aZ s).2)).1 (lu W (dF W [41] (cP W [40] (bO W aZ s).2)).2).1.isEmpty (lu W (dF W [41] (cP W [40] (bO W aZ s).2)).2).1]) (jy W (lu W (dF W [41] (cP W [40] (bO W aZ s).2)).2).2) b W):=by
  intro h r s hs;have a1:=cy hW aZ hs;have a2:=a1.mv (bY hW [40] a1.lt).toMv;have a3:=a2.mv (iX hW [41] a2.lt).toMv;rw[RU];refine(Hr ..).trans ?_;refine(jX (mi hW hs) rfl rfl).trans ?_;refine(cr (iS hW a1.lt [40]) rfl rfl).trans ?_;refine(Pn (kh hW [41] a2.lt) rfl rfl).trans ?_;refine(dr (rN hW a3.lt PF) rfl rfl).trans ?_;unfold lu cS;by_cases ht:cj W PF (dF W [41] (cP W [40] (bO W aZ s).2)).2
  ·have a4:=a3.mv (bX hW a3.lt (cx ht (by decide))).toMv
   have a5:=a4.mv (bY hW [40] a4.lt).toMv;rw[bz ht,if_pos ht,if_pos ht];refine(cr (iS hW a4.lt [40]) rfl rfl).trans ?_;refine(Pn (kh hW [41] a5.lt) rfl rfl).trans ?_;refine dc.trans ?_;exact at32675 _ h r _ _ _ (iX hW [41] a5.lt).lt
  ·rw[bn ht,if_neg ht,if_neg ht];refine dc.trans ?_;exact at32675 _ h r _ [] _ a3.lt
 have go:RU (.at_ 83 1 (fw 803) (Cc L.isEmpty L false) [(3,5)] (pO b W s))=RU (Sq (L++[(eY W s).1]) (eY W s).2 b W):=by
  have h1:=te hW 1 eG (by decide) hs;rw[RU];refine(AJ ..).trans ?_;refine bo.trans ?_;refine(dr (rN hW hs eG) rfl rfl).trans ?_;refine(dr (rN hW h1.lt qK) rfl rfl).trans ?_;have last:=λ (r:mP) (t:PS) (e:lH W (cS W 1 eG s)=(r,t))=>at1955 (decide (cj W eG s)) r t (by have:=(Ig hW h1.lt).lt;rw[e]at this;exact this);unfold eY;by_cases hv:cj W qK (cS W 1 eG s)
  ·have er:lH W (cS W 1 eG s)=(qK,bp (cS W 1 eG s)):=by unfold lH;rw[if_pos hv]
   have es:cS W 1 qK (cS W 1 eG s)=bp (cS W 1 eG s):=by rw[cS,if_pos hv]
   rw[bz hv,er,es];refine dc.trans ?_;exact last _ _ er
  ·have er:lH W (cS W 1 eG s)=gC W 12 (cS W 1 eG s):=by unfold lH;rw[if_neg hv]
   have es:cS W 1 qK (cS W 1 eG s)=cS W 1 eG s:=by rw[cS,if_neg hv]
   rw[bn hv,er,es];refine(jX (BS hW 12 (by decide) h1.lt) rfl rfl).trans ?_;refine dc.trans ?_;exact last _ _ er
 have at803:∀w:Bool,w=qp W s->L.length=30->RU (.at_ 83 1 (fw 803) (Cc L.isEmpty L w) [(3,5)] (pO b W s))=if L.length=30/\qp W s=true then RU (UI L (dA W 4 s) b W)else RU (Sq (L++[(eY W s).1]) (eY W s).2 b W):=by
  intro w hw h30
  cases w with
  |true=>
   rw[if_pos ⟨h30,hw.symm⟩,RU];refine(AJ ..).trans ?_;refine bF.trans ?_;refine(cr (jr hs 4) rfl rfl).trans ?_;exact dc
  |false=>
   rw[if_neg (λ x=>by rw[<-hw]at x;cases x.2)];exact go
 have at195:∀w:Bool,w=decide (s.e=0/\¬gK W [125] s)->RU (.at_ 83 1 (fw 195) (sv 65 [(0,.p 0 0),(3,vl L.isEmpty L),(14,vb w)]) [(3,5)] (pO b W s))=if s.e=0/\¬gK W [125] s then(if L.length=30/\qp W s=true then RU (UI L (dA W 4 s) b W)else RU (Sq (L++[(eY W s).1]) (eY W s).2 b W))else RU (UI L s b W):=by
  intro w hw;rw[RU];refine(Lk ..).trans ?_;rw[hw];by_cases h:s.e=0/\¬gK W [125] s
  ·rw[bz h,if_pos h];by_cases h30:L.length=30
   ·rw[bK];refine(dr (Dp hs eG) rfl rfl).trans ?_;by_cases h1:cj W eG s
    ·rw[bz h1];refine dc.trans ?_;exact at803 true (by unfold qp;rw[decide_eq_true (.inl h1)];rfl) h30
    ·rw[bn h1];refine(dr (Dp hs qK) rfl rfl).trans ?_;by_cases h2:cj W qK s
     ·rw[bz h2];refine dc.trans ?_;exact at803 true (by unfold qp;rw[decide_eq_true (.inr h2)];rfl) h30
     ·rw[bn h2];refine(dr (Kv hW hs) rfl rfl).trans ?_;refine dc.trans ?_;exact at803 _ (by unfold qp;rw[decide_eq_false (λ x=>x.elim h1 h2)];rfl) h30
   ·rw[bu,if_neg (λ x=>h30 x.1)];exact dc.trans go
  ·rw[bn h,if_neg h];exact dc
 rw[RU];refine(Hs ..).trans ?_;refine(sR (j:=2) (n:=s.e) rfl).trans ?_;by_cases he:s.e=0
 ·rw[bK he];refine(dr (xY hs [125]) rfl rfl).trans ?_;refine dc.trans ?_;exact at195 _ (by by_cases h:gK W [125] s<;>simp[h,he])
 ·rw[bu he];exact dc.trans (at195 false (by simp[he]))
include hW in
theorem LM{s:PS}(hs:s.i<W.length):RU (.call 83 [.p 0 0] (pO b W s))=some (vl (eU W s).1.isEmpty (eU W s).1,pO b W (eU W s).2):=by
 rw[RU,Yn];refine dc.trans ?_;exact s7 (T:=λ L s=>Sq L s b W) (Te:=λ L s=>UI L s b W) 5 hW.len (λ s hs _=>uo hW hs) (λ s hs _=>rfl) (λ L s hs=>by
  rw[RU];refine(NR ..).trans ?_;refine(cr (iS hW hs [125]) rfl rfl).trans ?_
  rfl) (λ L s hs hl hh=>E5 hW L s hs hl hh) (W.length+2) [] hs (by omega) (λ _=>by omega) (λ _=>by simp) (by simp) (λ _ h=>by cases h)
end
section
variable {b : Bool} {W : List Tok} (hW : Wds W)
theorem Kg{k:Nat}{g:mP}{s:PS}(h:Sn W k g s):cS W k g s=bp s:=by rw[cS,if_pos h]
theorem Kf{k:Nat}{g:mP}{s:PS}(h:¬Sn W k g s):cS W k g s=s:=by rw[cS,if_neg h]
include hW in
theorem De{g:mP}{s:PS}(hs:s.i<W.length)(h:cj W g s):RU (.call 72 [.p 0 0,vs g] (pO b W s))=some (vb true,pO b W (bp s)):=by rw[rN hW hs,decide_eq_true h,Kg h]
include hW in
theorem Dd{g:mP}{s:PS}(hs:s.i<W.length)(h:¬cj W g s):RU (.call 72 [.p 0 0,vs g] (pO b W s))=some (vb false,pO b W s):=by rw[rN hW hs,decide_eq_false h,Kf h]
include hW in
theorem yN(kd:Int){s:PS}(hs:s.i<W.length):RU (.call 82 [.p 0 0,vi kd] (pO b W s))=some (.d (jG W kd s).1,pO b W (jG W kd s).2):=by have a1:=cy hW aZ hs;have a2:=a1.mv (bY hW [123] a1.lt).toMv;rw[RU,Ym];refine(jX (mi hW hs) rfl rfl).trans ?_;refine(cr (iS hW a1.lt [123]) rfl rfl).trans ?_;refine(Pn (kh hW [125] a2.lt) rfl rfl).trans ?_;rfl
abbrev z12:Ob := .cells (nY 0 [] [] 0 0 0 [] true [] true [] true [] [] true []) []
include hW in
theorem xf(kd:Int)(nm ty:mP)(ck cn cu:Int)(cs:mP)(cb:Bool)(cl:List D)(fb:Bool)(fl:List D)(mb:Bool)(ml:List D)(ex:mP)(tb:Bool)(tl:List D){s:PS}(hs:s.i<W.length):
  RU (.at_ 41 1 (fw 15) IB [] [.cells (nY kd nm ty ck cn cu cs cb cl fb fl mb ml ex tb tl) [],z12,.cells (pC b W s) []])=some (.t [.d (dD kd nm ty ck cn cu cs cb cl fb fl mb ml ex tb tl),vb true],pO b W (jy W s)):=by
 rw[RU];refine(NN ..).trans ?_;refine(cr (uA hW hs) rfl rfl).trans ?_;rfl
include hW in
theorem U3{s:PS}(hs:s.i<W.length):RU (.call 41 [.p 0 0] (pO b W s))=some (.t [.d (iO W s).1,vb (iO W s).2.1],pO b W (iO W s).2.2):=by
 have nx:∀{g:mP},cj W g s->(bp s).i<W.length:=λ h=>(bX hW hs (cx h (by decide))).lt;have sub:∀{x:D×PS},mB W s=some x->iO W s=(x.1,true,jy W x.2):=λ h=>by rw[iO,h]
 rw[RU,X9];by_cases h1:cj W R3 s
 ·refine(dr (De hW hs h1) rfl rfl).trans ?_;refine bF.trans ?_;have a1:=iB hW 12 (nx h1);have a2:=a1.mv (cy hW aZ a1.lt).toMv;refine(jX (BS hW 12 (by decide) (nx h1)) rfl rfl).trans ?_;refine(jX (mi hW a1.lt) rfl rfl).trans ?_;refine(aK (xf hW _ _ _ _ _ _ _ _ _ _ _ _ _ _ _ _ a2.lt)).trans ?_;rw[iO,mB,if_pos h1]
 refine(dr (Dd hW hs h1) rfl rfl).trans ?_;refine bo.trans ?_;by_cases h2:cj W Qy s
 ·refine(dr (De hW hs h2) rfl rfl).trans ?_;refine bF.trans ?_;have a1:=iB hW 12 (nx h2);have a2:=a1.mv (cy hW aZ a1.lt).toMv;have a3:=a2.mv (bY hW [61] a2.lt).toMv;have a4:=a3.mv (kc hW 12 a3.lt).1;refine(jX (BS hW 12 (by decide) (nx h2)) rfl rfl).trans ?_;refine(jX (mi hW a1.lt) rfl rfl).trans ?_;refine(cr (iS hW a2.lt [61]) rfl rfl).trans ?_;refine(jD (B8 hW 12 (by decide) a3.lt) rfl rfl rfl).trans ?_;refine aN.trans ?_;refine(aK (xf hW _ _ _ _ _ _ _ _ _ _ _ _ _ _ _ _ a4.lt)).trans ?_;rw[iO,mB,if_neg h1,if_pos h2]
 refine(dr (Dd hW hs h2) rfl rfl).trans ?_;refine bo.trans ?_;by_cases h3:cj W Jp s
 ·refine(dr (De hW hs h3) rfl rfl).trans ?_;refine bF.trans ?_;have a1:=cy hW aZ (nx h3);have a2:=a1.mv (bY hW [123] a1.lt).toMv;have a3:=a2.mv (rC hW a2.lt).toMv;refine(jX (mi hW (nx h3)) rfl rfl).trans ?_;refine(cr (iS hW a1.lt [123]) rfl rfl).trans ?_;refine(Pn (LK hW a2.lt) rfl rfl).trans ?_;refine(aK (xf hW _ _ _ _ _ _ _ _ _ _ _ _ _ _ _ _ a3.lt)).trans ?_;rw[iO,mB,if_neg h1,if_neg h2,if_pos h3]
 refine(dr (Dd hW hs h3) rfl rfl).trans ?_;refine bo.trans ?_;by_cases h4:cj W RO s
 ·refine(dr (De hW hs h4) rfl rfl).trans ?_;refine bF.trans ?_;refine(jD (yN hW 4 (nx h4)) rfl rfl rfl).trans ?_;refine aN.trans ?_;refine(aK (xf hW _ _ _ _ _ _ _ _ _ _ _ _ _ _ _ _ (kO hW 4 (nx h4)).lt)).trans ?_;rw[iO,mB,if_neg h1,if_neg h2,if_neg h3,if_pos h4];rfl
 refine(dr (Dd hW hs h4) rfl rfl).trans ?_;refine bo.trans ?_;by_cases h5:cj W R6 s
 ·refine(dr (De hW hs h5) rfl rfl).trans ?_;refine bF.trans ?_;refine(jD (yN hW 5 (nx h5)) rfl rfl rfl).trans ?_;refine aN.trans ?_;refine(aK (xf hW _ _ _ _ _ _ _ _ _ _ _ _ _ _ _ _ (kO hW 5 (nx h5)).lt)).trans ?_;rw[iO,mB,if_neg h1,if_neg h2,if_neg h3,if_neg h4,if_pos h5];rfl
 refine(dr (Dd hW hs h5) rfl rfl).trans ?_;refine bo.trans ?_;by_cases h6:cj W QH s
 ·refine(dr (De hW hs h6) rfl rfl).trans ?_;refine bF.trans ?_;refine(jD (yN hW 6 (nx h6)) rfl rfl rfl).trans ?_;refine aN.trans ?_;refine(aK (xf hW _ _ _ _ _ _ _ _ _ _ _ _ _ _ _ _ (kO hW 6 (nx h6)).lt)).trans ?_;rw[iO,mB,if_neg h1,if_neg h2,if_neg h3,if_neg h4,if_neg h5,if_pos h6];rfl
 refine(dr (Dd hW hs h6) rfl rfl).trans ?_;refine bo.trans ?_;by_cases h7:cj W RF s
 ·refine(dr (De hW hs h7) rfl rfl).trans ?_;refine bF.trans ?_;have a1:=cy hW aZ (nx h7);refine(jX (mi hW (nx h7)) rfl rfl).trans ?_;have last:∀(x:mP) (t:PS),t.i<W.length->RU (.at_ 41 1 (fw 1966067) IB [] [.cells [vi 7,vs (bO W aZ (bp s)).1,vs [],vi 0,vi 0,vu 0,vs [],vl true [],vl true [],vl true [],vs x,vl true []] [],z12,.cells (pC b W t) []])=
    some (.t [.d (dD 7 (bO W aZ (bp s)).1 [] 0 0 0 [] true [] true [] true [] x (eU W (cP W [123] t)).1.isEmpty (eU W (cP W [123] t)).1),vb true],pO b W (jy W (eU W (cP W [123] t)).2)):=by
   intro x t ht;have a2:=bY hW [123] ht;have a3:=a2.mv (rD hW a2.lt).toMv;rw[RU];refine(zB ..).trans ?_;refine(cr (iS hW ht [123]) rfl rfl).trans ?_;refine(Pn (LM hW a2.lt) rfl rfl).trans ?_;exact aK (xf hW _ _ _ _ _ _ _ _ _ _ _ _ _ _ _ _ a3.lt)
  rw[iO,mB,if_neg h1,if_neg h2,if_neg h3,if_neg h4,if_neg h5,if_neg h6,if_pos h7];dsimp only;by_cases he:cj W U9 (bO W aZ (bp s)).2
  ·refine(dr (De hW a1.lt he) rfl rfl).trans ?_;refine bF.trans ?_;have a2:=a1.mv (bX hW a1.lt (cx he (by decide))).toMv;refine(jX (sB hW a2.lt) rfl rfl).trans ?_;refine(aK (last _ _ (a2.mv (cy hW gU a2.lt).toMv).lt)).trans ?_;rw[tV,if_pos he]
  ·refine(dr (Dd hW a1.lt he) rfl rfl).trans ?_;refine bo.trans ?_;refine(aK (last _ _ a1.lt)).trans ?_;rw[tV,if_neg he]
 refine(dr (Dd hW hs h7) rfl rfl).trans ?_;refine bo.trans ?_;rw[iO,mB,if_neg h1,if_neg h2,if_neg h3,if_neg h4,if_neg h5,if_neg h6,if_neg h7];rfl
include hW in
theorem Al(fb:Bool){s:PS}(hs:s.i<W.length):∀(r p:List mP),p++r=oP->
  RU (.at_ 39 1 (fw 43) (F5 fb (oP.map .s) (p.length:Int)) [] (pO b W s))=some (vb (r.any λ w=>decide (cj W w s)),pO b W s)
 | [],p,hp=>by
  have hl:(oP.map D.s).length=7:=rfl;have:p.length=7:=by have:=congrArg List.length hp;simpa[oP]using this
  rw[RU,xD,hl,bn];rfl
 |x::r,p,hp=>by
  have hl:(oP.map D.s).length=7:=rfl;have hlt:p.length<7:=by have:=congrArg List.length hp;simp[oP]at this;omega
  have hg:(oP.map D.s)[p.length]?=some (.s x):=by rw[<-hp,List.getElem?_map];simp
  rw[RU,xD,hl,bz];refine(KE hg).trans ?_;refine(dr (Dp hs x) rfl rfl).trans ?_;by_cases e:cj W x s
  ·rw[bz e,List.any_cons,decide_eq_true e];rfl
  ·rw[bn e,List.any_cons,decide_eq_false e,Ww];have:=Al fb hs r (p++[x]) (by rw[List.append_assoc];exact hp);rw[N6]at this;exact aK this
include hW in
theorem S9{s:PS}(hs:s.i<W.length):RU (.call 39 [.p 0 0] (pO b W s))=some (vb (sn W s),pO b W s):=by rw[RU,X7];exact aK (Al hW true hs oP [] rfl)
end
end Go.Dn.Dec.Pa
namespace Go.Dn.Dec
open Go.IntKind (i64 u64 u8 u16 i32 u32)
open Go.Proofs
open Tryz (prog)
def U0:List (Nat×List (Nat×List Nat)):=
 [(16,[(319,[2,8,9]),(3135,[2,8,9,38]),(12863,[2,8,9,46]),(31295,[2,8,9,10]),(255,[2,8,9])]),
 (37,[(2,[0,1]),(24,[0,1,18]),(100,[0,1,40]),(3412,[0,1,4,55]),(1012,[0,1,5])]),
 (4,[(27,[0,1,2,19])]),
 (5,[(27,[0,1,2,23])])]
def Wj(k:Nat)(p:List Bool):Option (List Nat):=(U0.lookup k).bind λ l=>l.lookup (p.foldl (λ n b=>2*n+b.toNat) 1)
def UQ:List (Nat×Nat×Nat×Nat):=[(16,13,4,3),(37,8,8,3),(37,14,7,3)]
def Wf(k r i:Nat):Nat:=((UQ.find? λ x=>x.1==k&&x.2.1==r&&x.2.2.1==i).map (·.2.2.2)).getD 2
def WJ(k r _:Nat):Fl:=match k,r with
 |16,5=>[(0,1),(1,2),(2,12)]
 |_,_=>[]
def AV(k:Nat):Bool:=k==17||(decide (38<=k)&&decide (k<=41))||(decide (71<=k)&&decide (k<=76))
noncomputable def CX(args:List V)(S:List Ob):Option Out:=
 match args with
 | [.d (.g [.l true [],.l true [],.l true []])]=>some (.d (.s []),S)
 |args=>lA prog bA 12 args S
noncomputable def K6(k:Nat):Option (List V->List Ob->Option Out):=
 if k=4\/k=5\/k=16\/k=37 then none else if k=20 then some (λ args S=>run prog aF (.call k args S))else if AV k=true then some (lA prog bC k)else if k=12 then some CX else some (lA prog bA k)
noncomputable def gb:Pol:={ cut:=Wj,app:=Wf,mh:=WJ,ext:=K6,fresh:=λ _=>false }
theorem Xx(s:mP):EQ gb (.call 16 [vs s] []) (cV (.call 20 [vs s] []) λ a=>cL a λ c=>aH (c.length==3) (bm (Ul c 0) λ e=>fT e λ f h=>bm (Ul c 1) λ j=>bR .i64 j λ k=>bm (Ul c 2) λ m=>bR .i64 m λ n=>aM (k != 0) (.ret (.t [.d (.g [.l true [],.l true [],.l true []]),vi k,vi n],[])) (.call (.call 37 [.p 1 0,.p 2 0] [.cells (pB true [] true [] true []) [(0,1),(1,2),(2,12)],.cells (pH f h 0 0 0) [],.cells (pB true [] true [] true []) []]) λ o=>ee o.snd λ q r=>dx q λ v w=>aH (v.length==3) (aH (w==[(0,1),(1,2),(2,12)]) (ee r λ x y=>dx x λ z a0=>aH (z.length==4) (aH (a0==[]) (ee y λ a1 a2=>dx a1 λ a3 a4=>aH (a3.length==3) (aH (a4==[]) (iK a2 (cL o.fst λ a5=>aH (a5.length==0) (.call (.at_ 16 0 (fw 319) ub [] [.cells v [(0,1),(1,2),(2,12)],.cells z [],.cells a3 []]) .ret))))))))))):=bU
theorem Xz(ib:Bool)(il:List D)(sb:Bool)(sl:List D)(db:Bool)(dl:List D)(b:Bool)(l:List D)(i e a:Int)(r:List V):EQ gb (.call 37 [.p 1 0,.p 2 0] [.cells (pB ib il sb sl db dl) [(0,1),(1,2),(2,12)],.cells (pH b l i e a) [],.cells r []]) (.call (.at_ 37 3 (fw 2) xi [] [.cells (pB ib il sb sl db dl) [(0,1),(1,2),(2,12)],.cells (pH b l i e a) [],.cells r []]) .ret):=bU
theorem Rs(b0:Bool)(l1:List D)(b2:Bool)(l3:List D)(b4:Bool)(l5:List D)(l6 l7:List V):EQ gb (.at_ 37 3 (fw 2) xi [] [.cells (pB b0 l1 b2 l3 b4 l5) [(0,1),(1,2),(2,12)],.cells l6 [],.cells l7 []]) (ob l6[2]? λ a=>aI a λ c=>aM (c==0) (c2 (.call 71 [.p 1 0,vs [105,110,99,108,117,100,101]] [.cells l6 [],.cells l7 []]) l6.length [] l7.length [] λ e f g=>aB e λ h=>aM h (.call (.at_ 37 3 (fw 24) (vR true) [] [.cells (pB b0 l1 b2 l3 b4 l5) [(0,1),(1,2),(2,12)],.cells f [],.cells g []]) .ret) (c2 (.call 71 [.p 1 0,vs [110,97,109,101,115,112,97,99,101]] [.cells f [],.cells g []]) f.length [] g.length [] λ i j k=>aB i λ m => .call (.at_ 37 3 (fw 24) (vR m) [] [.cells (pB b0 l1 b2 l3 b4 l5) [(0,1),(1,2),(2,12)],.cells j [],.cells k []]) .ret)) (.call (.at_ 37 3 (fw 24) (vR false) [] [.cells (pB b0 l1 b2 l3 b4 l5) [(0,1),(1,2),(2,12)],.cells l6 [],.cells l7 []]) .ret)):=bU
theorem OW(b0 b1:Bool)(l2:List D)(b3:Bool)(l4:List D)(b5:Bool)(l6:List D)(l7 l8:List V):EQ gb (.at_ 37 3 (fw 24) (vR b0) [] [.cells (pB b1 l2 b3 l4 b5 l6) [(0,1),(1,2),(2,12)],.cells l7 [],.cells l8 []]) (aM b0 (c2 (.call 71 [.p 1 0,vs [105,110,99,108,117,100,101]] [.cells l7 [],.cells l8 []]) l7.length [] l8.length [] λ o0 l3 l7=>aB o0 λ b10=>aM b10 (aM ((l2.length:Int)==5) (.call (.at_ 37 3 (fw 100) (Jj true) [] [.cells (pB b1 l2 b3 l4 b5 l6) [(0,1),(1,2),(2,12)],.cells l3 [],.cells l7 []]) .ret) (c2 (.call 71 [.p 1 0,vs [110,97,109,101,115,112,97,99,101]] [.cells l3 [],.cells l7 []]) l3.length [] l7.length [] λ o11 l14 l18=>aB o11 λ b21=>aM b21 (.call (.at_ 37 3 (fw 100) (Jj ((l4.length:Int)==5)) [] [.cells (pB b1 l2 b3 l4 b5 l6) [(0,1),(1,2),(2,12)],.cells l14 [],.cells l18 []]) .ret) (.call (.at_ 37 3 (fw 100) (Jj false) [] [.cells (pB b1 l2 b3 l4 b5 l6) [(0,1),(1,2),(2,12)],.cells l14 [],.cells l18 []]) .ret))) (c2 (.call 71 [.p 1 0,vs [110,97,109,101,115,112,97,99,101]] [.cells l3 [],.cells l7 []]) l3.length [] l7.length [] λ o22 l25 l29=>aB o22 λ b32=>aM b32 (.call (.at_ 37 3 (fw 100) (Jj ((l4.length:Int)==5)) [] [.cells (pB b1 l2 b3 l4 b5 l6) [(0,1),(1,2),(2,12)],.cells l25 [],.cells l29 []]) .ret) (.call (.at_ 37 3 (fw 100) (Jj false) [] [.cells (pB b1 l2 b3 l4 b5 l6) [(0,1),(1,2),(2,12)],.cells l25 [],.cells l29 []]) .ret))) (.ret (.t [],[.cells (pB b1 l2 b3 l4 b5 l6) [(0,1),(1,2),(2,12)],.cells l7 [],.cells l8 []]))):=bU
theorem uC(b0 b1:Bool)(l2:List D)(b3:Bool)(l4:List D)(b5:Bool)(l6:List D)(l7 l8:List V):EQ gb (.at_ 37 3 (fw 100) (Jj b0) [] [.cells (pB b1 l2 b3 l4 b5 l6) [(0,1),(1,2),(2,12)],.cells l7 [],.cells l8 []]) (aM b0 (c2 (.call 40 [.p 1 0,vi 4] [.cells l7 [],.cells l8 []]) l7.length [] l8.length [] λ o0 l3 l7=>cL o0 λ l9=>aH (l9.length==0) (.ret (.t [],[.cells (pB b1 l2 b3 l4 b5 l6) [(0,1),(1,2),(2,12)],.cells l3 [],.cells l7 []]))) (c2 (.call 72 [.p 1 0,vs [105,110,99,108,117,100,101]] [.cells l7 [],.cells l8 []]) l7.length [] l8.length [] λ o10 l13 l17=>aB o10 λ b20=>aM b20 (c2 (.call 38 [.p 1 0] [.cells l13 [],.cells l17 []]) l13.length [] l17.length [] λ o21 l24 l28=>bm o21 λ d30=>jM 5 d30 λ l31=>aH ([.d (pb l31 0),.d (pb l31 1),.d (pb l31 2),.d (pb l31 3),.d (pb l31 4)].all V.one) (bR .i64 (pb l31 0) λ n32=>aM (n32 != 4) (.call (.at_ 37 3 (fw 3412) (Kj true) [] [.cells [.d (pb l31 0),.d (pb l31 1),.d (pb l31 2),.d (pb l31 3),.d (pb l31 4)] [],.cells (pB b1 l2 b3 l4 b5 l6) [(0,1),(1,2),(2,12)],.cells l24 [],.cells l28 []]) .ret) (eF (pb l31 1) λ l33=>cV (.call 73 [vs l33] []) λ o34=>aB o34 λ b36 => .call (.at_ 37 3 (fw 3412) (sv 93 [(0,.p 1 0),(1,.p 2 0),(4,.p 3 0),(55,vb !b36)]) [] [.cells [.d (pb l31 0),.d (pb l31 1),.d (pb l31 2),.d (pb l31 3),.d (pb l31 4)] [],.cells (pB b1 l2 b3 l4 b5 l6) [(0,1),(1,2),(2,12)],.cells l24 [],.cells l28 []]) .ret))) (c2 (.call 74 [.p 1 0] [.cells l13 [],.cells l17 []]) l13.length [] l17.length [] λ o37 l40 l44=>cL o37 λ l46=>aH (l46.length==0) (c2 (.call 75 [.p 1 0,vs [42]] [.cells l40 [],.cells l44 []]) l40.length [] l44.length [] λ o47 l50 l54=>aB o47 λ b57=>aM (!b57) (c2 (.call 76 [.p 1 0] [.cells l50 [],.cells l54 []]) l50.length [] l54.length [] λ o58 l61 l65=>aS o58 λ l68 => .call (.at_ 37 3 (fw 1012) Ff [] [.cells [vs l68,vs []] [],.cells (pB b1 l2 b3 l4 b5 l6) [(0,1),(1,2),(2,12)],.cells l61 [],.cells l65 []]) .ret) (.call (.at_ 37 3 (fw 1012) Ff [] [.cells [vs [42],vs []] [],.cells (pB b1 l2 b3 l4 b5 l6) [(0,1),(1,2),(2,12)],.cells l50 [],.cells l54 []]) .ret))))):=bU
theorem yw(b0:Bool)(d1 d2 d3 d4 d5:D)(b6:Bool)(l7:List D)(b8:Bool)(l9:List D)(b10:Bool)(l11:List D)(l12 l13:List V):EQ gb (.at_ 37 3 (fw 3412) (Kj b0) [] [.cells [.d d1,.d d2,.d d3,.d d4,.d d5] [],.cells (pB b6 l7 b8 l9 b10 l11) [(0,1),(1,2),(2,12)],.cells l12 [],.cells l13 []]) (aM b0 (c2 (.call 40 [.p 1 0,vi 2] [.cells l12 [],.cells l13 []]) l12.length [] l13.length [] λ a c e=>cL a λ f=>aH (f.length==0) (.ret (.t [],[.cells (pB b6 l7 b8 l9 b10 l11) [(0,1),(1,2),(2,12)],.cells c [],.cells e []]))) (c2 (.call 74 [.p 1 0] [.cells l12 [],.cells l13 []]) l12.length [] l13.length [] λ g h j=>cL g λ k=>aH (k.length==0) (eF d2 λ m=>aH (bw 1 l7) (aH (b6||true) (aH (decide (l7.length+1<=4294967296)) (.call (.at_ 37 3 (fw 2) xi [] [.cells (pB (b6&&false) (l7++[.s m]) b8 l9 b10 l11) [(0,1),(1,2),(2,12)],.cells h [],.cells j []]) .ret)))))):=bU
theorem Ie(l0 l1:mP)(b2:Bool)(l3:List D)(b4:Bool)(l5:List D)(b6:Bool)(l7:List D)(l8 l9:List V):EQ gb (.at_ 37 3 (fw 1012) Ff [] [.cells [vs l0,vs l1] [],.cells (pB b2 l3 b4 l5 b6 l7) [(0,1),(1,2),(2,12)],.cells l8 [],.cells l9 []]) (c2 (.call 76 [.p 1 0] [.cells l8 [],.cells l9 []]) l8.length [] l9.length [] λ a b c=>aS a λ e=>aH (bw 2 l5) (aH (b4||true) (aH (decide (l5.length+1<=4294967296)) (.call (.at_ 37 3 (fw 2) xi [] [.cells (pB b2 l3 (b4&&false) (l5++[.g [.s l0,.s e]]) b6 l7) [(0,1),(1,2),(2,12)],.cells b [],.cells c []]) .ret)))):=bU
theorem Ic(w ib:Bool)(il:List D)(sb:Bool)(sl:List D)(db:Bool)(dl:List D)(p r:List V):EQ gb (.at_ 16 0 (fw 3135) (Ro w) [] [.cells (pB ib il sb sl db dl) [(0,1),(1,2),(2,12)],.cells p [],.cells r []]) (aM w (aM ((dl.length:Int)==30) (c2 (.call 39 [.p 1 0] [.cells p [],.cells r []]) p.length [] r.length [] λ a c e=>aB a λ f => .call (.at_ 16 0 (fw 12863) (Rp f) [] [.cells (pB ib il sb sl db dl) [(0,1),(1,2),(2,12)],.cells c [],.cells e []]) .ret) (.call (.at_ 16 0 (fw 12863) (Rp false) [] [.cells (pB ib il sb sl db dl) [(0,1),(1,2),(2,12)],.cells p [],.cells r []]) .ret)) (.call (.at_ 16 0 (fw 255) ub [] [.cells (pB ib il sb sl db dl) [(0,1),(1,2),(2,12)],.cells p [],.cells r []]) .ret)):=bU
theorem vL(b0 b1:Bool)(l2:List D)(b3:Bool)(l4:List D)(b5:Bool)(l6:List D)(l7 l8:List V):EQ gb (.at_ 16 0 (fw 12863) (Rp b0) [] [.cells (pB b1 l2 b3 l4 b5 l6) [(0,1),(1,2),(2,12)],.cells l7 [],.cells l8 []]) (aM b0 (c2 (.call 40 [.p 1 0,vi 4] [.cells l7 [],.cells l8 []]) l7.length [] l8.length [] λ o0 l3 l7=>cL o0 λ l9=>aH (l9.length==0) (.call (.at_ 16 0 (fw 255) ub [] [.cells (pB b1 l2 b3 l4 b5 l6) [(0,1),(1,2),(2,12)],.cells l3 [],.cells l7 []]) .ret)) (c2 (.call 41 [.p 1 0] [.cells l7 [],.cells l8 []]) l7.length [] l8.length [] λ o10 l13 l17=>cL o10 λ l19=>aH (l19.length==2) (bm (Ul l19 0) λ d20=>jM 12 d20 λ l21=>bm (Ul l19 1) λ d22=>fN d22 λ b23=>aH ([.d (pb l21 0),.d (pb l21 1),.d (pb l21 2),.d (pb l21 3),.d (pb l21 4),.d (pb l21 5),.d (pb l21 6),.d (pb l21 7),.d (pb l21 8),.d (pb l21 9),.d (pb l21 10),.d (pb l21 11)].all V.one) (aM (!b23) (c2 (.call 40 [.p 1 0,vi 2] [.cells l13 [],.cells l17 []]) l13.length [] l17.length [] λ o24 l27 l31=>cL o24 λ l33=>aH (l33.length==0) (.call (.at_ 16 0 (fw 31295) Rd [] [.cells [.d (pb l21 0),.d (pb l21 1),.d (pb l21 2),.d (pb l21 3),.d (pb l21 4),.d (pb l21 5),.d (pb l21 6),.d (pb l21 7),.d (pb l21 8),.d (pb l21 9),.d (pb l21 10),.d (pb l21 11)] [],.cells (pB b1 l2 b3 l4 b5 l6) [(0,1),(1,2),(2,12)],.cells l27 [],.cells l31 []]) .ret)) (.call (.at_ 16 0 (fw 31295) Rd [] [.cells [.d (pb l21 0),.d (pb l21 1),.d (pb l21 2),.d (pb l21 3),.d (pb l21 4),.d (pb l21 5),.d (pb l21 6),.d (pb l21 7),.d (pb l21 8),.d (pb l21 9),.d (pb l21 10),.d (pb l21 11)] [],.cells (pB b1 l2 b3 l4 b5 l6) [(0,1),(1,2),(2,12)],.cells l13 [],.cells l17 []]) .ret))))):=bU
theorem L7(b0:Bool)(l1:List D)(b2:Bool)(l3:List D)(b4:Bool)(l5:List D)(l6 l7:List V):EQ gb (.at_ 16 0 (fw 255) ub [] [.cells (pB b0 l1 b2 l3 b4 l5) [(0,1),(1,2),(2,12)],.cells l6 [],.cells l7 []]) (ob l6[2]? λ a=>aI a λ b=>aM (b != 0) (ob l6[2]? λ c=>aI c λ e=>ob l6[3]? λ f=>aI f λ h=>aH (decide (3=3/\3<=l7.length)&&true&&true) (.ret (.t [.d (.g [.l true [],.l true [],.l true []]),vi e,vi h],[]))) (aH (decide (3=3/\3<=l7.length)&&true&&true) (.ret (.t [.d (.g [.l b0 l1,.l b2 l3,.l b4 l5]),vi 0,vi 0],[])))):=bU
theorem FF(d0 d1 d2 d3 d4 d5 d6 d7 d8 d9 d10 d11:D)(b12:Bool)(l13:List D)(b14:Bool)(l15:List D)(b16:Bool)(l17:List D)(l18 l19:List V):EQ gb (.at_ 16 0 (fw 31295) Rd [] [.cells [.d d0,.d d1,.d d2,.d d3,.d d4,.d d5,.d d6,.d d7,.d d8,.d d9,.d d10,.d d11] [],.cells (pB b12 l13 b14 l15 b16 l17) [(0,1),(1,2),(2,12)],.cells l18 [],.cells l19 []]) (aH (bw 12 l17) (aH (b16||dK [.g [d0,d1,d2,d3,d4,d5,d6,d7,d8,d9,d10,d11]]) (aH (decide (l17.length+1<=4294967296)) (.call (.at_ 16 0 (fw 319) ub [] [.cells (pB b12 l13 b14 l15 (b16&&false) (l17++[.g [d0,d1,d2,d3,d4,d5,d6,d7,d8,d9,d10,d11]])) [(0,1),(1,2),(2,12)],.cells l18 [],.cells l19 []]) .ret)))):=bU
theorem L8(b0:Bool)(l1:List D)(b2:Bool)(l3:List D)(b4:Bool)(l5:List D)(l6 l7:List V):EQ gb (.at_ 16 0 (fw 319) ub [] [.cells (pB b0 l1 b2 l3 b4 l5) [(0,1),(1,2),(2,12)],.cells l6 [],.cells l7 []]) (ob l6[2]? λ a=>aI a λ c=>aM (c==0) (c2 (.call 38 [.p 1 0] [.cells l6 [],.cells l7 []]) l6.length [] l7.length [] λ e f g=>bm e λ h=>jM 5 h λ i=>bR .i64 (pb i 0) λ j => .call (.at_ 16 0 (fw 3135) (Ro (j != 6)) [] [.cells (pB b0 l1 b2 l3 b4 l5) [(0,1),(1,2),(2,12)],.cells f [],.cells g []]) .ret) (.call (.at_ 16 0 (fw 3135) (Ro false) [] [.cells (pB b0 l1 b2 l3 b4 l5) [(0,1),(1,2),(2,12)],.cells l6 [],.cells l7 []]) .ret)):=bU
end Go.Dn.Dec
namespace Go.Proofs
open Go.IntKind (i64 u64 u8 u16 i32 u32)
open Go.Shelf Go.RowKit
set_option maxRecDepth 100000
theorem Nf(w:World)(a b:Obj)(v:Value)(h:∀arr x y,b = .cells arr x y->arr[1]?=some v)(hb:∃arr x y,b = .cells arr x y):((w.alloc a).alloc b).drew.cell? ⟨w.heap.size+1,1,none⟩=some v:=by
 obtain⟨arr,x,y,rfl⟩:=hb;have:=h arr x y rfl;have e:((w.alloc a).alloc (.cells arr x y)).drew.heap[w.heap.size+1]?=some (.cells arr x y):=by show ((w.heap.push a).push (.cells arr x y))[w.heap.size+1]?=_;rw[Array.getElem?_push,if_pos (by simp)]
 simp only[World.cell?,e];exact this
set_option maxHeartbeats 1000000 in
theorem Tryz.Print_empty(a1 a2 a3:Option Addr)(w:World):
  Calls prog 12 #[.agg #[.slice a1 0 0,.slice a2 0 0,.slice a3 0 0]] w λ e w'=>e = .returned (.string .empty)/\Below w.heap.size w w':=by
 go_enter Tryz.func12,Tryz.ntmps12
 go_wp2
 refine wp_loop_once ?_
 go_wp2
 refine wp_loop_once ?_
 go_wp2
 refine wp_loop_once ?_
 go_wp2
 have c1:(((w.alloc (Obj.cells #[Value.slice a1 0 0,Value.slice a2 0 0,Value.slice a3 0 0] 33)).alloc (Obj.cells #[Value.pointer none,Value.slice none 0 0] 73)).drew).cell? ⟨w.heap.size+1,1,none⟩=some (.slice none 0 0):=
  Nf w _ _ _ (λ arr x y e=>by injection e with e;subst e;rfl) ⟨_,_,_,rfl⟩
 have hSD:(Builtin.unsafeSliceData_ #[22] 123 #[.slice none 0 0]).run prog ((w.alloc (Obj.cells #[Value.slice a1 0 0,Value.slice a2 0 0,Value.slice a3 0 0] 33)).alloc (Obj.cells #[Value.pointer none,Value.slice none 0 0] 73)).drew = .ok (.pointer none) ((w.alloc (Obj.cells #[Value.slice a1 0 0,Value.slice a2 0 0,Value.slice a3 0 0] 33)).alloc (Obj.cells #[Value.pointer none,Value.slice none 0 0] 73)).drew:=rfl;have hUS:(Builtin.unsafeString_ #[123,3] 9 #[.pointer none,.int .i64 0]).run prog ((w.alloc (Obj.cells #[Value.slice a1 0 0,Value.slice a2 0 0,Value.slice a3 0 0] 33)).alloc (Obj.cells #[Value.pointer none,Value.slice none 0 0] 73)).drew = .ok (.string .empty) ((w.alloc (Obj.cells #[Value.slice a1 0 0,Value.slice a2 0 0,Value.slice a3 0 0] 33)).alloc (Obj.cells #[Value.pointer none,Value.slice none 0 0] 73)).drew:=by rfl
 go_region
 all_goals (go_wp2;go_ret;exact⟨rfl,((Below.refl _ _).alloc (Nat.le_refl _) _).alloc (by show w.heap.size<=(w.heap.push _).size;rw[Array.size_push];omega) _ |>.drew⟩)
end Go.Proofs
namespace Go.Dn.Dec
open Go.IntKind (i64 u64 u8 u16 i32 u32)
open Go.Proofs
open Tryz (prog)
set_option maxRecDepth 100000
theorem Fs(S:List Ob):cf prog 12 [.d (.g [.l true [],.l true [],.l true []])] S (.d (.s []),S):=by
 refine sC (v := .string .empty) Tryz.func12 (by kernel_rfl) (λ G=>by simp only[RV,RD];rfl) λ w G vs hI hr=>?_;obtain⟨v,rfl,h1⟩:=zh hr;simp only[RV,RD,dI]at h1;obtain⟨us,rfl,v1,r1,e1,⟨A1,n1,c1,_,rfl,hn1,_,hf1,_⟩,v2,r2,rfl,⟨A2,n2,c2,_,rfl,hn2,_,hf2,_⟩,v3,r3,rfl,⟨A3,n3,c3,_,rfl,hn3,_,hf3,_⟩,rfl⟩:=h1;have e2:us=#[.slice A1 n1 c1,.slice A2 n2 c2,.slice A3 n3 c3]:=Array.ext' e1;have:=hf1 trivial;have:=hf2 trivial;have:=hf3 trivial;simp only[List.length_nil]at hn1 hn2 hn3;subst hn1;subst hn2;subst hn3;subst e2;obtain rfl:c1=0:=by omega
 obtain rfl:c2=0:=by omega
 obtain rfl:c3=0:=by omega
 exact Tryz.Print_empty A1 A2 A3 w
end Go.Dn.Dec
namespace Go.Dn.Dec.Pa
open Go.IntKind (i64 u64 u8 u16 i32 u32)
open Go.Proofs
open Tryz (prog)
set_option maxRecDepth 100000
noncomputable abbrev RQ:=rk prog gb
theorem Tn:od prog gb:=by
 intro k g hg args S o ho;simp only[gb,K6]at hg;split at hg
 ·cases hg
 ·split at hg
  ·injection hg with hg;subst hg;exact Sh k args S o ho
  ·split at hg
   ·injection hg with hg;subst hg;exact oc Vf ho
   ·split at hg
    ·rename_i h12;injection hg with hg;subst hg
     unfold CX at ho;subst h12;split at ho
     ·injection ho with ho;subst ho;exact Fs S
     ·exact oc NY ho
    ·injection hg with hg;subst hg;exact oc NY ho
theorem kL{k:Nat}{g:List V->List Ob->Option Out}(h:gb.ext k=some g)(args:List V)(S:List Ob):RQ (.call k args S)=g args S:=by
 rw[RQ,Bu];unfold pG;simp only[h];rw[ca]
 cases g args S with
 |none=>rfl
 |some o=>rfl
theorem D8{k:Nat}(h1:¬(k=4\/k=5\/k=16\/k=37))(h2:¬k=20)(h3:AV k=true):gb.ext k=some (lA prog bC k):=by simp only[gb,K6,if_neg h1,if_neg h2,h3,if_true]
theorem Js{k:Nat}(h1:¬(k=4\/k=5\/k=16\/k=37))(h2:¬k=20)(h3:AV k=false)(h4:¬k=12):gb.ext k=some (lA prog bA k):=by simp only[gb,K6,if_neg h1,if_neg h2,h3,if_neg h4];rfl
theorem Dm{aF:Pol}{k:Nat}{args:List V}{o:Out}(h:run prog aF (.call k args [])=some o):lA prog aF k args []=some o:=by
 unfold lA;split
 ·rename_i heq;cases heq
 ·exact h
theorem Vq{k:Nat}{args:List V}{o:Out}(h:RY (.call k args [])=some o)(h1:¬(k=4\/k=5\/k=16\/k=37))(h2:¬k=20)(h3:AV k=false)(h4:¬k=12):RQ (.call k args [])=some o:=by rw[kL (Js h1 h2 h3 h4)];exact Dm (ic h)
theorem OX{k:Nat}{args:List V}{o:Out}(h:RU (.call k args [])=some o)(h1:¬(k=4\/k=5\/k=16\/k=37))(h2:¬k=20)(h3:AV k=true):RQ (.call k args [])=some o:=by rw[kL (D8 h1 h2 h3)];exact Dm (ic h)
theorem W6(s:mP):RQ (.call 20 [vs s] [])=some (lQ (lexB s)):=by
 have e:gb.ext 20=some (λ args S=>run prog aF (.call 20 args S)):=by simp only[gb,K6];rfl
 rw[kL e];exact ic (DZ s)
abbrev qO(b:Bool)(W:List Tok)(s:PS)(r:List V):List Ob:=[.cells (pC b W s) [],.cells r []]
theorem sV{k:Nat}{b:Bool}{W:List Tok}{ar:List V}{v:V}{s s':PS}(h:RU (.call k (.p 0 0::ar) (pO b W s))=some (v,pO b W s'))(r:List V)(ha:bG 0 ar=true)(hv:bP 0 v=true)(h1:¬(k=4\/k=5\/k=16\/k=37))(h2:¬k=20)(h3:AV k=true):
  RQ (.call k (.p 1 0::ar) (qO b W s r))=some (v,qO b W s' r):=by
 rw[kL (D8 h1 h2 h3)];exact PW (ic h) ha rfl rfl hv
section
variable {f : Task → Option Out}
theorem Iw{t:Task}{cs ds:List V}{m n:Nat}{K:List V->List V->Tr}(h:f t=some (.t [],[.cells cs [],.cells ds []]))(hm:cs.length=m)(hn:ds.length=n):
  aC f (c2 t m [] n [] λ o c d=>cL o λ v=>aH (v.length==0) (K c d))=aC f (K cs ds):=by
 rw[cp h];show aC f (aH (cs.length==m) (aH true (aH (ds.length==n) (aH true (aH true (K cs ds))))))=_;rw[hm,beq_self_eq_true,aN,aN,hn,beq_self_eq_true,aN,aN,aN]
theorem Da{t:Task}{b:Bool}{cs ds:List V}{m n:Nat}{K:List V->List V->Bool->Tr}(h:f t=some (vb b,[.cells cs [],.cells ds []]))(hm:cs.length=m)(hn:ds.length=n):
  aC f (c2 t m [] n [] λ o c d=>aB o λ v=>K c d v)=aC f (K cs ds b):=by
 rw[cp h];show aC f (aH (cs.length==m) (aH true (aH (ds.length==n) (aH true (K cs ds b)))))=_;rw[hm,beq_self_eq_true,aN,aN,hn,beq_self_eq_true,aN,aN]
theorem VA{t:Task}{b:mP}{cs ds:List V}{m n:Nat}{K:List V->List V->mP->Tr}(h:f t=some (vs b,[.cells cs [],.cells ds []]))(hm:cs.length=m)(hn:ds.length=n):
  aC f (c2 t m [] n [] λ o c d=>aS o λ v=>K c d v)=aC f (K cs ds b):=by
 rw[cp h];show aC f (aH (cs.length==m) (aH true (aH (ds.length==n) (aH true (K cs ds b)))))=_;rw[hm,beq_self_eq_true,aN,aN,hn,beq_self_eq_true,aN,aN]
theorem Vy{t:Task}{gs:List D}{k:Nat}{cs ds:List V}{m n:Nat}{K:List V->List V->List D->Tr}(h:f t=some (.d (.g gs),[.cells cs [],.cells ds []]))(hk:gs.length=k)(hm:cs.length=m)(hn:ds.length=n):
  aC f (c2 t m [] n [] λ o c d=>bm o λ v=>jM k v λ y=>K c d y)=aC f (K cs ds gs):=by
 rw[cp h];show aC f (aH (cs.length==m) (aH true (aH (ds.length==n) (aH true (jM k (.g gs) λ y=>K cs ds y)))))=_;rw[hm,beq_self_eq_true,aN,aN,hn,beq_self_eq_true,aN,aN,jU,if_pos hk]
theorem Vz{t:Task}{gs:List D}{k:Nat}{x:Bool}{e e':V}{cs ds:List V}{m n:Nat}{K:List V->List V->List D->Bool->Tr}(h:f t=some (.t [.d (.g gs),vb x],[.cells cs [],.cells ds []]))(hk:gs.length=k)(hm:cs.length=m)(hn:ds.length=n):
  aC f (c2 t m [] n [] λ o c d=>cL o λ l=>aH (l.length==2) (bm (l.getD 0 e) λ v=>jM k v λ y=>bm (l.getD 1 e') λ w=>fN w λ z=>K c d y z))=aC f (K cs ds gs x):=by
 rw[cp h];show aC f (aH (cs.length==m) (aH true (aH (ds.length==n) (aH true (aH true (jM k (.g gs) λ y=>K cs ds y x))))))=_;rw[hm,beq_self_eq_true,aN,aN,hn,beq_self_eq_true,aN,aN,aN,jU,if_pos hk]
end
abbrev Cy:mP:=[105,110,99,108,117,100,101]
abbrev Sr:mP:=[110,97,109,101,115,112,97,99,101]
section
variable (W : List Tok)
def fE(s:PS):mP×PS:=if gK W [42] s then([42],bp s)else bO W gU s
def eK:Nat->List D->List D->PS->(List D×List D)×PS
 |0,il,sl,s=>((il,sl),s)
 |f+1,il,sl,s=>
  if cj W Cy s then
   if il.length=5 then((il,sl),dA W 4 s)
   else if (bD W (bp s)).kind=4/\aZ (bD W (bp s)).text=true then eK f (il++[.s (bD W (bp s)).text]) sl (bp (bp s))
   else((il,sl),dA W 2 (bp s))
  else if cj W Sr s then
   if sl.length=5 then((il,sl),dA W 4 s)
   else eK f il (sl++[F8 (fE W (bp s)).1 (bO W gU (fE W (bp s)).2).1]) (bO W gU (fE W (bp s)).2).2
  else((il,sl),s)
def xg(s:PS):PS:=if (iO W s).2.1=true then(iO W s).2.2 else dA W 2 (iO W s).2.2
def eI:Nat->List D->PS->List D×PS
 |0,L,s=>(L,s)
 |f+1,L,s=>
  if s.e=0/\(bD W s).kind≠6 then
   if L.length=30/\sn W s=true then(L,dA W 4 s)else eI f (L++[(iO W s).1]) (xg W s)
  else(L,s)
abbrev s0:PS:=⟨0,0,0⟩
def iz:(List D×List D)×PS:=eK W (W.length+2) [] [] s0
def mj:List D×PS:=eI W (W.length+2) [] (iz W).2
def pv:D×Int×Int:=
 if (mj W).2.e≠0 then(EJ true [] true [] true [],(mj W).2.e,(mj W).2.a)
 else(EJ (iz W).1.1.isEmpty (iz W).1.1 (iz W).1.2.isEmpty (iz W).1.2 (mj W).1.isEmpty (mj W).1,0,0)
end
section
variable {b : Bool} {W : List Tok} (hW : Wds W)
include hW in
theorem C5{s:PS}(hs:s.i<W.length):Ad W s (fE W s).2:=by
 unfold fE;split
 ·rename_i h;exact bX hW hs (cx h (by decide))
 ·exact cy hW gU hs
include hW in
theorem sD:∀(f:Nat) (il sl:List D) {s:PS},s.i<W.length->Mv W s (eK W f il sl s).2
 |0,il,sl,s,hs=>Mv.refl hs
 |f+1,il,sl,s,hs=>by
  unfold eK;split
  ·rename_i h;have a:=bX hW hs (cx h (by decide));split
   ·exact jq 4 (by decide) hs
   ·split
    ·rename_i h2;have a2:=a.mv (bX hW a.lt (by rw[h2.1];decide)).toMv;exact a2.toMv.trans (sD f _ _ a2.lt)
    ·exact a.toMv.trans (jq 2 (by decide) a.lt)
  ·split
   ·rename_i h;have a:=bX hW hs (cx h (by decide));split
    ·exact jq 4 (by decide) hs
    ·have a2:=a.mv (C5 hW a.lt).toMv;have a3:=a2.mv (cy hW gU a2.lt).toMv;exact a3.toMv.trans (sD f _ _ a3.lt)
   ·exact Mv.refl hs
include hW in
theorem B9{s:PS}(hs:s.i<W.length):Ad W s (xg W s):=by
 unfold xg;have h:=Nt hW hs;split
 ·rename_i h2;exact h.2 h2
 ·exact h.1.ad (lN 2 (by decide) h.1.lt)
include hW in
theorem Ca:∀(f:Nat) (L:List D) {s:PS},s.i<W.length->Mv W s (eI W f L s).2
 |0,L,s,hs=>Mv.refl hs
 |f+1,L,s,hs=>by
  unfold eI;split
  ·split
   ·exact jq 4 (by decide) hs
   ·have a:=B9 hW hs;exact a.toMv.trans (Ca f _ a.lt)
  ·exact Mv.refl hs
abbrev Ve:Fl:=[(0,1),(1,2),(2,12)]
abbrev fO(il sl dl:List D):Ob := .cells (pB il.isEmpty il sl.isEmpty sl dl.isEmpty dl) Ve
theorem Tw{l:List D}(h:∀y∈l,y.width=1):bw 1 l=true:=by
 cases l with
 |nil=>rfl
 |cons y l=>exact beq_iff_eq.2 (h y (by simp))
theorem Tz{l:List D}(h:∀y∈l,y.width=2):bw 2 l=true:=by
 cases l with
 |nil=>rfl
 |cons y l=>exact beq_iff_eq.2 (h y (by simp))
theorem Iu{l:List D}{x:D}{w:Nat}(h:∀y∈l,y.width=w)(hx:x.width=w):∀y∈l++[x],y.width=w:=λ y hy=>by
 rcases List.mem_append.1 hy with h1|h1
 ·exact h y h1
 ·rw[List.mem_singleton.1 h1];exact hx
include hW in
theorem ue(r:List V)(dl:List D):∀(f:Nat) (il sl:List D) {s:PS},s.i<W.length->1<=f->(s.e=0->W.length<s.i+f)->il.length<=5->sl.length<=5->(∀y∈il,y.width=1)->(∀y∈sl,y.width=2)->
  RQ (.at_ 37 3 (fw 2) xi [] (fO il sl dl::qO b W s r))=some (.t [],fO (eK W f il sl s).1.1 (eK W f il sl s).1.2 dl::qO b W (eK W f il sl s).2 r)
 |0,il,sl,s,hs,hf,_,_,_,_,_=>by omega
 |f+1,il,sl,s,hs,hf,hm,hl1,hl2,hw1,hw2=>by
  have hlen:=hW.len;have wd:∀(g:mP) {s:PS},s.i<W.length->RQ (.call 71 [.p 1 0,vs g] (qO b W s r))=some (vb (decide (cj W g s)),qO b W s r):=λ g s hs=>sV (Dp hs g) r rfl rfl (by decide) (by decide) (by decide);have fail:∀(c:Int) {s:PS},s.i<W.length->RQ (.call 40 [.p 1 0,vi c] (qO b W s r))=some (.t [],qO b W (dA W c s) r):=λ c s hs=>sV (jr hs c) r rfl rfl (by decide) (by decide) (by decide);have both:∀{s:PS},cj W Cy s->cj W Sr s->False:=λ h1 h2=>by have:=h1.2.2.symm.trans h2.2.2;revert this;decide
  have go:∀w:Bool,w=decide (cj W Cy s\/cj W Sr s)->RQ (.at_ 37 3 (fw 24) (vR w) [] (fO il sl dl::qO b W s r))=some (.t [],fO (eK W (f+1) il sl s).1.1 (eK W (f+1) il sl s).1.2 dl::qO b W (eK W (f+1) il sl s).2 r):=by
   intro w hw;rw[RQ];refine(OW ..).trans ?_;rw[hw];by_cases h:cj W Cy s\/cj W Sr s
   ·rw[bz h];refine(Da (wd Cy hs) rfl rfl).trans ?_;by_cases hi:cj W Cy s
    ·rw[bz hi];have a:=bX hW hs (cx hi (by decide));by_cases h5:il.length=5
     ·rw[bK];refine dc.trans ?_;rw[eK,if_pos hi,if_pos h5,RQ];refine(uC ..).trans ?_;refine bF.trans ?_;refine(Iw (fail 4 hs) rfl rfl).trans ?_;rfl
     ·rw[bu];refine(Da (wd Sr hs) rfl rfl).trans ?_;rw[bn (λ h=>both hi h)];refine dc.trans ?_;rw[eK,if_pos hi,if_neg h5,RQ];refine(uC ..).trans ?_;refine bo.trans ?_;refine(Da (sV (De hW hs hi) r rfl rfl (by decide) (by decide) (by decide)) rfl rfl).trans ?_;refine bF.trans ?_;refine(Vy (sV (jc a.lt) r rfl rfl (by decide) (by decide) (by decide)) rfl rfl rfl).trans ?_;refine aN.trans ?_;refine bS.trans ?_;have bad:¬((bD W (bp s)).kind=4/\aZ (bD W (bp s)).text=true)->RQ (.at_ 37 3 (fw 3412) (Kj true) [] (.cells ((bD W (bp s)).D.cells.map V.d) []::fO il sl dl::qO b W (bp s) r))=
        some (.t [],fO (if (bD W (bp s)).kind=4/\aZ (bD W (bp s)).text=true then eK W f (il++[.s (bD W (bp s)).text]) sl (bp (bp s)) else((il,sl),dA W 2 (bp s))).1.1 (if (bD W (bp s)).kind=4/\aZ (bD W (bp s)).text=true then eK W f (il++[.s (bD W (bp s)).text]) sl (bp (bp s)) else((il,sl),dA W 2 (bp s))).1.2 dl::qO b W (if (bD W (bp s)).kind=4/\aZ (bD W (bp s)).text=true then eK W f (il++[.s (bD W (bp s)).text]) sl (bp (bp s)) else((il,sl),dA W 2 (bp s))).2 r):=by
       intro h;rw[if_neg h,RQ];refine(yw ..).trans ?_;refine bF.trans ?_;refine(Iw (fail 2 a.lt) rfl rfl).trans ?_;rfl
      by_cases hk:(bD W (bp s)).kind=4
      ·rw[dN (by omega)]
       refine(dH (OX (sT _ (Nat.le_trans (ju hW a.lt) (by decide))) (by decide) (by decide) (by decide))).trans ?_;refine dc.trans ?_
       cases hp:aZ (bD W (bp s)).text with
       |true=>
        have a2:=a.mv (bX hW a.lt (by rw[hk];decide)).toMv;rw[if_pos ⟨hk,rfl⟩,RQ];refine(yw ..).trans ?_;refine bo.trans ?_;refine(Iw (sV (gY hW a.lt) r rfl rfl (by decide) (by decide) (by decide)) rfl rfl).trans ?_;refine(qm (Tw hw1)).trans ?_;refine(qm (show (il.isEmpty||true)=true by simp)).trans ?_;refine(aJ (by omega)).trans ?_;rw[show (il.isEmpty&&false)=(il++[D.s (bD W (bp s)).text]).isEmpty by rw[Jw,Bool.and_false]];refine dc.trans ?_;have h0:=hm hi.1;exact ue r dl f _ sl a2.lt (by omega) (λ e=>by have:=a2.ad e;omega) (by simp;omega) hl2 (Iu hw1 rfl) hw2
       |false=>
        have:=bad (λ x=>by rw[hp]at x;cases x.2);rw[hp]at this;exact this
      ·rw[ep (by omega)]
       exact dc.trans (bad λ x=>hk x.1)
    ·have hn:=h.resolve_left hi;rw[bn hi];refine(Da (wd Sr hs) rfl rfl).trans ?_;rw[bz hn];refine dc.trans ?_;have a:=bX hW hs (cx hn (by decide));rw[eK,if_neg hi,if_pos hn,RQ];refine(uC ..).trans ?_;by_cases h5:sl.length=5
     ·rw[if_pos h5,bK];refine(Iw (fail 4 hs) rfl rfl).trans ?_;rfl
     ·rw[if_neg h5,bu];refine(Da (sV (Dd hW hs hi) r rfl rfl (by decide) (by decide) (by decide)) rfl rfl).trans ?_;refine bo.trans ?_;refine(Iw (sV (gY hW hs) r rfl rfl (by decide) (by decide) (by decide)) rfl rfl).trans ?_;have a2:=a.mv (C5 hW a.lt).toMv;have a3:=a2.mv (cy hW gU a2.lt).toMv;have last:RQ (.at_ 37 3 (fw 1012) Ff [] (.cells [vs (fE W (bp s)).1,vs []] []::fO il sl dl::qO b W (fE W (bp s)).2 r))=
        some (.t [],fO (eK W f il (sl++[F8 (fE W (bp s)).1 (bO W gU (fE W (bp s)).2).1]) (bO W gU (fE W (bp s)).2).2).1.1 (eK W f il (sl++[F8 (fE W (bp s)).1 (bO W gU (fE W (bp s)).2).1]) (bO W gU (fE W (bp s)).2).2).1.2 dl::qO b W (eK W f il (sl++[F8 (fE W (bp s)).1 (bO W gU (fE W (bp s)).2).1]) (bO W gU (fE W (bp s)).2).2).2 r):=by
       rw[RQ];refine(Ie ..).trans ?_;refine(VA (sV (sB hW a2.lt) r rfl rfl (by decide) (by decide) (by decide)) rfl rfl).trans ?_;refine(qm (Tz hw2)).trans ?_;refine(qm (show (sl.isEmpty||true)=true by simp)).trans ?_;refine(aJ (by omega)).trans ?_;rw[show (sl.isEmpty&&false)=(sl++[F8 (fE W (bp s)).1 (bO W gU (fE W (bp s)).2).1]).isEmpty by rw[Jw,Bool.and_false]];refine dc.trans ?_;have h0:=hm hn.1;exact ue r dl f il _ a3.lt (by omega) (λ e=>by have:=a3.ad e;omega) hl1 (by simp;omega) hw1 (Iu hw2 rfl)
      refine(Da (sV (rL hW a.lt [42]) r rfl rfl (by decide) (by decide) (by decide)) rfl rfl).trans ?_;by_cases hst:gK W [42] (bp s)
      ·rw[show fE W (bp s)=([42],bp (bp s)) by rw[fE,if_pos hst]]at last⊢
       rw[decide_eq_true hst,jF,Kg hst];exact dc.trans last
      ·rw[show fE W (bp s)=bO W gU (bp s) by rw[fE,if_neg hst]]at last⊢
       rw[decide_eq_false hst,iI,Kf hst];refine(VA (sV (sB hW a.lt) r rfl rfl (by decide) (by decide) (by decide)) rfl rfl).trans ?_;exact dc.trans last
   ·rw[bn h,eK,if_neg (λ x=>h (.inl x)),if_neg (λ x=>h (.inr x))];rfl
  rw[RQ];refine(Rs ..).trans ?_;refine(sR (j:=2) (n:=s.e) rfl).trans ?_;by_cases he:s.e=0
  ·rw[bK he];refine(Da (wd Cy hs) rfl rfl).trans ?_;by_cases hi:cj W Cy s
   ·rw[bz hi];exact dc.trans (go true (decide_eq_true (.inl hi)).symm)
   ·rw[bn hi];refine(Da (wd Sr hs) rfl rfl).trans ?_;exact dc.trans (go _ (by simp[hi]))
  ·rw[bu he];exact dc.trans (go false (decide_eq_false (λ x=>x.elim (λ h=>he h.1) λ h=>he h.1)).symm)
end
end Go.Dn.Dec.Pa
