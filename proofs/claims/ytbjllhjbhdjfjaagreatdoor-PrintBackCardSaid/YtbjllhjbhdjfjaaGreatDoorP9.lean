/- print: definitions' texts, files': the document's. -/
import Derived.Test.YtbjllhjbhdjfjaaGreatDoorP8
import Derived.Test.YtbjllhjbhdjfjaaGreatDoorP7
import Derived.Test.YtbjllhjbhdjfjaaGreatDoorP4
import Derived.KernelRfl
import Derived.Test.YtbjllhjbhdjfjaaGreatDoorP6
set_option linter.unusedVariables false
set_option linter.unusedSimpArgs false
set_option linter.unusedSectionVars false
namespace Go.Dn.Dec
open Go.IntKind (i64 u64 u8 u16 i32 u32)
open Go.Proofs
open Tryz (prog)
theorem VY{f:Task->Option Out}{l:List D}{i w j:Nat}{x:D}{s:aE}(h:l[i]?=some x)(hw:x.width=w)(hj:x.cells[j]?=some (.s s)){K:aE->Tr}:
  aD f (ob (bW l (i:Int)) λ d=>aO (d.width==w) (ob l[((i:Int)).toNat]? λ d2=>ob d2.cells[j]? λ d3=>fJ d3 K))=aD f (K s):=by
 subst hw;rw[ct,bz h,abq,aQ,abe,bz h,bz hj];rfl
theorem abc{f:Task->Option Out}{l:List D}{i w j:Nat}{x:D}{s:Bool}(h:l[i]?=some x)(hw:x.width=w)(hj:x.cells[j]?=some (.b s)){K:Bool->Tr}:
  aD f (ob (bW l (i:Int)) λ d=>aO (d.width==w) (ob l[((i:Int)).toNat]? λ d2=>ob d2.cells[j]? λ d3=>jz d3 K))=aD f (K s):=by
 subst hw;rw[ct,bz h,abq,aQ,abe,bz h,bz hj];rfl
theorem uV{f:Task->Option Out}{l:List D}{i w j:Nat}{x:D}{q:IntKind}{s:Int}(h:l[i]?=some x)(hw:x.width=w)(hj:x.cells[j]?=some (.i q s)){K:Int->Tr}:
  aD f (ob (bW l (i:Int)) λ d=>aO (d.width==w) (ob l[((i:Int)).toNat]? λ d2=>ob d2.cells[j]? λ d3=>cf q d3 K))=aD f (K s):=by
 subst hw;rw[ct,bz h,abq,aQ,abe,bz h,bz hj];show aD f (cf q (.i q s) K)=_;rw[bO,aaR rfl]
abbrev dO(kd:Int)(nm ty:aE)(ck cn cu:Int)(cs:aE)(cb:Bool)(cl:List D)(fb:Bool)(fl:List D)(mb:Bool)(ml:List D)(ex:aE)(tb:Bool)(tl:List D):Ob:=
 Ob.cells (dp nm ty cs ex kd ck cn cu cb fb mb tb cl fl ml tl) []
section
variable (kd : Int) (nm ty : aE) (ck cn cu : Int) (cs : aE) (cb : Bool) (cl : List D) (fb : Bool) (fl : List D) (mb : Bool) (ml : List D) (ex : aE) (tb : Bool) (tl : List D)
theorem FG(h:∀y∈tl,zP y)(hl:tl.length<=100):∀(r p:List D) (a:aE),p++r=tl->(a++(r.map iU).flatten).length<=900000000->
  RY (K4 a (p.length:Int) [dO kd nm ty ck cn cu cs cb cl fb fl mb ml ex tb tl])=
   some (.d (.s (a++(r.map iU).flatten++[125,10])),[])
 | [],p,a,e,ha=>by
  rw[abo]at e;subst e;simp only[List.map_nil,List.flatten_nil,abo]at ha⊢;rw[RY,zi,bB,aN];rfl
 |x::r,p,a,e,ha=>by
  have hlen:tl.length=p.length+(r.length+1):=by rw[<-e];simp
  have w1:=ca p.length;have hx:x∈tl:=by rw[<-e];simp
  have g:tl[p.length]?=some x:=by rw[<-e];simp
  simp only[List.map_cons,List.flatten_cons,aaS]at ha;have hc:=NG x (h x hx) (by omega);have hwd:=h x hx;have ih:=FG h hl r (p++[x]) (a++iU x) (by rw[<-e];simp) (by simp only[aaS];omega);rw[show (p++[x]).length=p.length+1 by simp]at ih;rw[RY,zi,bC];have hw5:x.width=5:=by obtain⟨_,_,_,_,_,_,_,rfl,_⟩:=hwd;rfl
  refine(j0 g hw5).trans ?_;obtain⟨nm',ow',ret',ab',al',tb',tl',rfl,_⟩:=hwd;refine(gG hc).trans ?_;rw[aN,w1];refine(aM ih).trans ?_;simp only[List.map_cons,List.flatten_cons,abg]
theorem FF(ht:∀y∈tl,zP y)(htl:tl.length<=100)(h:∀y∈fl,WF y)(hl:fl.length<=100):∀(r p:List D) (a:aE),p++r=fl->(a++(r.map rT).flatten++(tl.map iU).flatten).length<=900000000->
  RY (K3 a (p.length:Int) [dO kd nm ty ck cn cu cs cb cl fb fl mb ml ex tb tl])=
   some (.d (.s (a++(r.map rT).flatten++(tl.map iU).flatten++[125,10])),[])
 | [],p,a,e,ha=>by
  rw[abo]at e;subst e;simp only[List.map_nil,List.flatten_nil,abo]at ha⊢;rw[RY,zh,bB];exact aM (FG kd nm ty ck cn cu cs cb cl fb p mb ml ex tb tl ht htl tl [] a rfl ha)
 |x::r,p,a,e,ha=>by
  have hlen:fl.length=p.length+(r.length+1):=by rw[<-e];simp
  have w1:=ca p.length;have hx:x∈fl:=by rw[<-e];simp
  have g:fl[p.length]?=some x:=by rw[<-e];simp
  simp only[List.map_cons,List.flatten_cons,aaS,rT]at ha;have hc:=FK x (h x hx) (by omega);have hwd:=h x hx;have ih:=FF ht htl h hl r (p++[x]) (a++rT x) (by rw[<-e];simp) (by simp only[aaS,rT];omega);rw[show (p++[x]).length=p.length+1 by simp]at ih;rw[RY,zh,bC,aN];refine(j0 g (tS hwd)).trans ?_;obtain⟨h',id',r',t',nm',hi',k',n',u',s',bb',l',rfl,_⟩:=hwd;refine(gG hc).trans ?_;rw[aN (by simp;omega),aN (by simp;omega),w1,show ∀z:aE,a++[32,32]++z++[44,10]=a++([32,32]++z++[44,10]) by intro z;simp];refine(aM ih).trans ?_;simp only[List.map_cons,List.flatten_cons,abg]
theorem FE(ht:∀y∈tl,zP y)(htl:tl.length<=100)(hf:∀y∈fl,WF y)(hfl:fl.length<=100)(h:∀y∈ml,WM y)(hl:ml.length<=100):∀(r p:List D) (a:aE),p++r=ml->(a++(r.map te).flatten++(fl.map rT).flatten++(tl.map iU).flatten).length<=900000000->
  RY (K2 a (p.length:Int) [dO kd nm ty ck cn cu cs cb cl fb fl mb ml ex tb tl])=
   some (.d (.s (a++(r.map te).flatten++(fl.map rT).flatten++(tl.map iU).flatten++[125,10])),[])
 | [],p,a,e,ha=>by
  rw[abo]at e;subst e;simp only[List.map_nil,List.flatten_nil,abo]at ha⊢;rw[RY,zg,bB];exact aM (FF kd nm ty ck cn cu cs cb cl fb fl mb p ex tb tl ht htl hf hfl fl [] a rfl ha)
 |x::r,p,a,e,ha=>by
  have hlen:ml.length=p.length+(r.length+1):=by rw[<-e];simp
  have w1:=ca p.length;have hx:x∈ml:=by rw[<-e];simp
  have g:ml[p.length]?=some x:=by rw[<-e];simp
  have hwd:=h x hx;have ih:=FE ht htl hf hfl h hl r (p++[x]) (a++te x) (by rw[<-e];simp) (by simp only[List.map_cons,List.flatten_cons,aaS]at ha⊢;omega);rw[show (p++[x]).length=p.length+1 by simp]at ih;obtain⟨nm',h',n',rfl,h1,h2⟩:=hwd;have hb:=j7 h2;simp only[List.map_cons,List.flatten_cons,aaS,te]at ha;have step:∀acc:aE,acc.length<=1000000000->acc++[44,10]=a++te (mD nm' h' n')->
    RY (KT acc (p.length:Int) [dO kd nm ty ck cn cu cs cb cl fb fl mb ml ex tb tl])=
     some (.d (.s (a++((mD nm' h' n'::r).map te).flatten++(fl.map rT).flatten++(tl.map iU).flatten++[125,10])),[]):=by
   intro acc hacc hq;rw[RY,Dm,aN,hq,w1];refine(aM ih).trans ?_;simp only[List.map_cons,List.flatten_cons,abg]
  rw[RY,zg,bC,aN,VY (w:=3) (j:=0) (s:=nm') g rfl rfl,aN (by simp;omega),abc (w:=3) (j:=1) (s:=h') g rfl rfl]
  cases h' with
  |true=>
   rw[bQ,aN (by simp;omega),uV (w:=3) (j:=2) (s:=n') g rfl rfl,gG (X3 n' h2),aN (by simp;omega)];refine aM (step _ (by simp;omega) ?_);simp[te,abg]
  |false=>
   rw[bH];refine aM (step _ (by simp;omega) ?_);simp[te,abg]
end
def Yo(ex:aE):aE:=if ex=[]then []else [32,101,120,116,101,110,100,115,32]++ex
theorem XW:OH 31 WD nr:=by
 intro x hx hl;obtain⟨kd,nm,ty,ck,cn,cu,cs,cb,cl,fb,fl,mb,ml,ex,tb,tl,rfl,k1,k7,hnm,hty,hk3,hwc,hfl,hf,hml,hm,hex,htl,ht,n2,n4,n7⟩:=hx;obtain⟨k,rfl⟩:∃k:Nat,kd=(k:Int):=⟨kd.toNat,by omega⟩
 have hwd:∃w:aE,([D.s [],D.s [116,121,112,101,100,101,102,32],D.s [101,110,117,109,32],D.s [99,111,110,115,116,32],D.s [115,116,114,117,99,116,32],D.s [117,110,105,111,110,32],D.s [101,120,99,101,112,116,105,111,110,32],D.s [115,101,114,118,105,99,101,32]]:List D)[k]?=some (.s w)/\w.length<=10/\
   (k=1->w=[116,121,112,101,100,101,102,32])/\(k=3->w=[99,111,110,115,116,32])/\(k=2->w=[101,110,117,109,32])/\(k=7->w=[115,101,114,118,105,99,101,32])/\(4<=k/\k<=6->w=CE k):=by
  have hk:k<8:=by omega
  rcases k with _|_|_|_|_|_|_|_|k
  all_goals first
   |(refine⟨_,rfl,?_,?_,?_,?_,?_,?_⟩<;>simp[CE];done)
   |omega
 obtain⟨w,gw,hw10,e1,e3,e2,e7,Hf⟩:=hwd;rw[RY,y31,qi gw];have gen:∀acc:aE,(acc++[32,123,10]++(ml.map te).flatten++(fl.map rT).flatten++(tl.map iU).flatten).length<=900000000->
   RY (LB acc [dO k nm ty ck cn cu cs cb cl fb fl mb ml ex tb tl])=
    some (.d (.s (acc++[32,123,10]++(ml.map te).flatten++(fl.map rT).flatten++(tl.map iU).flatten++[125,10])),[]):=by
  intro acc hacc;have hacc':=hacc;simp only[aaS]at hacc';rw[RY,OA,aN];exact aM (FE k nm ty ck cn cu cs cb cl fb fl mb ml ex tb tl ht htl hf hfl hm hml ml [] _ rfl hacc)
 simp only[nr]at hl⊢;by_cases c1:(k:Int)=1
 ·have:=e1 (by omega);subst this
  rw[bM c1,aaR c1,aN (by simp;omega),aN (by simp;omega),aN (by simp;omega),aN (by simp;omega)];rfl
 by_cases c3:(k:Int)=3
 ·have:=e3 (by omega);subst this
  rw[aaN c1,aaR c3]at hl;rw[bp c1,bM c3,aaN c1,aaR c3,aN (by simp;omega),aN (by simp;omega),aN (by simp;omega),aN (by simp;omega)];have hcl:(eB (cD ck cn cu cs cb cl)).length<=900000000:=by simp only[cD,aaS]at hl⊢;omega
  refine(gG (tp qS _ hwc (hk3 (by omega)) hcl)).trans ?_;rw[aN (by simp;omega),aN (by simp;omega)];rfl
 rw[bp c1,bp c3,aaN c1,aaN c3,aN];rw[aaN c1,aaN c3]at hl;by_cases c2:(k:Int)=2
 ·obtain⟨rfl,rfl,rfl⟩:=n2 c2;have:=e2 (by omega);subst this;rw[aaR c2]at hl⊢;have hg:=gen ([101,110,117,109,32]++nm) (by simp only[aaS,List.map_nil,List.flatten_nil,abo]at hl⊢;omega);simp only[List.map_nil,List.flatten_nil,abo]at hg;rw[show (!([]:aE)==[])=false from rfl,bH];exact aM hg
 rw[aaN c2]at hl⊢;by_cases c7:(k:Int)=7
 ·obtain⟨rfl,rfl⟩:=n7 c7;have:=e7 (by omega);subst this;rw[aaR c7]at hl⊢;by_cases hx:ex=[]
  ·subst hx;rw[aaR rfl]at hl⊢;simp only[abo]at hl⊢;have hg:=gen ([115,101,114,118,105,99,101,32]++nm) (by simp only[aaS,List.map_nil,List.flatten_nil,abo]at hl⊢;omega);simp only[List.map_nil,List.flatten_nil,abo]at hg;rw[show (!([]:aE)==[])=false from rfl,bH];exact aM hg
  ·rw[aaN hx]at hl⊢;have hg:=gen ([115,101,114,118,105,99,101,32]++nm++[32,101,120,116,101,110,100,115,32]++ex) (by simp only[aaS,List.map_nil,List.flatten_nil,abo]at hl⊢;omega);simp only[List.map_nil,List.flatten_nil,abo]at hg;rw[eH (by simpa using hx),aN (by simp;omega),aN (by simp;omega)];refine(aM hg).trans ?_;simp only[abg]
 ·obtain⟨rfl,rfl,rfl⟩:=n4 (by omega)
  have:=Hf (by omega);subst this;rw[aaN c7]at hl⊢;have hg:=gen (CE k++nm) (by simp only[aaS,List.map_nil,List.flatten_nil,abo]at hl⊢;omega);simp only[List.map_nil,List.flatten_nil,abo]at hg;rw[show (!([]:aE)==[])=false from rfl,bH];exact aM hg
section
variable (ib : Bool) (il : List D) (sb : Bool) (sl : List D) (db : Bool) (dl : List D)
abbrev MK(ib:Bool)(il:List D)(sb:Bool)(sl:List D)(db:Bool)(dl:List D):Ob:=Ob.cells (fI ib sb db il sl dl) []
theorem FL(h:∀y∈dl,WD y)(hl:dl.length<=100):∀(r p:List D) (a:aE),p++r=dl->(a++(r.map nr).flatten).length<=900000000->
  RY (K8 a (p.length:Int) [MK ib il sb sl db dl])=some (.d (.s (a++(r.map nr).flatten)),[])
 | [],p,a,e,ha=>by
  rw[abo]at e;subst e;simp only[List.map_nil,List.flatten_nil,abo]at ha⊢;rw[RY,BR,bB];rfl
 |x::r,p,a,e,ha=>by
  have hlen:dl.length=p.length+(r.length+1):=by rw[<-e];simp
  have w1:=ca p.length;have hx:x∈dl:=by rw[<-e];simp
  have g:dl[p.length]?=some x:=by rw[<-e];simp
  simp only[List.map_cons,List.flatten_cons,aaS]at ha;have hc:=XW x (h x hx) (by omega);have hwd:=h x hx;have ih:=FL h hl r (p++[x]) (a++nr x) (by rw[<-e];simp) (by simp only[aaS];omega);rw[show (p++[x]).length=p.length+1 by simp]at ih;have hw12:x.width=12:=by obtain⟨_,_,_,_,_,_,_,_,_,_,_,_,_,_,_,_,rfl,_⟩:=hwd;rfl
  rw[RY,BR,bC];refine(j0 g hw12).trans ?_;obtain⟨_,_,_,_,_,_,_,_,_,_,_,_,_,_,_,_,rfl,_⟩:=hwd;refine(gG hc).trans ?_;rw[aN,w1];refine(aM ih).trans ?_;simp only[List.map_cons,List.flatten_cons,abg]
theorem Kf(hd:∀y∈dl,WD y)(hdl:dl.length<=100)(h:∀y∈sl,WS y)(hl:sl.length<=100):∀(r p:List D) (a:aE),p++r=sl->(a++(r.map vH).flatten++(dl.map nr).flatten).length<=900000000->
  RY (Lb a (p.length:Int) [MK ib il sb sl db dl])=some (.d (.s (a++(r.map vH).flatten++(dl.map nr).flatten)),[])
 | [],p,a,e,ha=>by
  rw[abo]at e;subst e;simp only[List.map_nil,List.flatten_nil,abo]at ha⊢;rw[RY,GA,bB];exact aM (FL ib il sb p db dl hd hdl dl [] a rfl ha)
 |x::r,p,a,e,ha=>by
  have hlen:sl.length=p.length+(r.length+1):=by rw[<-e];simp
  have w1:=ca p.length;have hx:x∈sl:=by rw[<-e];simp
  have g:sl[p.length]?=some x:=by rw[<-e];simp
  obtain⟨s1,s2,rfl,h1,h2⟩:=h x hx;simp only[List.map_cons,List.flatten_cons,aaS,vH]at ha;have ih:=Kf hd hdl h hl r (p++[C6 s1 s2]) (a++vH (C6 s1 s2)) (by rw[<-e];simp) (by simp only[aaS,vH];omega);rw[show (p++[C6 s1 s2]).length=p.length+1 by simp]at ih;rw[RY,GA,bC,aN,VY (w:=2) (j:=0) (s:=s1) g rfl rfl,aN (by simp;omega),aN (by simp;omega),VY (w:=2) (j:=1) (s:=s2) g rfl rfl,aN (by simp;omega),aN (by simp;omega),w1];rw[show a++[110,97,109,101,115,112,97,99,101,32]++s1++[32]++s2++[10]=a++vH (C6 s1 s2) by simp[vH,abg]];refine(aM ih).trans ?_;simp only[List.map_cons,List.flatten_cons,abg]
theorem Ke(hd:∀y∈dl,WD y)(hdl:dl.length<=100)(hs:∀y∈sl,WS y)(hsl:sl.length<=100)(h:∀y∈il,WI y)(hl:il.length<=100):∀(r p:List D) (a:aE),p++r=il->(a++(r.map zm).flatten++(sl.map vH).flatten++(dl.map nr).flatten).length<=900000000->
  RY (La a (p.length:Int) [MK ib il sb sl db dl])=some (.d (.s (a++(r.map zm).flatten++(sl.map vH).flatten++(dl.map nr).flatten)),[])
 | [],p,a,e,ha=>by
  rw[abo]at e;subst e;simp only[List.map_nil,List.flatten_nil,abo]at ha⊢;rw[RY,Gz,bB];exact aM (Kf ib p sb sl db dl hd hdl hs hsl sl [] a rfl ha)
 |x::r,p,a,e,ha=>by
  have hlen:il.length=p.length+(r.length+1):=by rw[<-e];simp
  have w1:=ca p.length;have hx:x∈il:=by rw[<-e];simp
  have g:il[p.length]?=some x:=by rw[<-e];simp
  obtain⟨s1,rfl,h1,h2⟩:=h x hx;simp only[List.map_cons,List.flatten_cons,aaS,zm]at ha;have ih:=Ke hd hdl hs hsl h hl r (p++[D.s s1]) (a++zm (D.s s1)) (by rw[<-e];simp) (by simp only[aaS,zm];omega);rw[show (p++[D.s s1]).length=p.length+1 by simp]at ih;rw[RY,Gz,bC,aN,VY (w:=1) (j:=0) (s:=s1) g rfl rfl,aN (by simp;omega),aN (by simp;omega),w1];rw[show a++[105,110,99,108,117,100,101,32,34]++s1++[34,10]=a++zm (D.s s1) by simp[zm,abg]];refine(aM ih).trans ?_;simp only[List.map_cons,List.flatten_cons,abg]
end
theorem UU:OH 13 Tv mN:=by intro x hx hl;obtain⟨ib,il,sb,sl,db,dl,rfl,h1,h2,h3,h4,h5,h6⟩:=hx;simp only[mN]at hl⊢;rw[RY,y13];have:=Ke ib il sb sl db dl h6 h3 h5 h2 h4 h1 il [] [] rfl (by simpa using hl);exact aM this
set_option exponentiation.threshold 5000000
theorem Jk(x y:Nat):decide (gB x y ≥ 0) = !decide (x<y):=by
 unfold gB;by_cases h:x<y
 ·simp[h]
 ·by_cases h2:y<x<;>simp[h,h2]
theorem Dy(b c:Bool)(x y:Nat)(hx:qk x)(hy:qk y)(n:Int)(h1:-700<=n)(h2:n<=700):
  rk prog aK (.call 104 (Tz n b c (ws x) (ws y)) [])=some (.d (.b (!dC x y n)),[]):=by
 rw[f42];unfold dC;by_cases h:n<0
 ·have hw:i64.wrap (0-n)=((-n).toNat:Int):=bD;have ht:=qB (-n).toNat (by omega);have hm:=oC b (tb (-n).toNat) x (10^(-n).toNat) hx.iN.fits (hO (fH (by omega))).fits;have hc:=tn (nb (x*10^(-n).toNat)) c (x*10^(-n).toNat) y (hx.mul (by omega)).fits hy.iN.fits;rw[bB,hw,eR ht,eR hm,gF hc,aG,Jk,aaR h]
 ·have hw:n=(n.toNat:Int):=by omega
  have ht:=qB n.toNat (by omega);rw[<-hw]at ht;have hm:=oC c (tb n.toNat) y (10^n.toNat) hy.iN.fits (hO (fH (by omega))).fits;have hc:=tn b (nb (y*10^n.toNat)) x (y*10^n.toNat) hx.iN.fits (hy.mul (by omega)).fits;rw[bC,eR ht,eR hm,gF hc,aG,Jk,aaN h]
theorem wS{x y:Nat}{n m:Int}(h:n<=m)(hb:dC x y n=true):dC x y m=true:=by rw[ky x y m n (m-n).toNat (by omega)];rw[zT]at hb;have h1:=of_decide_eq_true hb;exact aa3 (abL h1 (Nat.le_mul_of_pos_right _ (abt (by decide))))
theorem NO(x y:Nat)(hx0:0<x)(hx:qk x)(hy:qk y):dC x y ((((bJ x:Int)-bJ y)*30103).tdiv 100000-2)=false:=by
 have lx:=hx.bJ;have ly:=hy.bJ;have bx:=ql x (by omega);have by_:=og y;have px:=mW (n:=x) (by omega);rcases Int.le_total 0 ((bJ x:Int)-bJ y)with h|h
 ·obtain⟨d,hd⟩:∃d:Nat,(bJ x:Int)-bJ y=d:=⟨((bJ x:Int)-bJ y).toNat,by omega⟩
  rw[hd];have e:((d:Int)*30103).tdiv 100000=((d*30103 / 100000:Nat):Int):=fV (d*30103) 100000;have hc:=abu.1 O2 d (List.mem_range.2 (by omega));rw[decide_eq_true_eq]at hc;rw[e];generalize d*30103 / 100000=t at hc;have e2:2^bJ y*2^d=2*2^(bJ x-1):=by rw[<-abC,abD 2,<-abx];congr 1;omega
  have h3:y*2^d<2*x:=by have:=abO by_ (show 0<2^d from abt (by decide));omega
  have h4:y*(10^t*2)<=y*(2^d*100):=Nat.mul_le_mul_left _ hc;have h5:y*(2^d*100)=y*2^d*100:=by rw[abm]
  have h6:y*(10^t*2)=y*10^t*2:=by rw[abm]
  unfold dC;by_cases ht:(t:Int)-2<0
  ·rw[aaR ht];have e3:100=10^(-((t:Int)-2)).toNat*10^t:=by rw[<-abC,show (-((t:Int)-2)).toNat+t=2 by omega]
   have e4:x*10^(-((t:Int)-2)).toNat*10^t=x*100:=by rw[abm,<-e3]
   refine abf (λ hlt=>?_);have:=abO hlt (show 0<10^t from abt (by decide));omega
  ·rw[aaN ht,show ((t:Int)-2).toNat=t-2 by omega]
   have e3:10^t=10^(t-2)*100:=by rw[show (100:Nat)=10^2 from rfl,<-abC];congr 1;omega
   have e4:y*10^t=y*10^(t-2)*100:=by rw[e3,abm]
   exact abf (by omega)
 ·obtain⟨d,hd⟩:∃d:Nat,(bJ x:Int)-bJ y = -(d:Int):=⟨((bJ y:Int)-bJ x).toNat,by omega⟩
  rw[hd];have e:(-(d:Int)*30103).tdiv 100000-2 = -((d*30103 / 100000+2:Nat):Int):=by have:((d:Int)*30103).tdiv 100000=((d*30103 / 100000:Nat):Int):=fV (d*30103) 100000;rw[Int.neg_mul,Int.neg_tdiv,this];omega
  have hc:=abu.1 O3 d (List.mem_range.2 (by omega));rw[decide_eq_true_eq]at hc;rw[e];unfold dC;rw[aaR (by omega),show (- -((d*30103 / 100000+2:Nat):Int)).toNat=d*30103 / 100000+2 by omega];generalize d*30103 / 100000+2=t at hc;have e2:2^(bJ x-1)*2^(d+1)=2^bJ y:=by rw[<-abC];congr 1;omega
  have h3:=Nat.mul_le_mul bx hc;exact abf (by omega)
theorem Iz(x y:Nat)(hx0:0<x)(hy0:0<y)(hx:qk x)(hy:qk y):∃(n:Int) (q:Nat),dC x y n=false/\dC x y (n+1)=true/\-400<=n/\n<=350/\cI x y (n-16)=q/\10^16<=q/\q<=10^17/\
  ∀sg,p7 sg x y=if q=10^17 then lL sg (cB (10^16)) (n+1)else lL sg (cB q) n:=by
 obtain⟨n,hn,b1,b2,n1,n2⟩:=rr x y hx0 hy0 hx hy;refine⟨n,cI x y (n-16),b1,b2,n1,n2,rfl,?_⟩;rw[ky x y n (n-16) 16 (by omega)]at b1;rw[ky x y (n+1) (n-16) 17 (by omega)]at b2;have c1:10^16*(y*mT (n-16))<=x*me (n-16):=by have:=of_decide_eq_false b1;rw[abD];omega
 have c2:x*me (n-16)<10^17*(y*mT (n-16)):=by have:=of_decide_eq_true b2;rw[abD (10^17)];exact this
 have hB:0<y*mT (n-16):=Nat.mul_pos hy0 (qF _);have hq:=lQ x y (n-16);obtain⟨q1,q2,q3,q4⟩:=tC hB hq.symm c1 c2;have sh:=y7 (n+1-16) (n-16) 1 (by omega);have hnext:cI x y (n-16)=10^17->cI x y (n+1-16)=10^16:=by
  intro hqe;rw[lQ];refine yC (A:=x*me (n-16)) (B:=y*mT (n-16)) (s:=me (n-16)) (s':=me (n+1-16)) (Nat.mul_pos hy0 (qF _)) (ku _) (ku _) (Nat.mul_right_comm _ _ _) ?_ ?_ c2
  ·rw[abm y,sh];generalize mT (n-16)=a;generalize me (n+1-16)=b;rw[Nat.pow_one,abm y a 10,abm y,Nat.mul_right_comm a 10 b,abD 10 (a*b)]
  ·rw[hqe]at q3;exact q3
 refine⟨q1,q2,λ sg=>?_⟩;unfold p7;simp only[hn];generalize cI x y (n-16)=q at *;have ht:fK q=cB q:=by unfold fK;rw[abF (by omega)]
 rw[ht];by_cases h17:q=10^17
 ·rw[aaR h17,aaR (by rw[ik 17 q (by omega) (by omega)];decide),hnext h17]
  rfl
 ·rw[aaN h17,aaN (by rw[ik 16 q q1 (by omega)];decide)]
def vK(t:aE):aE:=if trimRightB 48 t=[]then [48]else trimRightB 48 t
theorem Ol(t:aE):trimRightB 48 (t++[48])=trimRightB 48 t:=by unfold trimRightB;rw[List.reverse_append];rfl
theorem BH(t:aE){c:UInt8}(h:c≠48):trimRightB 48 (t++[c])=t++[c]:=by unfold trimRightB;rw[List.reverse_append,List.reverse_singleton,List.singleton_append,List.dropWhile_cons,aaN (by simpa using h)];simp
def XY(sg:aE)(n:Int)(text tail:aE):Task:=
 VP sg text tail n []
theorem Ga(sg text tail:aE)(n:Int)(h1:sg.length<=100)(h2:1<=text.length)(h3:text.length<=100)(h4:tail.length<=100)(n1:-1000<=n)(n2:n<=1000):
  rk prog aK (.at_ 48 0 (aJ 102760447)
    (sv 147 [(3,vs sg),(8,vi n),(15,vs text),(16,vs tail),(130,vb false)]) [] [])=some (.d (.s (sg++text.take 1++[46]++tail++[101]++cU n)),[]):=by
 have ht:=Ws n (by omega) (by omega);have hd:=lC (n:=n) (by omega) (by omega);rw[oG,bH,List.drop_zero,aN,aN (by rw[List.length_take];omega),aN (by simp;omega),aN (by simp;omega),aN (by simp;omega),gG ht,aN (by simp;omega),aG]
theorem BD(sg text:aE)(n:Int)(h1:sg.length<=100)(h2:1<=text.length)(h3:text.length<=100)(n1:-1000<=n)(n2:n<=1000):∀(k:Nat) (tail:aE),tail.length=k+1->k<=90->
  rk prog aK (XY sg n text tail)=some (.d (.s (sg++text.take 1++[46]++vK tail++[101]++cU n)),[])
 |0,tail,hl,_=>by
  obtain⟨c,rfl⟩:∃c,tail=[c]:=by
   match tail,hl with
   | [c],_=>exact⟨c,rfl⟩
  unfold XY;rw[ps,bB (by simp),aA,Ga sg text [c] n h1 h2 h3 (by simp) n1 n2];have:vK [c]=[c]:=by
   unfold vK;by_cases hc:c=48
   ·subst hc;rfl
   ·have:=BH [] hc;rw[List.nil_append]at this;rw[this,aaN (by simp)]
  rw[this]
 |k+1,tail,hl,hk=>by
  rcases List.eq_nil_or_concat tail with h|⟨init,c,h⟩
  ·rw[h]at hl;simp at hl
  ·have h:tail=init++[c]:=by simpa using h
   subst h;have li:init.length=k+1:=by simp at hl;omega
   have hw:i64.wrap ((((init++[c]).length:Nat):Int)-1)=(init.length:Int):=by rw[aaS,List.length_singleton,wrap_i64]<;>omega
   have hg:bW (init++[c]) (init.length:Int)=some c:=by rw[ct];simp
   unfold XY;rw[ps,bC (by rw[hl];omega),hw,bz hg,aA,show ((c.toNat:Int)==48)=decide (c=48)from y4 c 48];by_cases hc:c=48
   ·have ih:=BD sg text n h1 h2 h3 n1 n2 k init li (by omega)
    have ht:List.take ((init.length:Int).toNat-0) (List.drop 0 (init++[c]))=init:=by simp
    have hr:vK (init++[c])=vK init:=by unfold vK;rw[hc,Ol]
    rw[aa3 hc,oG,bQ,hw,aN (by rw[hl];omega),ht,aA,hr];exact ih
   ·have hr:vK (init++[c])=init++[c]:=by unfold vK;rw[BH init hc,aaN (by simp)]
    rw[abf hc,Ga sg text _ n h1 h2 h3 (by rw[hl];omega) n1 n2,hr]
theorem Js(sg:aE)(d:Nat)(n:Int)(h1:sg.length<=100)(d1:10^16<=d)(d2:d<10^17)(n1:-1000<=n)(n2:n<=1000):
  rk prog aK (Gk sg n (d:Int) [])=some (.d (.s (lL sg (cB d) n)),[]):=by
 have hl:=ik 16 d d1 d2;have hp:=IL d (by omega);have e:List.take ((cB d).length-1) (List.drop 1 (cB d))=(cB d).drop 1:=by rw[abS];simp
 have hL:=BD sg (cB d) n h1 (by omega) (by omega) n1 n2 15 ((cB d).drop 1) (by rw[abB,hl]) (by decide);rw[zz,gG hp,aN,e,aA];exact hL
theorem DS(sg:aE)(hsg:sg.length<=100)(A B q:Nat)(n:Int)(hqn:ek A B=q)(q1:10^16<=q)(q2:q<=10^17)(hA:Fits (A / B))(n1:-400<=n)(n2:n<=350)(bb:Bool)(hbb:bb=true↔(B<2*(A%B)\/(2*(A%B)=B/\A / B%2=1))):
  rk prog aK (SL sg n (nb (A / B)) bb (ws (A / B)) [])=
   some (.d (.s (if q=10^17 then lL sg (cB (10^16)) (n+1)else lL sg (cB q) n)),[]):=by
 have o1:rk prog aK (.call 101 [vu 1] [])=_:=yn 1 (by decide);have hm:q%18446744073709551616=q:=abF (by omega);have w1:i64.wrap (n+1)=n+1:=bD;have e1:(q:Int).tdiv 10=((q / 10:Nat):Int):=fV q 10;have w2:u64.wrap ((q / 10:Nat):Int)=((q / 10:Nat):Int):=by rw[aY];omega
 have last:∀X:Tr,X=(aV ((q:Int)==100000000000000000)
   (aR (Gk sg (i64.wrap (n+1)) (u64.wrap ((q:Int).tdiv 10)) []))
   (aR (Gk sg n (q:Int) [])))->
   aD (rk prog aK) X=some (.d (.s (if q=10^17 then lL sg (cB (10^16)) (n+1)else lL sg (cB q) n)),[]):=by
  intro X hX;rw[hX,w1,e1,w2];by_cases h:q=10^17
  ·rw[bM,aA,aaR h,show q / 10=10^16 by omega]
   exact Js sg (10^16) (n+1) hsg (aa4 _) (by decide) (by omega) (by omega)
  ·rw[bp,aA,aaN h];exact Js sg q n hsg q1 (by omega) (by omega) (by omega)
 rw[Cl];unfold ek at hqn
 cases bb with
 |true=>
  rw[aaR (hbb.1 rfl)]at hqn;have ha:=ox (nb (A / B)) (nb 1) (A / B) 1 hA Cp;rw[hqn]at ha;have hl:=tv (nb q) q;rw[hm]at hl;rw[bQ,eR o1,eR ha,gF hl];exact last _ rfl
 |false=>
  rw[aaN (λ h=>absurd (hbb.2 h) (by decide))]at hqn;have hl:=tv (nb q) q;rw[hm]at hl;rw[hqn,bH,gF hl];exact last _ rfl
theorem DR(sg:aE)(hsg:sg.length<=100)(b c:Bool)(A B q:Nat)(n:Int)(hA:Fits A)(hB2:Fits (B*2))(hB0:0<B)(hqn:ek A B=q)(q1:10^16<=q)(q2:q<=10^17)(n1:-400<=n)(n2:n<=350):
  rk prog aK (KE sg n b c (ws A) (ws B) [])=
   some (.d (.s (if q=10^17 then lL sg (cB (10^16)) (n+1)else lL sg (cB q) n)),[]):=by
 have hd:=Kc b c A B hA hB2 hB0;have hrl:A%B<B:=abz _ hB0;have fB:Fits B:=hB2.le (by omega);have fq:Fits (A / B):=hA.le (Nat.div_le_self _ _);have fr:Fits (A%B):=hB2.le (by omega);have frr:Fits (A%B+A%B):=hB2.le (by omega);have ha:=ox (nb (A%B)) (nb (A%B)) (A%B) (A%B) fr fr;have hc:=tn (nb (A%B+A%B)) c (A%B+A%B) B frr fB;have tail:=DS sg hsg A B q n hqn q1 q2 fq n1 n2;have hle:A / B<=q:=by rw[<-hqn];unfold ek;split<;>omega
 have hl:=tv (nb (A / B)) (A / B);rw[abF (show A / B<18446744073709551616 by omega)]at hl;have e2:((A / B:Nat):Int).tmod 2=((A / B%2:Nat):Int):=kM (A / B) 2;rw[Eb,Ri hd,eR ha,gF hc];unfold gB;by_cases h1:A%B+A%B<B
 ·rw[aaR h1,bB (by decide),bp (by decide),aA]
  exact tail false ⟨λ h=>absurd h (by decide),λ h=>by omega⟩
 ·rw[aaN h1];by_cases h2:B<A%B+A%B
  ·rw[aaR h2,bC (by decide),aA]
   exact tail true ⟨λ _=>by omega,λ _=>rfl⟩
  ·rw[aaN h2,bB (by decide),bM rfl,gF hl,aA,e2]
   refine tail _ ?_;rw[beq_iff_eq];constructor
   ·intro h;omega
   ·intro h;omega
theorem yr(sg:aE)(hsg:sg.length<=100)(x y:Nat)(hx0:0<x)(hy0:0<y)(hx:qk x)(hy:qk y)(n:Int)(q:Nat)(b1:dC x y n=false)(b2:dC x y (n+1)=true)(n1:-400<=n)(n2:n<=350)(hq:cI x y (n-16)=q)(q1:10^16<=q)(q2:q<=10^17):∀(k:Nat) (b c:Bool),-600<=n-(k:Int)->
  rk prog aK (KD sg (n-(k:Int)) b c (ws x) (ws y) [])=
   some (.d (.s (if q=10^17 then lL sg (cB (10^16)) (n+1)else lL sg (cB q) n)),[])
 |k+1,b,c,hk=>by
  have w:i64.wrap (n-((k+1:Nat):Int)+1)=n-(k:Int):=bD;have hb:dC x y (n-(k:Int))=false:=by
   cases h:dC x y (n-(k:Int)) with
   |false=>rfl
   |true=>
    have:=wS (show n-(k:Int)<=n by omega) h;rw[b1]at this;cases this
  have ha:=Dy b c x y hx hy (n-(k:Int)) (by omega) (by omega);rw[hb]at ha;rw[vg,w,gJ ha,Bool.not_false,bQ,aA];exact yr sg hsg x y hx0 hy0 hx hy n q b1 b2 n1 n2 hq q1 q2 k b c (by omega)
 |0,b,c,hk=>by
  have e0:n-((0:Nat):Int)=n:=by omega
  have w:i64.wrap (n+1)=n+1:=bD;have w1:i64.wrap (16-n)=16-n:=bD;have ha:=Dy b c x y hx hy (n+1) (by omega) (by omega);rw[b2]at ha;rw[lQ]at hq;rw[e0,vg,w,w1,gJ ha,Bool.not_true,bH];by_cases h:16-n ≥ 0
  ·have ht:=qB (16-n).toNat (by omega)
   rw[show (((16-n).toNat:Nat):Int)=16-n by omega]at ht;have hm:=oC b (tb (16-n).toNat) x (10^(16-n).toNat) hx.iN.fits (hO (fH (by omega))).fits;have hp:mT (n-16)=1:=by unfold mT;rw[show (n-16).toNat=0 by omega,Nat.pow_zero]
   have hqq:me (n-16)=10^(16-n).toNat:=by unfold me;rw[show (-(n-16)).toNat=(16-n).toNat by omega]
   rw[hp,hqq,Nat.mul_one]at hq;rw[bC h,eR ht,eR hm,aA];exact DR sg hsg _ c _ y q n (hx.mul (by omega)).fits hy.iN.fits2 hy0 hq q1 q2 n1 n2
  ·have w2:i64.wrap (0-(16-n))=(((n-16).toNat:Nat):Int):=bD;have ht:=qB (n-16).toNat (by omega);have hm:=oC c (tb (n-16).toNat) y (10^(n-16).toNat) hy.iN.fits (hO (fH (by omega))).fits;have hp:mT (n-16)=10^(n-16).toNat:=rfl;have hqq:me (n-16)=1:=by unfold me;rw[show (-(n-16)).toNat=0 by omega,Nat.pow_zero]
   rw[hp,hqq,Nat.mul_one]at hq;rw[bB h,w2,eR ht,eR hm,aA];exact DR sg hsg b _ x _ q n hx.iN.fits (hy.mul (by omega)).fits2 (Nat.mul_pos hy0 (abt (by decide))) hq q1 q2 n1 n2
theorem Bs(sg:aE)(hsg:sg.length<=100)(x y:Nat)(hx0:0<x)(hy0:0<y)(hx:qk x)(hy:qk y)(b c:Bool):
  rk prog aK (Ld sg b c (ws x) (ws y) [])=some (.d (.s (p7 sg x y)),[]):=by
 have h1:=pV b x hx.iN.fits;have h2:=pV c y hy.iN.fits;have l1:=hx.bJ;have l2:=hy.bJ;have hb:=qa ((bJ x:Int)-bJ y) (by omega) (by omega);have hlow:=NO x y hx0 hx hy;obtain⟨n,q,b1,b2,n1,n2,hq,q1,q2,hs⟩:=Iz x y hx0 hy0 hx hy;have v1:i64.wrap ((bJ x:Int)-bJ y)=(bJ x:Int)-bJ y:=bD;have v2:i64.wrap (((bJ x:Int)-bJ y)*30103)=((bJ x:Int)-bJ y)*30103:=bD;rw[Hs,gF h1,gF h2,v1,v2,aA,hs sg];generalize (((bJ x:Int)-bJ y)*30103).tdiv 100000=z at *;have v3:i64.wrap z=z:=bD;have v4:i64.wrap (z-2)=z-2:=bD;have hle:z-2<=n:=by
  rcases Int.lt_or_le n (z-2)with h|h
  ·have:=wS (show n+1<=z-2 by omega) b2
   rw[hlow]at this;cases this
  ·exact h
 have hL:=yr sg hsg x y hx0 hy0 hx hy n q b1 b2 n1 n2 hq q1 q2 (n-(z-2)).toNat b c (by omega);rw[show n-(((n-(z-2)).toNat:Nat):Int)=z-2 by omega]at hL;rw[v3,v4];exact hL
theorem UX(b:Nat)(hb:b<18446744073709551616):rk prog aK (.call 48 [vu (b:Int)] [])=some (.d (.s (gE b)),[]):=by
 have h0:(b:Int).fdiv 9223372036854775808=((b / 2^63:Nat):Int):=nc b 9223372036854775808;have h1:(b:Int).fdiv 4503599627370496=((b / 2^52:Nat):Int):=nc b 4503599627370496;have h2:(BitVec.ofInt u64.bits ((b / 2^52:Nat):Int) &&& BitVec.ofInt u64.bits 2047).toNat=b / 2^52%2048:=
  si (b:=b / 2^52) (k:=11) (by omega) 2047 (by decide)
 have w1:u64.wrap ((b / 2^52%2048:Nat):Int)=((b / 2^52%2048:Nat):Int):=by rw[aY];omega
 have w1':i64.wrap ((b / 2^52%2048:Nat):Int)=((b / 2^52%2048:Nat):Int):=bD;have h3:(BitVec.ofInt u64.bits (b:Int) &&& BitVec.ofInt u64.bits 4503599627370495).toNat=b%2^52:=si (b:=b) (k:=52) hb 4503599627370495 (by decide);have w3:u64.wrap ((b%2^52:Nat):Int)=((b%2^52:Nat):Int):=by rw[aY];omega
 have main:∀sg:aE,sg.length<=1->(if 2^63<=b then [45] else([]:aE))=sg->
   rk prog aK (LO sg (b:Int) [])=some (.d (.s (gE b)),[]):=by
  intro sg hsl hsg;rw[PA,h1,h2,w1,w1',h3,w3];unfold gE;rw[hsg];by_cases hk:b / 2^52%2048=2047
  ·rw[bM,aG,aaR hk]
  ·rw[bp,aaN hk];simp only;have go:∀(e m:Nat),(dX (b%2^63))=(if (e:Int)-1075<0 then(m,2^(-((e:Int)-1075)).toNat) else(m*2^((e:Int)-1075).toNat,1))->e<=2046->m<2^53->b%2^63≠0->
     rk prog aK (Lj sg (e:Int) (m:Int) [])=some (.d (.s (p7 sg (dX (b%2^63)).1 (dX (b%2^63)).2)),[]):=by
    intro e m hr he hm hne;have ho:=yn m (by omega);obtain⟨s1,s2,s3⟩:=tm (b%2^63) (by omega) (by omega);have s0:=tj (b%2^63) hne;rw[MG,eR ho];by_cases h:(e:Int) ≥ 1075
    ·have wE:i64.wrap ((e:Int)-1075)=((e-1075:Nat):Int):=bD;have hsh:=wB (nb m) m (e-1075) (JI (by omega)).fits (by omega);rw[cE,show ((e:Int)-1075).toNat=e-1075 by omega]at hr;rw[hr]at s0 s1 s2 s3⊢;have:=Bs sg (by omega) _ 1 s0 (by decide) s1 s2 (nb (m*2^(e-1075))) true;rw[Dk]at this;rw[bC h,wE,eR hsh,aA];exact this
    ·have wE:i64.wrap (1075-(e:Int))=((1075-e:Nat):Int):=bD;have hsh:=wB true 1 (1075-e) xB (by omega);rw[Dk,Nat.one_mul]at hsh;rw[aaR (by omega),show (-((e:Int)-1075)).toNat=1075-e by omega]at hr;rw[hr]at s0 s1 s2 s3⊢;have:=Bs sg (by omega) m _ s0 s3 s1 s2 (nb m) (nb (2^(1075-e)));rw[bB h,wE,eR hsh,aA];exact this
   have hcd:b%2^63 / 2^52=b / 2^52%2048:=by omega
   have hcm:b%2^63%2^52=b%2^52:=by omega
   by_cases he:b / 2^52%2048=0
   ·rw[bM,aA,Aw];by_cases hm:b%2^52=0
    ·have hz:b%2^63=0:=by omega
     rw[aaR hz,eH (by rw[beq_iff_eq];omega),aN,aG]
    ·have hz:b%2^63≠0:=by omega
     rw[aaN hz,cX (by rw[abr];omega),bM,aA];refine go 1 (b%2^52) ?_ (by decide) (by omega) hz;unfold dX;simp only[hcd,hcm,aaR he];rfl
   ·have hz:b%2^63≠0:=by omega
    have hor:(BitVec.ofInt u64.bits ((b%2^52:Nat):Int) ||| BitVec.ofInt u64.bits 4503599627370496).toNat=b%2^52+2^52:=by have:=mK (a:=b%2^52) (b:=4503599627370496) (by omega) (by decide);have e:=pU (c:=b%2^52) (a:=1) (k:=52) (abz _ (by decide));rw[Nat.one_mul]at e;exact Eq.trans this e
    have w5:u64.wrap ((b%2^52+2^52:Nat):Int)=((b%2^52+2^52:Nat):Int):=by rw[aY];omega
    rw[bp,aA,Aw,bH,bp,hor,w5,aA,aaN hz];refine go (b / 2^52%2048) (b%2^52+2^52) ?_ (by omega) (by omega) hz;unfold dX;simp only[hcd,hcm,aaN he];have e1:(-1074:Int)+(((b / 2^52%2048:Nat):Int)-1)=((b / 2^52%2048:Nat):Int)-1075:=by omega
    rw[e1]
 rw[f16,h0];by_cases ht:2^63<=b
 ·rw[bM,aA];exact main [45] (by decide) (aaR ht)
 ·rw[bp,aA];exact main [] (by decide) (aaN ht)
set_option maxRecDepth 100000
theorem yA{args:List V}{S:List Ob}{o:Out}{k:Nat}(hk:k=50\/k=48)(h:kL args S=some o):cx prog k args S o:=by
 unfold kL at h;split at h
 ·rename_i n;split at h
  ·rename_i hc;injection h with h;subst h
   have h1:=XZ n.toNat (by omega);have h2:=UX n.toNat (by omega);rw[Int.toNat_of_nonneg hc.1]at h1 h2;rcases hk with rfl|rfl
   ·exact iy mixed D4 gK (iL h1)
   ·exact iy mixed D4 gK (iL h2)
  ·cases h
 ·cases h
theorem NV{args:List V}{S:List Ob}{o:Out}(h:tL args S=some o):cx prog 47 args S o:=by
 unfold tL at h;split at h
 ·rename_i n;split at h
  ·rename_i hc;injection h with h;subst h
   exact iy mixed D4 gK (iL (Ws n hc.1 hc.2))
  ·cases h
 ·cases h
theorem Xk:oV prog bT:=by
 intro k g hg args S o ho;simp only[bT,Y0]at hg;split at hg
 ·injection hg with hg;subst hg;exact Mp ho
 ·injection hg with hg;subst hg;exact yH ho
 ·injection hg with hg;subst hg;exact EG ho
 ·injection hg with hg;subst hg;exact MY ho
 ·injection hg with hg;subst hg;exact yA (.inl rfl) ho
 ·injection hg with hg;subst hg;exact yA (.inr rfl) ho
 ·injection hg with hg;subst hg;exact NV ho
 ·exact D4 k g hg args S o ho
theorem PT:lA prog (run prog bT):=λ k args S o h=>iy mixed Xk gK h
theorem V5:lA prog (run prog aK):=λ k args S o h=>iy mixed D4 gK h
theorem XB(zs:List Int):RY (.call 10 [vl false (ints .u8 zs)] [])=some (.p 0 0,[pk zs 0]):=by have:∀l:List D,rk prog bT (.call 10 [vl false l] [])=aD (rk prog bT) (Tr.ret (V.p 0 0,[aC [vl false l,vi 0]])):=λ l=>QZ (by kernel_rfl);rw[RY,this];rfl
theorem aaO{f:Task->Option Out}{t:Task}{cs:List V}{K:List V->Tr}(h:f t=some (.p 0 0,[aC cs]))(hc:bI 0 cs=true):aD f (.call t λ o=>ZR o λ l=>K l)=aD f (K cs):=by rw[cr h];show aD f (aO (bI 0 cs) (K cs))=_;rw[hc,aQ]
theorem Zg{zs:List Int}(h:∀z∈zs,0<=z/\z<256)(hl:zs.length<=150):Pk zs 0:=⟨h,by omega,by omega⟩
theorem DT(s:aE):rk prog aK (.call 20 [vs s] [])=some (pJ (lexB s)):=by
 by_cases h:2000<s.length
 ·rw[e20,bC];unfold lexB;rw[aaR h];rfl
 ·exact W6 s (by omega)
theorem EY(s:aE):(lexB s).1.length<=100000:=by
 by_cases h:2000<s.length
 ·unfold lexB;rw[aaR h];exact Nat.zero_le _
 ·exact P9 s (by omega)
theorem YL{f:Task->Option Out}{n:Int}{K:Int->Tr}:aD f (bG (vi n) λ d=>cf .i64 d K)=aD f (K n):=by rw[dN,bO,aaR rfl]
end Go.Dn.Dec
namespace Go.Dn.Dec.Pa
open Go.IntKind (i64 u64 u8 u16 i32 u32)
open Go.Proofs
open Tryz (prog)
set_option maxRecDepth 100000
noncomputable abbrev RU:=rk prog ch
theorem Xj:oV prog ch:=by
 intro k g hg args S o ho;simp only[ch,Ub]at hg;split at hg
 ·injection hg with hg;subst hg;exact V5 k args S o ho
 ·split at hg
  ·injection hg with hg;subst hg;exact oE PT ho
  ·cases hg
theorem Y4:lA prog (run prog ch):=λ k args S o h=>iy mixed Xj gK h
theorem uj{k:Nat}{g:List V->List Ob->Option Out}(h:ch.ext k=some g)(args:List V)(S:List Ob):RU (.call k args S)=g args S:=by
 rw[RU,Bp];unfold oN;simp only[h];rw[cQ]
 cases g args S with
 |none=>rfl
 |some o=>rfl
theorem I3{k:Nat}{args:List V}{o:Out}(h:rk prog aK (.call k args [])=some o)(h1:k=20\/k=96\/k=98):RU (.call k args [])=some o:=by
 have e:ch.ext k=some (λ args S=>run prog aK (.call k args S)):=by simp only[ch,Ub,aaR h1]
 rw[uj e];exact iL h
theorem ZM(c:UInt8):RU (.call 96 [.d (.i .u8 (c.toNat:Int))] [])=some (vb (k9 c),[]):=I3 (Cb c) (by decide)
theorem aa8(c:UInt8):RU (.call 98 [.d (.i .u8 (c.toNat:Int))] [])=some (vb (aP c),[]):=I3 (pd c) (by decide)
theorem P7{α:Type}(p:List α)(x:α):((p++[x]).length:Int)=(p.length:Int)+1:=by simp
def eO(s:aE):Int:=
 if s=[98,111,111,108]then 2 else if s=[105,56]then 3 else if s=[105,49,54]then 6 else if s=[105,51,50]then 8 else if s=[105,54,52]then 10
 else if s=[100,111,117,98,108,101]then 4 else if s=[115,116,114,105,110,103]then 11 else if s=[98,105,110,97,114,121]then 16
 else if s=[108,105,115,116]then 15 else if s=[115,101,116]then 14 else if s=[109,97,112]then 13 else 0
theorem X1{f:Task->Option Out}{c:Bool}{p:Prop}[Decidable p](h:c=decide p){X Y:Tr}{a b:Option Out}(h1:p->aD f X=a)(h2:¬p->aD f Y=b):aD f (aV c X Y)=if p then a else b:=by
 subst h;by_cases hp:p
 ·rw[bC hp,aaR hp,h1 hp]
 ·rw[bB hp,aaN hp,h2 hp]
theorem nL{α:Type}[BEq α][LawfulBEq α][DecidableEq α](a b:α):(a==b)=decide (a=b):=by
 by_cases h:a=b
 ·subst h;simp
 ·simp[h]
theorem rl(s:aE):RU (.call 130 [vs s] [])=some (vi (eO s),[]):=by
 rw[RU,aaY];unfold eO
 repeat (first|(rw[apply_ite (λ n=>some (vi n,([]:List Ob)))];refine X1 (nL _ _) (λ _=>rfl) λ _=>?_))
 rfl
theorem uv{p:Prop}[Decidable p]{a b n:Int}(h1:a≠n)(h2:b≠n):(if p then a else b)≠n:=by split<;>assumption
theorem OS{x:aE}(h:eO x=15):x=[108,105,115,116]:=Classical.byContradiction λ hx=>by
 refine absurd h ?_;unfold eO
 iterate 8 refine uv (by decide) ?_
 rw[aaN hx];exact uv (by decide) (uv (by decide) (by decide))
theorem OR{x:aE}(h:eO x=14):x=[115,101,116]:=Classical.byContradiction λ hx=>by
 refine absurd h ?_;unfold eO
 iterate 9 refine uv (by decide) ?_
 rw[aaN hx];exact uv (by decide) (by decide)
theorem WU{x:aE}(h:eO x=13):x=[109,97,112]:=Classical.byContradiction λ hx=>by
 refine absurd h ?_;unfold eO
 iterate 10 refine uv (by decide) ?_
 rw[aaN hx];decide
def qf:List aE:=[[98,111,111,108],[105,56],[105,49,54],[105,51,50],[105,54,52],[100,111,117,98,108,101],[115,116,114,105,110,103],[98,105,110,97,114,121],[108,105,115,116],[115,101,116],[109,97,112]]
def Xv(k:Int):aE:=if k=15 then [108,105,115,116]else if k=14 then [115,101,116]else []
theorem BO(n:Int)(hn:n=15\/n=14)(b:Bool):∀(r p:List aE),p++r=qf->(∀x∈p,eO x≠n)->
  RU (Ls n (p.length:Int) b (qf.map .s) [])=some (vs (Xv n),[])
 | [],p,hp,hx=>by
  exfalso;rw[abo]at hp;subst hp;rcases hn with rfl|rfl
  ·exact hx [108,105,115,116] (by simp[qf]) rfl
  ·exact hx [115,101,116] (by simp[qf]) rfl
 |x::r,p,hp,hx=>by
  have hl:(qf.map D.s).length=11:=rfl;have hlt:p.length<11:=by have:=congrArg List.length hp;simp[qf]at this;omega
  have hg:(qf.map D.s)[p.length]?=some (.s x):=by rw[<-hp,List.getElem?_map];simp
  rw[RU,MH,hl,bC];refine(Mb hg).trans ?_;refine(gF (rl x)).trans ?_;by_cases e:eO x=n
  ·rw[bM e];refine(Mb hg).trans ?_;rcases hn with rfl|rfl
   ·rw[OS e];rfl
   ·rw[OR e];rfl
  ·rw[bp e];rw[iZ];have:=BO n hn b r (p++[x]) (by rw[abg];exact hp) (λ y hy=>by
    rcases List.mem_append.1 hy with h|h
    ·exact hx y h
    ·rw[abK.1 h];exact e)
   rw[P7]at this;exact aM this
theorem Yj(n:Int)(hn:n=15\/n=14):RU (.call 178 [vi n] [])=some (vs (Xv n),[]):=by rw[RU,aa1];exact aM (BO n hn true qf [] rfl (by simp))
def ny(k:Int)(a b:aE):aE:=if k=13 then [109,97,112,60]++a++[44]++b++[62]else Xv k++[60]++a++[62]
theorem U3(k:Int)(hk:k=13\/k=15\/k=14)(a b:aE)(ha:a.length<=100000000)(hb:b.length<=100000000):RU (.call 131 [vi k,vs [],vs a,vs b] [])=some (vs (ny k a b),[]):=by
 rw[RU,aaZ,bp];have at245:∀w:Bool,(w=true↔k≠13)->RU (VN a b k k w [])=some (vs (ny k a b),[]):=by
  intro w hw;rw[RU,Hm]
  cases w with
  |true=>
   have hk':=hw.1 rfl;have hlen:(Xv k).length<=4:=by rcases hk with h|h|h<;>subst h<;>first|exact absurd rfl hk' | decide
   rw[bQ];refine(gG (Yj k (by omega))).trans ?_;rw[aN,aN (by simp;omega),aN (by simp;omega)];unfold ny;rw[aaN hk'];rfl
  |false=>
   have hk':k=13:=Classical.byContradiction λ h=>by have:=hw.2 h;cases this
   rw[bH,bM hk',aN,aN (by simp;omega),aN (by simp;omega),aN (by simp;omega)];unfold ny;rw[aaR hk'];rfl
 by_cases h:k=15
 ·rw[bM h];exact aM (at245 _ (by subst h;decide))
 ·rw[bp h];refine aM (at245 _ ?_);rcases hk with h' | h' | h'
  ·subst h';decide
  ·exact absurd h' h
  ·subst h';decide
def CV:List aE:=[[105,110,99,108,117,100,101],[110,97,109,101,115,112,97,99,101],[116,121,112,101,100,101,102],[101,110,117,109],[99,111,110,115,116],[115,116,114,117,99,116],[117,110,105,111,110],[101,120,99,101,112,116,105,111,110],[115,101,114,118,105,99,101],[101,120,116,101,110,100,115],[116,104,114,111,119,115],[111,110,101,119,97,121],[118,111,105,100],[114,101,113,117,105,114,101,100],[111,112,116,105,111,110,97,108],[116,114,117,101],[102,97,108,115,101],[98,121,116,101]]
def XX(s:aE):Bool:=CV.contains s||eO s != 0
theorem FJ(s:aE)(b:Bool):∀(r p:List aE),p++r=CV->
  RU (Lr s (p.length:Int) b (CV.map .s) [])=some (vb (r.contains s||eO s != 0),[])
 | [],p,hp=>by
  have hl:(CV.map D.s).length=18:=rfl;have:p.length=18:=by have:=congrArg List.length hp;simpa[CV]using this
  rw[RU,As,hl,bB];refine(gF (rl s)).trans ?_;rfl
 |x::r,p,hp=>by
  have hl:(CV.map D.s).length=18:=rfl;have hlt:p.length<18:=by have:=congrArg List.length hp;simp[CV]at this;omega
  have hg:(CV.map D.s)[p.length]?=some (.s x):=by rw[<-hp,List.getElem?_map];simp
  rw[RU,As,hl,bC];refine(Mb hg).trans ?_;by_cases e:x=s
  ·subst e;rw[eH (abq _)];simp
  ·rw[cX (by simpa using e),iZ]
   have:=FJ s b r (p++[x]) (by rw[abg];exact hp);rw[P7]at this;refine(aM this).trans ?_;have h2:(s==x)=false:=by simpa using Ne.symm e
   rw[List.contains_cons,h2];rfl
theorem Zp(s:aE):RU (.call 127 [vs s] [])=some (vb (XX s),[]):=by rw[RU,aaV];exact aM (FJ s true CV [] rfl)
def XK(c:UInt8):Bool:=k9 c||aP c
def bu(s:aE):Bool:=match s with
 | []=>false
 |c::_=>decide (s.length<=40)&&k9 c && !XX s&&s.all XK
theorem ye:∀(r p:aE),(p++r).length<=1000000->
  RU (LS (p++r) (p.length:Int) [])=some (vb (r.all XK),[])
 | [],p,hl=>by
  rw[RU,Ex,abo,bB];rfl
 |c::r,p,hl=>by
  have hlen:(p++c::r).length=p.length+(r.length+1):=by simp
  have hg:bW (p++c::r) (p.length:Int)=some c:=by rw[ct];simp
  rw[RU,Ex,bC];refine(bz hg).trans ?_;refine(gJ (ZM c)).trans ?_;have next:RU (Sk (p++c::r) (p.length:Int) false [])=some (vb (r.all XK),[]):=by rw[RU,xy,bH,iZ];have:=ye r (p++[c]) (by simp at hl⊢;omega);rw[P7,abg,List.singleton_append]at this;exact aM this
  cases h1:k9 c with
  |true=>
   rw[mr];refine(aM next).trans ?_;simp[XK,h1]
  |false=>
   rw[kX];refine(bz hg).trans ?_;refine(gJ (aa8 c)).trans ?_
   cases h2:aP c with
   |true=>
    refine(aM next).trans ?_;simp[XK,h1,h2]
   |false=>
    refine(aM (o:=(vb false,[])) ?_).trans ?_
    ·rw[RU,xy];rfl
    ·simp[XK,h1,h2]
theorem ta(s:aE)(hs:s.length<=1000000):RU (.call 73 [vs s] [])=some (vb (bu s),[]):=by
 have no:RU (BE s true [])=some (vb false,[]):=by rw[RU,Ew];rfl
 rw[RU,u73]
 cases s with
 |nil=>exact(bQ).trans (aM no)
 |cons c r=>
  rw[cX (show (c::r==[])=false from rfl)];by_cases h:(c::r).length<=40
  ·rw[bB];refine(bz (show bW (c::r) 0=some c from rfl)).trans ?_;refine(gJ (ZM c)).trans ?_
   cases h1:k9 c with
   |false=>rw[kX];refine(aM no).trans ?_;simp[bu,h1]
   |true=>
    rw[mr];refine(gJ (Zp _)).trans ?_
    cases h2:XX (c::r) with
    |true=>refine(aM no).trans ?_;simp[bu,h2]
    |false=>
     refine(aM (o:=(vb ((c::r).all XK),[])) ?_).trans ?_
     ·rw[RU,Ew,bH];exact aM (ye (c::r) [] hs)
     ·simp only[bu,h1,h2,aa3 h];rfl
  ·rw[bC];refine(aM no).trans ?_;simp only[bu,abf h];rfl
def zB:Nat->aE->aE->Bool
 |n,q,[]=>decide (n<=3)&&bu q
 |n,q,c::r=>if c≠46 then zB n (q++[c]) r else bu q&&zB (n+1) [] r
def fY(s:aE):Bool:=zB 1 [] s
theorem ED:∀(r p q:aE) (n:Nat),(p++r).length<=100000->q.length<=p.length->n<=p.length+1->
  RU (KU (p++r) q (n:Int) (p.length:Int) [])=some (vb (zB n q r),[])
 | [],p,q,n,hl,hq,hn=>by
  rw[RU,Au,abo,bB];rw[abo]at hl;by_cases h:n<=3
  ·rw[bC];refine(gJ (ta q (by omega))).trans ?_;simp only[zB,aa3 h];rfl
  ·rw[bB];simp only[zB,abf h];rfl
 |c::r,p,q,n,hl,hq,hn=>by
  have hlen:(p++c::r).length=p.length+(r.length+1):=by simp
  have hg:bW (p++c::r) (p.length:Int)=some c:=by rw[ct];simp
  have next:∀(n':Nat) (q':aE),q'.length<=p.length+1->n'<=p.length+2->RU (KO (p++c::r) q' (n':Int) (p.length:Int) [])=some (vb (zB n' q' r),[]):=by intro n' q' h1 h2;rw[RU,Hl,iZ];have:=ED r (p++[c]) q' n' (by simp at hl⊢;omega) (by simpa using h1) (by simpa using h2);rw[P7,abg,List.singleton_append]at this;exact aM this
  rw[RU,Au,bC];refine(bz hg).trans ?_;by_cases h:c=46
  ·subst h;rw[eN (show ((46:UInt8).toNat:Int)=46 from rfl)];refine(gJ (ta q (by omega))).trans ?_
   cases h1:bu q with
   |false=>simp only[zB,h1];rfl
   |true=>
    rw[mr,iZ];have:=next (n+1) [] (by simp) (by omega);rw[Int.natCast_add]at this;refine(aM this).trans ?_;simp only[zB,h1];rfl
  ·rw[fj (by intro e;exact h (UInt8.toNat_inj.1 (by simpa using Int.ofNat.inj e)))]
   have e1:((p.length:Int)+1).toNat=p.length+1:=by omega
   have e2:List.take (((p.length:Int)+1).toNat-(p.length:Int).toNat) (List.drop (p.length:Int).toNat (p++c::r))=[c]:=by rw[e1,abe,List.drop_left,Nat.add_sub_cancel_left];rfl
   rw[iZ,aN,aN,e2,aN (by simp;omega)];refine(aM (next n (q++[c]) (by simp;omega) (by omega))).trans ?_;simp only[zB,aaR h]
theorem PJ(s:aE)(hs:s.length<=100000):RU (.call 129 [vs s] [])=some (vb (fY s),[]):=by rw[RU,aaX];exact aM (ED s [] [] 1 hs (by simp) (by simp))
end Go.Dn.Dec.Pa
namespace Go.Dn.Dec
open Go.IntKind (i64 u64 u8 u16 i32 u32)
open Go.Proofs
open Tryz (prog)
theorem u38(b:Bool)(l:List D)(i e a:Int):EQ ch (.call 38 [.p 0 0] [aC (kO i e a b l)]) (eL l i 5 λ c=>aO ([.d (gD 5 0 c 0),.d (gD 5 0 c 1),.d (gD 5 0 c 2),.d (gD 5 0 c 3),.d (gD 5 0 c 4)].all V.one) (.ret (.d (.g [gD 5 0 c 0,gD 5 0 c 1,gD 5 0 c 2,gD 5 0 c 3,gD 5 0 c 4]),[aC (kO i e a b l)]))):=aF
theorem u40(b:Bool)(l:List D)(i e a n:Int):EQ ch (.call 40 [.p 0 0,vi n] [aC (kO i e a b l)]) (aV (e==0) (c1 (.call 38 [.p 0 0] [aC (kO i e a b l)]) 4 [] λ c f=>bG c λ g=>j5 5 g λ h=>cf .i64 (aH h 4) λ j=>aO (decide (2<f.length)&&true) (aO (decide (3<(f.set 2 (vi n)).length)&&true) (.ret (.t [],[aC ((f.set 2 (vi n)).set 3 (vi j))])))) (.ret (.t [],[aC (kO i e a b l)]))):=aF
theorem u74(b:Bool)(l:List D)(i e a:Int):EQ ch (.call 74 [.p 0 0] [aC (kO i e a b l)]) (.ret (.t [],[aC (kO (i64.wrap (i+1)) e a b l)])):=aF
theorem u71(b:Bool)(l:List D)(i e a:Int)(s:aE):EQ ch (.call 71 [.p 0 0,vs s] [aC (kO i e a b l)]) (aV (e==0) (c1 (.call 38 [.p 0 0] [aC (kO i e a b l)]) 4 [] λ c f=>bG c λ g=>j5 5 g λ h=>cf .i64 (aH h 0) λ j=>aV (j==1) (c1 (.call 38 [.p 0 0] [aC f]) f.length [] λ k m=>bG k λ n=>j5 5 n λ o=>fJ (aH o 1) λ q => .ret (vb (q==s),[aC m])) (.ret (vb false,[aC f]))) (.ret (vb false,[aC (kO i e a b l)]))):=aF
theorem u72(b:Bool)(l:List D)(i e a:Int)(s:aE):EQ ch (.call 72 [.p 0 0,vs s] [aC (kO i e a b l)]) (c1 (.call 71 [.p 0 0,vs s] [aC (kO i e a b l)]) 4 [] λ c f=>aB c λ g=>aV g (c1 (.call 74 [.p 0 0] [aC f]) f.length [] λ h j=>dI h λ k=>aO (k.length==0) (.ret (vb true,[aC j]))) (.ret (vb false,[aC f]))):=aF
theorem u75(b:Bool)(l:List D)(i e a:Int)(s:aE):EQ ch (.call 75 [.p 0 0,vs s] [aC (kO i e a b l)]) (c1 (.call 128 [.p 0 0,vs s] [aC (kO i e a b l)]) 4 [] λ c f=>aB c λ g=>aV g (c1 (.call 74 [.p 0 0] [aC f]) f.length [] λ h j=>dI h λ k=>aO (k.length==0) (.ret (vb true,[aC j]))) (.ret (vb false,[aC f]))):=aF
theorem aaW(b:Bool)(l:List D)(i e a:Int)(s:aE):EQ ch (.call 128 [.p 0 0,vs s] [aC (kO i e a b l)]) (aV (e==0) (c1 (.call 38 [.p 0 0] [aC (kO i e a b l)]) 4 [] λ c f=>bG c λ g=>j5 5 g λ h=>cf .i64 (aH h 0) λ j=>aV (j==5) (c1 (.call 38 [.p 0 0] [aC f]) f.length [] λ k m=>bG k λ n=>j5 5 n λ o=>fJ (aH o 1) λ q => .ret (vb (q==s),[aC m])) (.ret (vb false,[aC f]))) (.ret (vb false,[aC (kO i e a b l)]))):=aF
theorem u79(b:Bool)(l:List D)(i e a:Int)(s:aE):EQ ch (.call 79 [.p 0 0,vs s] [aC (kO i e a b l)]) (c1 (.call 128 [.p 0 0,vs s] [aC (kO i e a b l)]) 4 [] λ c f=>aB c λ g=>aV (!g) (c1 (.call 40 [.p 0 0,vi 2] [aC f]) f.length [] λ h j=>dI h λ k=>aO (k.length==0) (.ret (.t [],[aC j]))) (c1 (.call 74 [.p 0 0] [aC f]) f.length [] λ m n=>dI m λ o=>aO (o.length==0) (.ret (.t [],[aC n])))):=aF
theorem u84(b:Bool)(l:List D)(i e a:Int):EQ ch (.call 84 [.p 0 0] [aC (kO i e a b l)]) (c1 (.call 75 [.p 0 0,vs [44]] [aC (kO i e a b l)]) 4 [] λ c f=>aB c λ g=>aV (!g) (c1 (.call 75 [.p 0 0,vs [59]] [aC f]) f.length [] λ h j=>aB h λ k => .ret (.t [],[aC j])) (.ret (.t [],[aC f]))):=aF
theorem aa0(b:Bool)(l:List D)(i e a:Int):EQ ch (.call 134 [.p 0 0] [aC (kO i e a b l)]) (c1 (.call 38 [.p 0 0] [aC (kO i e a b l)]) 4 [] λ c f=>bG c λ g=>j5 5 g λ h=>aO ([.d (aH h 0),.d (aH h 1),.d (aH h 2),.d (aH h 3),.d (aH h 4)].all V.one) (cf .i64 (aH h 0) λ j=>aV (j==1) (fJ (aH h 1) λ k=>cV (.call 130 [vs k] []) λ m=>aI m λ n=>aV (n != 0) (.ret (vb true,[aC f])) (fJ (aH h 1) λ o=>aV (o==[98,121,116,101]) (.ret (vb true,[aC f])) (fJ (aH h 1) λ q=>cV (.call 129 [vs q] []) λ r=>aB r λ t => .ret (vb t,[aC f])))) (.ret (vb false,[aC f])))):=aF
theorem aa2(b:Bool)(l:List D)(i e a:Int):EQ ch (.call 179 [.p 0 0] [aC (kO i e a b l)]) (c1 (.call 38 [.p 0 0] [aC (kO i e a b l)]) 4 [] λ c f=>bG c λ g=>j5 5 g λ h=>aO ([.d (aH h 0),.d (aH h 1),.d (aH h 2),.d (aH h 3),.d (aH h 4)].all V.one) (cf .i64 (aH h 0) λ j=>aV (j==2) (aR (SJ j (j==2) [aC [.d (aH h 0),.d (aH h 1),.d (aH h 2),.d (aH h 3),.d (aH h 4)],aC f])) (aV (j==3) (aR (SJ j (j==3) [aC [.d (aH h 0),.d (aH h 1),.d (aH h 2),.d (aH h 3),.d (aH h 4)],aC f])) (aR (SJ j (j==4) [aC [.d (aH h 0),.d (aH h 1),.d (aH h 2),.d (aH h 3),.d (aH h 4)],aC f]))))):=aF
theorem u39(b:Bool)(l:List D)(i e a:Int):EQ ch (.call 39 [.p 0 0] [aC (kO i e a b l)]) (aR (Lg 0 true [.s [116,121,112,101,100,101,102],.s [99,111,110,115,116],.s [101,110,117,109],.s [115,116,114,117,99,116],.s [117,110,105,111,110],.s [101,120,99,101,112,116,105,111,110],.s [115,101,114,118,105,99,101]] [aC (kO i e a b l)])):=aF
theorem Ht(n0:Int)(b1:Bool)(d2 d3 d4 d5 d6:D)(l7:List V):EQ ch (SJ n0 b1 [aC [.d d2,.d d3,.d d4,.d d5,.d d6],aC l7]) (aV b1 (.ret (vb true,[aC l7])) (aV (n0==1) (fJ d3 λ a=>aV (a==[116,114,117,101]) (.ret (vb true,[aC l7])) (fJ d3 λ c=>aV (c==[102,97,108,115,101]) (.ret (vb true,[aC l7])) (fJ d3 λ e=>cV (.call 129 [vs e] []) λ f=>aB f λ g => .ret (vb g,[aC l7])))) (c1 (.call 128 [.p 0 0,vs [91]] [aC l7]) l7.length [] λ h j=>aB h λ k=>aV k (.ret (vb true,[aC j])) (c1 (.call 128 [.p 0 0,vs [123]] [aC j]) j.length [] λ l m=>aB l λ n => .ret (vb n,[aC m]))))):=aF
theorem xu(b0:Bool)(l1:List D)(n2:Int)(l3:List V):EQ ch (Lg n2 b0 l1 [aC l3]) (aV (decide (n2<(l1.length:Int))) (eC l1 n2 1 0 λ a=>fJ a λ c=>c1 (.call 71 [.p 0 0,vs c] [aC l3]) l3.length [] λ e f=>aB e λ g=>aV g (.ret (vb true,[aC f])) (aR (Lg (i64.wrap (n2+1)) b0 l1 [aC f]))) (.ret (vb false,[aC l3]))):=aF
theorem u76(b:Bool)(l:List D)(i e a:Int):EQ ch (.call 76 [.p 0 0] [aC (kO i e a b l)]) (c1 (.call 38 [.p 0 0] [aC (kO i e a b l)]) 4 [] λ c f=>bG c λ g=>j5 5 g λ h=>aO ([.d (aH h 0),.d (aH h 1),.d (aH h 2),.d (aH h 3),.d (aH h 4)].all V.one) (ob f[2]? λ j=>aI j λ k=>aV (k != 0) (aR (KY true [aC [.d (aH h 0),.d (aH h 1),.d (aH h 2),.d (aH h 3),.d (aH h 4)],aC f])) (cf .i64 (aH h 0) λ m=>aV (m != 1) (aR (KY true [aC [.d (aH h 0),.d (aH h 1),.d (aH h 2),.d (aH h 3),.d (aH h 4)],aC f])) (fJ (aH h 1) λ n=>cV (.call 129 [vs n] []) λ o=>aB o λ q=>aR (.at_ 76 1 (aJ 27) (sv 28 [(0,.p 0 0),(3,.p 1 0),(21,vb !q)]) [] [aC [.d (aH h 0),.d (aH h 1),.d (aH h 2),.d (aH h 3),.d (aH h 4)],aC f]))))):=aF
theorem u78(b:Bool)(l:List D)(i e a:Int):EQ ch (.call 78 [.p 0 0] [aC (kO i e a b l)]) (c1 (.call 38 [.p 0 0] [aC (kO i e a b l)]) 4 [] λ c f=>bG c λ g=>j5 5 g λ h=>aO ([.d (aH h 0),.d (aH h 1),.d (aH h 2),.d (aH h 3),.d (aH h 4)].all V.one) (ob f[2]? λ j=>aI j λ k=>aV (k != 0) (aR (KZ true [aC [.d (aH h 0),.d (aH h 1),.d (aH h 2),.d (aH h 3),.d (aH h 4)],aC f])) (cf .i64 (aH h 0) λ m=>aV (m != 1) (aR (KZ true [aC [.d (aH h 0),.d (aH h 1),.d (aH h 2),.d (aH h 3),.d (aH h 4)],aC f])) (fJ (aH h 1) λ n=>cV (.call 73 [vs n] []) λ o=>aB o λ q=>aR (.at_ 78 1 (aJ 27) (sv 28 [(0,.p 0 0),(3,.p 1 0),(21,vb !q)]) [] [aC [.d (aH h 0),.d (aH h 1),.d (aH h 2),.d (aH h 3),.d (aH h 4)],aC f]))))):=aF
theorem u77(b:Bool)(l:List D)(i e a n:Int):EQ ch (.call 77 [.p 0 0,vi n] [aC (kO i e a b l)]) (c1 (.call 38 [.p 0 0] [aC (kO i e a b l)]) 4 [] λ c f=>bG c λ g=>j5 5 g λ h=>aO ([.d (aH h 0),.d (aH h 1),.d (aH h 2),.d (aH h 3),.d (aH h 4)].all V.one) (ob f[2]? λ j=>aI j λ k=>aV (k != 0) (aR (SK n true [aC [.d (aH h 0),.d (aH h 1),.d (aH h 2),.d (aH h 3),.d (aH h 4)],aC f])) (cf .i64 (aH h 0) λ m=>aR (SK n (m != 1) [aC [.d (aH h 0),.d (aH h 1),.d (aH h 2),.d (aH h 3),.d (aH h 4)],aC f])))):=aF
theorem u80(b:Bool)(l:List D)(i e a n:Int):EQ ch (.call 80 [.p 0 0,vi n] [aC (kO i e a b l)]) (c1 (.call 38 [.p 0 0] [aC (kO i e a b l)]) 4 [] λ c f=>bG c λ h=>j5 5 h λ j=>aO ([.d (aH j 0),.d (aH j 1),.d (aH j 2),.d (aH j 3),.d (aH j 4)].all V.one) (ob f[2]? λ k=>aI k λ m=>aV (m != 0) (.ret (.d (.g [.i .i64 0,.i .i64 0,.i .u64 0,.s [],.l true []]),[aC f])) (cf .i64 (aH j 0) λ o=>aV (o==2) (c1 (.call 74 [.p 0 0] [aC f]) f.length [] λ q r=>dI q λ t=>aO (t.length==0) (cf .i64 (aH j 2) λ v => .ret (.d (.g [.i .i64 1,.i .i64 v,.i .u64 0,.s [],.l true []]),[aC r]))) (cf .i64 (aH j 0) λ w=>aV (w==3) (c1 (.call 74 [.p 0 0] [aC f]) f.length [] λ x y=>dI x λ z=>aO (z.length==0) (cf .u64 (aH j 3) λ a0 => .ret (.d (.g [.i .i64 2,.i .i64 0,.i .u64 a0,.s [],.l true []]),[aC y]))) (cf .i64 (aH j 0) λ a1=>aV (a1==4) (c1 (.call 74 [.p 0 0] [aC f]) f.length [] λ a2 a3=>dI a2 λ a4=>aO (a4.length==0) (fJ (aH j 1) λ a5 => .ret (.d (.g [.i .i64 3,.i .i64 0,.i .u64 0,.s a5,.l true []]),[aC a3]))) (c1 (.call 71 [.p 0 0,vs [116,114,117,101]] [aC f]) f.length [] λ a6 a7=>aB a6 λ a8=>aV a8 (aR (Vp n true [aC [.d (aH j 0),.d (aH j 1),.d (aH j 2),.d (aH j 3),.d (aH j 4)],aC (fX [] 0 0 0 true []),aC a7])) (c1 (.call 71 [.p 0 0,vs [102,97,108,115,101]] [aC a7]) a7.length [] λ a9 aa=>aB a9 λ ab=>aR (Vp n ab [aC [.d (aH j 0),.d (aH j 1),.d (aH j 2),.d (aH j 3),.d (aH j 4)],aC (fX [] 0 0 0 true []),aC aa])))))))):=aF
theorem ZE(b:Bool)(l:List D)(i e a n:Int):EQ ch (.call 132 [.p 0 0,vi n] [aC (kO i e a b l)]) (aV (decide (n>12)) (c1 (.call 40 [.p 0 0,vi 6] [aC (kO i e a b l)]) 4 [] λ c f=>dI c λ h=>aO (h.length==0) (.ret (.d (.g [.i .i64 0,.i .i64 0,.i .u64 0,.s [],.l true []]),[aC f]))) (c1 (.call 128 [.p 0 0,vs [123]] [aC (kO i e a b l)]) 4 [] λ j k=>aB j λ m=>aV m (aR (Vr [125] n [.cells (fX [] 6 0 0 true []) [(4,5)],aC (fX [] 0 0 0 true []),aC k])) (aR (Vr [93] n [.cells (fX [] 5 0 0 true []) [(4,5)],aC (fX [] 0 0 0 true []),aC k])))):=aF
theorem Ey(b0:Bool)(d1 d2 d3 d4 d5:D)(l6:List V):EQ ch (KY b0 [aC [.d d1,.d d2,.d d3,.d d4,.d d5],aC l6]) (aV b0 (c1 (.call 40 [.p 0 0,vi 2] [aC l6]) l6.length [] λ a c=>dI a λ e=>aO (e.length==0) (.ret (vs [],[aC c]))) (c1 (.call 74 [.p 0 0] [aC l6]) l6.length [] λ f g=>dI f λ h=>aO (h.length==0) (fJ d2 λ j => .ret (vs j,[aC g])))):=aF
theorem EA(b0:Bool)(d1 d2 d3 d4 d5:D)(l6:List V):EQ ch (KZ b0 [aC [.d d1,.d d2,.d d3,.d d4,.d d5],aC l6]) (aV b0 (c1 (.call 40 [.p 0 0,vi 2] [aC l6]) l6.length [] λ a c=>dI a λ e=>aO (e.length==0) (.ret (vs [],[aC c]))) (c1 (.call 74 [.p 0 0] [aC l6]) l6.length [] λ f g=>dI f λ h=>aO (h.length==0) (fJ d2 λ j => .ret (vs j,[aC g])))):=aF
theorem Ez(n0:Int)(b1:Bool)(d2 d3 d4 d5 d6:D)(l7:List V):EQ ch (SK n0 b1 [aC [.d d2,.d d3,.d d4,.d d5,.d d6],aC l7]) (aV b1 (c1 (.call 40 [.p 0 0,vi 2] [aC l7]) l7.length [] λ a c=>dI a λ e=>aO (e.length==0) (.ret (vs [],[aC c]))) (fJ d3 λ f=>cV (.call 130 [vs f] []) λ g=>aI g λ h=>fJ d3 λ j=>aV (j==[98,121,116,101]) (c1 (.call 74 [.p 0 0] [aC l7]) l7.length [] λ k l=>dI k λ m=>aO (m.length==0) (.ret (vs [105,56],[aC l]))) (aV (h==0) (c1 (.call 76 [.p 0 0] [aC l7]) l7.length [] λ n o=>aS n λ q => .ret (vs q,[aC o])) (aV (h != 15) (aV (h != 14) (aR (SD n0 h (h != 13) [aC [.d d2,.d d3,.d d4,.d d5,.d d6],aC l7])) (aR (SD n0 h false [aC [.d d2,.d d3,.d d4,.d d5,.d d6],aC l7]))) (aR (SD n0 h false [aC [.d d2,.d d3,.d d4,.d d5,.d d6],aC l7])))))):=aF
theorem Hx(n0:Int)(b1:Bool)(d2 d3 d4 d5 d6:D)(n7 n8 n9:Int)(l10:aE)(b11:Bool)(l12:List D)(l13:List V):EQ ch (Vp n0 b1 [aC [.d d2,.d d3,.d d4,.d d5,.d d6],aC (fX l10 n7 n8 n9 b11 l12),aC l13]) (aV b1 (c1 (.call 74 [.p 0 0] [aC l13]) l13.length [] λ a c=>dI a λ e=>aO (e.length==0) (fJ d3 λ f => .ret (.d (.g [.i .i64 4,.i .i64 0,.i .u64 0,.s f,.l true []]),[aC c]))) (cf .i64 d2 λ h=>aV (h==1) (c1 (.call 76 [.p 0 0] [aC l13]) l13.length [] λ j k=>aS j λ m => .ret (.d (.g [.i .i64 4,.i .i64 0,.i .u64 0,.s m,.l true []]),[aC k])) (c1 (.call 128 [.p 0 0,vs [91]] [aC l13]) l13.length [] λ n o=>aB n λ q=>aV q (aR (VK n0 true [aC (fX l10 n7 n8 n9 b11 l12),aC o])) (c1 (.call 128 [.p 0 0,vs [123]] [aC o]) o.length [] λ r t=>aB r λ v=>aR (VK n0 v [aC (fX l10 n7 n8 n9 b11 l12),aC t]))))):=aF
theorem MC(n0:Int)(l1:aE)(n2 n3 n4:Int)(l5:aE)(b6:Bool)(l7:List D)(n8 n9 n10:Int)(l11:aE)(b12:Bool)(l13:List D)(l14:List V):EQ ch (Vr l1 n0 [.cells (fX l5 n2 n3 n4 b6 l7) [(4,5)],aC (fX l11 n8 n9 n10 b12 l13),aC l14]) (c1 (.call 74 [.p 0 0] [aC l14]) l14.length [] λ a b=>dI a λ c=>aO (c.length==0) (aR (Vk l1 n0 0 [.cells (fX l5 n2 n3 n4 b6 l7) [(4,5)],aC (fX l11 n8 n9 n10 b12 l13),aC b]))):=aF
theorem Hw(n0 n1:Int)(b2:Bool)(d3 d4 d5 d6 d7:D)(l8:List V):EQ ch (SD n0 n1 b2 [aC [.d d3,.d d4,.d d5,.d d6,.d d7],aC l8]) (aV b2 (c1 (.call 74 [.p 0 0] [aC l8]) l8.length [] λ a c=>dI a λ e=>aO (e.length==0) (fJ d4 λ f => .ret (vs f,[aC c]))) (aV (decide (n0>12)) (c1 (.call 40 [.p 0 0,vi 6] [aC l8]) l8.length [] λ g h=>dI g λ j=>aO (j.length==0) (.ret (vs [],[aC h]))) (c1 (.call 74 [.p 0 0] [aC l8]) l8.length [] λ k l=>dI k λ m=>aO (m.length==0) (c1 (.call 79 [.p 0 0,vs [60]] [aC l]) l.length [] λ n o=>dI n λ q=>aO (q.length==0) (c1 (.call 77 [.p 0 0,vi (i64.wrap (n0+1))] [aC o]) o.length [] λ r t=>aS r λ v=>aV (n1==13) (c1 (.call 79 [.p 0 0,vs [44]] [aC t]) t.length [] λ w x=>dI w λ y=>aO (y.length==0) (c1 (.call 77 [.p 0 0,vi (i64.wrap (n0+1))] [aC x]) x.length [] λ z a0=>aS z λ a1=>aR (KC v a1 n1 [aC a0]))) (aR (KC v [] n1 [aC t]))))))):=aF
theorem Cm(n0:Int)(b1:Bool)(n2 n3 n4:Int)(l5:aE)(b6:Bool)(l7:List D)(l8:List V):EQ ch (VK n0 b1 [aC (fX l5 n2 n3 n4 b6 l7),aC l8]) (aV b1 (c1 (.call 132 [.p 0 0,vi n0] [aC l8]) l8.length [] λ a c=>bG a λ e=>j5 5 e λ f=>aO ([.d (aH f 0),.d (aH f 1),.d (aH f 2),.d (aH f 3),.d (aH f 4)].all V.one) (.ret (.d (.g [f.getD 0 (.b false),f.getD 1 (.b false),f.getD 2 (.b false),f.getD 3 (.b false),f.getD 4 (.b false)]),[aC c]))) (c1 (.call 40 [.p 0 0,vi 2] [aC l8]) l8.length [] λ h j=>dI h λ k=>aO (k.length==0) (.ret (.d (.g [.i .i64 0,.i .i64 0,.i .u64 0,.s [],.l true []]),[aC j])))):=aF
theorem Ho(n0:Int)(l1:aE)(n2 n3 n4 n5:Int)(l6:aE)(b7:Bool)(l8:List D)(n9 n10 n11:Int)(l12:aE)(b13:Bool)(l14:List D)(l15:List V):EQ ch (Vk l1 n0 n2 [.cells (fX l6 n3 n4 n5 b7 l8) [(4,5)],aC (fX l12 n9 n10 n11 b13 l14),aC l15]) (ob l15[2]? λ a=>aI a λ c=>aV (c==0) (c1 (.call 128 [.p 0 0,vs l1] [aC l15]) l15.length [] λ e f=>aB e λ g=>aR (.at_ 132 1 (aJ 6335) (sv 68 [(0,.p 0 0),(1,vi n0),(4,.p 1 0),(5,.p 2 0),(6,vs l1),(7,vi n2),(29,vb !g)]) [] [.cells (fX l6 n3 n4 n5 b7 l8) [(4,5)],aC (fX l12 n9 n10 n11 b13 l14),aC f])) (aR (X8 l1 n0 n2 false [.cells (fX l6 n3 n4 n5 b7 l8) [(4,5)],aC (fX l12 n9 n10 n11 b13 l14),aC l15]))):=aF
theorem Hv(n0:Int)(l1 l2:aE)(l3:List V):EQ ch (KC l1 l2 n0 [aC l3]) (c1 (.call 79 [.p 0 0,vs [62]] [aC l3]) l3.length [] λ a b=>dI a λ c=>aO (c.length==0) (cV (.call 131 [vi n0,vs [],vs l1,vs l2] []) λ e=>aS e λ f => .ret (vs f,[aC b]))):=aF
theorem D6(n0:Int)(l1:aE)(n2:Int)(b3:Bool)(n4 n5 n6:Int)(l7:aE)(b8:Bool)(l9:List D)(n10 n11 n12:Int)(l13:aE)(b14:Bool)(l15:List D)(l16:List V):EQ ch (X8 l1 n0 n2 b3 [.cells (fX l7 n4 n5 n6 b8 l9) [(4,5)],aC (fX l13 n10 n11 n12 b14 l15),aC l16]) (aV b3 (aV (n2==40) (c1 (.call 179 [.p 0 0] [aC l16]) l16.length [] λ a c=>aB a λ e=>aR (Vf l1 n0 n2 e [.cells (fX l7 n4 n5 n6 b8 l9) [(4,5)],aC (fX l13 n10 n11 n12 b14 l15),aC c])) (aR (Vf l1 n0 n2 false [.cells (fX l7 n4 n5 n6 b8 l9) [(4,5)],aC (fX l13 n10 n11 n12 b14 l15),aC l16]))) (aR (VJ l1 [.cells (fX l7 n4 n5 n6 b8 l9) [(4,5)],aC (fX l13 n10 n11 n12 b14 l15),aC l16]))):=aF
theorem sE(n0:Int)(l1:aE)(n2:Int)(b3:Bool)(n4 n5 n6:Int)(l7:aE)(b8:Bool)(l9:List D)(n10 n11 n12:Int)(l13:aE)(b14:Bool)(l15:List D)(l16:List V):EQ ch (Vf l1 n0 n2 b3 [.cells (fX l7 n4 n5 n6 b8 l9) [(4,5)],aC (fX l13 n10 n11 n12 b14 l15),aC l16]) (aV b3 (c1 (.call 40 [.p 0 0,vi 4] [aC l16]) l16.length [] λ o0 l3=>dI o0 λ l5=>aO (l5.length==0) (aR (VJ l1 [.cells (fX l7 n4 n5 n6 b8 l9) [(4,5)],aC (fX l13 n10 n11 n12 b14 l15),aC l3]))) (c1 (.call 80 [.p 0 0,vi (i64.wrap (n0+1))] [aC l16]) l16.length [] λ o6 l_9_1=>bG o6 λ d11=>j5 5 d11 λ l12=>aO (bA 5 l9) (aO (b8||dV [.g [l12.getD 0 (.b false),l12.getD 1 (.b false),l12.getD 2 (.b false),l12.getD 3 (.b false),l12.getD 4 (.b false)]]) (aO (decide (l9.length+1<=4294967296)) (aV (l1==[125]) (c1 (.call 79 [.p 0 0,vs [58]] [aC l_9_1]) l_9_1.length [] λ o13 l16=>dI o13 λ l18=>aO (l18.length==0) (c1 (.call 80 [.p 0 0,vi (i64.wrap (n0+1))] [aC l16]) l16.length [] λ o19 l22=>bG o19 λ d24=>j5 5 d24 λ l25=>aO (bA 5 (l9++[D.g [l12.getD 0 (.b false),l12.getD 1 (.b false),l12.getD 2 (.b false),l12.getD 3 (.b false),l12.getD 4 (.b false)]])) (aO (b8&&false||dV [.g [l25.getD 0 (.b false),l25.getD 1 (.b false),l25.getD 2 (.b false),l25.getD 3 (.b false),l25.getD 4 (.b false)]]) (aO (decide ((l9++[D.g [l12.getD 0 (.b false),l12.getD 1 (.b false),l12.getD 2 (.b false),l12.getD 3 (.b false),l12.getD 4 (.b false)]]).length+1<=4294967296)) (c1 (.call 84 [.p 0 0] [aC l22]) l22.length [] λ o26 l29=>dI o26 λ l31=>aO (l31.length==0) (aR (Vi l1 n0 n2 [.cells (fX l7 n4 n5 n6 (b8&&false&&false) (l9++[D.g [l12.getD 0 (.b false),l12.getD 1 (.b false),l12.getD 2 (.b false),l12.getD 3 (.b false),l12.getD 4 (.b false)]]++[D.g [l25.getD 0 (.b false),l25.getD 1 (.b false),l25.getD 2 (.b false),l25.getD 3 (.b false),l25.getD 4 (.b false)]])) [(4,5)],aC (fX l13 n10 n11 n12 b14 l15),aC l29]))))))) (c1 (.call 84 [.p 0 0] [aC l_9_1]) l_9_1.length [] λ o32 l35=>dI o32 λ l37=>aO (l37.length==0) (aR (Vi l1 n0 n2 [.cells (fX l7 n4 n5 n6 (b8&&false) (l9++[D.g [l12.getD 0 (.b false),l12.getD 1 (.b false),l12.getD 2 (.b false),l12.getD 3 (.b false),l12.getD 4 (.b false)]])) [(4,5)],aC (fX l13 n10 n11 n12 b14 l15),aC l35])))))))):=aF
theorem Hn(l0:aE)(n1 n2 n3:Int)(l4:aE)(b5:Bool)(l6:List D)(n7 n8 n9:Int)(l10:aE)(b11:Bool)(l12:List D)(l13:List V):EQ ch (VJ l0 [.cells (fX l4 n1 n2 n3 b5 l6) [(4,5)],aC (fX l10 n7 n8 n9 b11 l12),aC l13]) (c1 (.call 79 [.p 0 0,vs l0] [aC l13]) l13.length [] λ a b=>dI a λ c=>aO (c.length==0) (.ret (.d (.g [.i .i64 n1,.i .i64 n2,.i .u64 n3,.s l4,.l b5 l6]),[aC b]))):=aF
theorem D7(n0:Int)(l1:aE)(n2 n3 n4 n5:Int)(l6:aE)(b7:Bool)(l8:List D)(n9 n10 n11:Int)(l12:aE)(b13:Bool)(l14:List D)(l15:List V):EQ ch (Vi l1 n0 n2 [.cells (fX l6 n3 n4 n5 b7 l8) [(4,5)],aC (fX l12 n9 n10 n11 b13 l14),aC l15]) (aR (Vk l1 n0 (i64.wrap (n2+1)) [.cells (fX l6 n3 n4 n5 b7 l8) [(4,5)],aC (fX l12 n9 n10 n11 b13 l14),aC l15])):=aF
end Go.Dn.Dec
namespace Go.Dn.Dec.Pa
open Go.IntKind (i64 u64 u8 u16 i32 u32)
open Go.Proofs
open Tryz (prog)
set_option maxRecDepth 100000
structure PS where
 i:Nat
 e:Int
 a:Int
abbrev YW:Tok:=⟨6,[],0,0,0⟩
structure Wds (W:List Tok):Prop where
 pos:0<W.length
 len:W.length<=100000
 last:∀i,i<W.length->(W.getD i YW).kind≠6->i+1<W.length
 txt:∀t∈W,t.text.length<=2000
section
variable (W : List Tok)
def bm(s:PS):Tok:=W.getD s.i YW
def dx(c:Int)(s:PS):PS:=if s.e=0 then⟨s.i,c,(bm W s).at_⟩else s
def aZ(s:PS):PS:=⟨s.i+1,s.e,s.a⟩
def pF(k:Nat)(g:aE)(s:PS):Prop:=s.e=0/\(bm W s).kind=k/\(bm W s).text=g
instance (k:Nat) (g:aE) (s:PS):Decidable (pF W k g s):=inferInstanceAs (Decidable (_/\_/\_))
abbrev gh(g:aE)(s:PS):Prop:=pF W 5 g s
abbrev bP(g:aE)(s:PS):Prop:=pF W 1 g s
def cS(k:Nat)(g:aE)(s:PS):PS:=if pF W k g s then aZ s else s
def cH(g:aE)(s:PS):PS:=if gh W g s then aZ s else dx W 2 s
def fS(s:PS):PS:=if gh W [44] s then aZ s else cS W 5 [59] s
def bR(ok:aE->Bool)(s:PS):aE×PS:=if s.e=0/\(bm W s).kind=1/\ok (bm W s).text=true then((bm W s).text,aZ s) else([],dx W 2 s)
structure Mv (s s':PS):Prop where
 le:s.i<=s'.i
 lt:s'.i<W.length
 e:s'.e=0->s.e=0
end
abbrev pC(b:Bool)(W:List Tok)(s:PS):List V:=(kO (s.i:Int) s.e s.a b (zn W))
abbrev pO(b:Bool)(W:List Tok)(s:PS):List Ob:=[aC (pC b W s)]
section
variable {f : Task → Option Out}
theorem kh{t:Task}{b:aE}{cs:List V}{fl fl':Fl}{m:Nat}{K:List V->aE->Tr}(h:f t=some (vs b,[.cells cs fl]))(hm:cs.length=m:=by rfl)(hf:(fl==fl')=true:=by rfl):
  aD f (.call t λ o=>eE o.snd λ x l2=>dA x λ c g=>aO (c.length==m) (aO (g==fl') (iY l2 (bG o.fst λ d=>fJ d λ y=>K c y))))=aD f (K cs b):=by
 rw[cr h];show aD f (aO (cs.length==m) (aO (fl==fl') (K cs b)))=_;rw[hm,abq,aQ,hf,aQ]
theorem jR{t:Task}{ds:List D}{k:Nat}{cs:List V}{fl fl':Fl}{m:Nat}{K:List V->List D->Tr}(h:f t=some (.d (.g ds),[.cells cs fl]))(hk:ds.length=k:=by rfl)(hm:cs.length=m:=by rfl)(hf:(fl==fl')=true:=by rfl):
  aD f (.call t λ o=>eE o.snd λ x l2=>dA x λ c g=>aO (c.length==m) (aO (g==fl') (iY l2 (bG o.fst λ d=>j5 k d λ y=>K c y))))=aD f (K cs ds):=by
 rw[cr h];show aD f (aO (cs.length==m) (aO (fl==fl') (j5 k (.g ds) λ y=>K cs y)))=_;rw[hm,abq,aQ,hf,aQ,lH,aaR hk]
theorem Re{t:Task}{b:Bool}{l:List D}{cs:List V}{fl fl':Fl}{m:Nat}{K:List V->Bool->List D->Tr}(h:f t=some (vl b l,[.cells cs fl]))(hm:cs.length=m:=by rfl)(hf:(fl==fl')=true:=by rfl):
  aD f (.call t λ o=>eE o.snd λ x l2=>dA x λ c g=>aO (c.length==m) (aO (g==fl') (iY l2 (bG o.fst λ d=>gX d λ y z=>K c y z))))=aD f (K cs b l):=by
 rw[cr h];show aD f (aO (cs.length==m) (aO (fl==fl') (K cs b l)))=_;rw[hm,abq,aQ,hf,aQ]
theorem sY{l:List V}{j:Nat}{n:Int}(h:l[j]?=some (vi n)){K:Int->Tr}:aD f (ob l[j]? λ v=>aI v K)=aD f (K n):=by rw[bz h];exact YL
end
section
variable {b : Bool} {W : List Tok} (hW : Wds W) {s : PS} (hs : s.i < W.length)
theorem JN(hs:s.i<W.length):bm W s=W[s.i]:=by unfold bm;rw[abG,abl hs];rfl
theorem X5(hs:s.i<W.length):(zn W)[s.i]?=some (bm W s).D:=by rw[JN hs];unfold zn;rw[List.getElem?_map,abl hs];rfl
include hW in
theorem jM(hs:s.i<W.length):(bm W s).text.length<=2000:=by rw[JN hs];exact hW.txt _ (List.getElem_mem hs)
include hW in
theorem Mv.next(hs:s.i<W.length)(hk:(bm W s).kind≠6):(aZ s).i<W.length:=hW.last s.i hs hk
theorem jv(hs:s.i<W.length):RU (.call 38 [.p 0 0] (pO b W s))=some (.d (bm W s).D,pO b W s):=by rw[RU,u38];refine(j0 (i:=s.i) (X5 hs) rfl).trans ?_;rfl
theorem jH(hs:s.i<W.length)(c:Int):RU (.call 40 [.p 0 0,vi c] (pO b W s))=some (.t [],pO b W (dx W c s)):=by
 rw[RU,u40];unfold dx;by_cases h:s.e=0
 ·rw[bM h,aaR h];refine(jR (jv hs)).trans ?_;refine cT.trans ?_;rfl
 ·rw[bp h,aaN h];rfl
include hW in
theorem ir(hs:s.i<W.length):RU (.call 74 [.p 0 0] (pO b W s))=some (.t [],pO b W (aZ s)):=by have:=hW.len;rw[RU,u74,iZ];rfl
theorem aaf(a b:Nat):((a:Int)==(b:Int))=decide (a=b):=by
 by_cases h:a=b
 ·subst h;simp
 ·rw[abf h];exact abr.2 (by omega)
theorem Pe{p q r:Prop}[Decidable p][Decidable q][Decidable r]:decide (p/\q/\r)=(decide p&&(decide q&&decide r)):=by simp
theorem JA(k:Nat)(g:aE):decide (pF W k g s)=(decide (s.e=0)&&(decide ((bm W s).kind=k)&&decide ((bm W s).text=g))):=Pe
theorem xI(hs:s.i<W.length)(g:aE):RU (.call 128 [.p 0 0,vs g] (pO b W s))=some (vb (decide (gh W g s)),pO b W s):=by
 rw[RU,aaW,JA];by_cases h:s.e=0
 ·rw[bM h,aa3 h];refine(jR (jv hs)).trans ?_;refine cT.trans ?_;by_cases h2:(bm W s).kind=5
  ·rw[bM,aa3 h2];refine(jR (jv hs)).trans ?_;show some (vb ((bm W s).text==g),_)=_;rw[nL];rfl
  ·rw[bp,abf h2];rfl
 ·rw[bp h,abf h];rfl
theorem Di(hs:s.i<W.length)(g:aE):RU (.call 71 [.p 0 0,vs g] (pO b W s))=some (vb (decide (bP W g s)),pO b W s):=by
 rw[RU,u71,JA];by_cases h:s.e=0
 ·rw[bM h,aa3 h];refine(jR (jv hs)).trans ?_;refine cT.trans ?_;by_cases h2:(bm W s).kind=1
  ·rw[bM,aa3 h2];refine(jR (jv hs)).trans ?_;show some (vb ((bm W s).text==g),_)=_;rw[nL];rfl
  ·rw[bp,abf h2];rfl
 ·rw[bp h,abf h];rfl
include hW in
theorem rX(hs:s.i<W.length)(g:aE):RU (.call 72 [.p 0 0,vs g] (pO b W s))=some (vb (decide (bP W g s)),pO b W (cS W 1 g s)):=by
 rw[RU,u72];refine(dL (Di hs g)).trans ?_;unfold cS;by_cases h:bP W g s
 ·rw[bC h,aaR h,aa3 h];refine(dZ (ir hW hs)).trans ?_;rfl
 ·rw[bB h,aaN h,abf h];rfl
include hW in
theorem yF(hs:s.i<W.length)(g:aE):RU (.call 75 [.p 0 0,vs g] (pO b W s))=some (vb (decide (gh W g s)),pO b W (cS W 5 g s)):=by
 rw[RU,u75];refine(dL (xI hs g)).trans ?_;unfold cS;by_cases h:gh W g s
 ·rw[bC h,aaR h,aa3 h];refine(dZ (ir hW hs)).trans ?_;rfl
 ·rw[bB h,aaN h,abf h];rfl
include hW in
theorem jf(hs:s.i<W.length)(g:aE):RU (.call 79 [.p 0 0,vs g] (pO b W s))=some (.t [],pO b W (cH W g s)):=by
 rw[RU,u79];refine(dL (xI hs g)).trans ?_;unfold cH;by_cases h:gh W g s
 ·rw[aaR h,aa3 h,mr];refine(dZ (ir hW hs)).trans ?_;rfl
 ·rw[aaN h,abf h,kX];refine(dZ (jH hs 2)).trans ?_;rfl
include hW in
theorem uI(hs:s.i<W.length):RU (.call 84 [.p 0 0] (pO b W s))=some (.t [],pO b W (fS W s)):=by
 rw[RU,u84];refine(dL (yF hW hs [44])).trans ?_;unfold fS;by_cases h:gh W [44] s
 ·rw[aaR h,aa3 h,mr];unfold cS;rw[aaR h];rfl
 ·rw[aaN h,abf h,kX];have e:cS W 5 [44] s=s:=by unfold cS;rw[aaN h]
  rw[e];refine(dL (yF hW hs [59])).trans ?_;rfl
include hW in
theorem pM(hs:s.i<W.length):RU (.call 78 [.p 0 0] (pO b W s))=some (vs (bR W bu s).1,pO b W (bR W bu s).2):=by
 have no:RU (KZ true [aC ((bm W s).D.cells.map V.d),aC (pC b W s)])=some (vs [],pO b W (dx W 2 s)):=by rw[RU];refine(EA ..).trans ?_;rw[bQ];refine(dZ (jH hs 2)).trans ?_;rfl
 rw[RU,u78];refine(jR (jv hs)).trans ?_;refine aQ.trans ?_;refine(sY (j:=2) (n:=s.e) rfl).trans ?_;unfold bR;by_cases h:s.e=0
 ·rw[eN h];refine cT.trans ?_;by_cases h2:(bm W s).kind=1
  ·rw[eN (by omega)]
   refine(gJ (ta _ (abI (jM hW hs) (by decide)))).trans ?_
   cases h3:bu (bm W s).text with
   |true=>
    rw[aaR ⟨h,h2,rfl⟩];refine aM ?_;rw[RU];refine(EA ..).trans ?_;refine bH.trans ?_;refine(dZ (ir hW hs)).trans ?_;rfl
   |false=>
    rw[aaN (by simp)];exact aM no
  ·rw[fj (by omega),aaN (by simp[h2])]
   exact aM no
 ·rw[fj h,aaN (by simp[h])]
  exact aM no
include hW in
theorem sH(hs:s.i<W.length):RU (.call 76 [.p 0 0] (pO b W s))=some (vs (bR W fY s).1,pO b W (bR W fY s).2):=by
 have no:RU (KY true [aC ((bm W s).D.cells.map V.d),aC (pC b W s)])=some (vs [],pO b W (dx W 2 s)):=by rw[RU];refine(Ey ..).trans ?_;rw[bQ];refine(dZ (jH hs 2)).trans ?_;rfl
 rw[RU,u76];refine(jR (jv hs)).trans ?_;refine aQ.trans ?_;refine(sY (j:=2) (n:=s.e) rfl).trans ?_;unfold bR;by_cases h:s.e=0
 ·rw[eN h];refine cT.trans ?_;by_cases h2:(bm W s).kind=1
  ·rw[eN (by omega)]
   refine(gJ (PJ _ (abI (jM hW hs) (by decide)))).trans ?_
   cases h3:fY (bm W s).text with
   |true=>
    rw[aaR ⟨h,h2,rfl⟩];refine aM ?_;rw[RU];refine(Ey ..).trans ?_;refine bH.trans ?_;refine(dZ (ir hW hs)).trans ?_;rfl
   |false=>
    rw[aaN (by simp)];exact aM no
  ·rw[fj (by omega),aaN (by simp[h2])]
   exact aM no
 ·rw[fj h,aaN (by simp[h])]
  exact aM no
end
section
variable {W : List Tok} {s s' s'' : PS}
structure Ad (W:List Tok) (s s':PS):Prop extends Mv W s s' where
 ad:s'.e=0->s.i<s'.i
theorem Mv.trans(h:Mv W s s')(k:Mv W s' s''):Mv W s s'':=⟨abI h.le k.le,k.lt,λ e=>h.e (k.e e)⟩
theorem Mv.ad(h:Mv W s s')(k:Ad W s' s''):Ad W s s'':=⟨h.trans k.toMv,λ e=>Nat.lt_of_le_of_lt h.le (k.ad e)⟩
theorem Ad.mv(h:Ad W s s')(k:Mv W s' s''):Ad W s s'':=⟨h.toMv.trans k,λ e=>abL (h.ad (k.e e)) k.le⟩
theorem Mv.refl(h:s.i<W.length):Mv W s s:=⟨aa4 _,h,λ e=>e⟩
variable (hW : Wds W) (hs : s.i < W.length)
include hW in
theorem bU(hs:s.i<W.length)(hk:(bm W s).kind≠6):Ad W s (aZ s):=⟨⟨Nat.le_succ _,Mv.next hW hs hk,λ e=>e⟩,λ _=>Nat.lt_succ_self _⟩
theorem jG(c:Int)(hc:c≠0)(hs:s.i<W.length):Mv W s (dx W c s):=by
 unfold dx;split
 ·exact⟨aa4 _,hs,λ e=>absurd e hc⟩
 ·exact Mv.refl hs
theorem hJ(c:Int)(hc:c≠0):(dx W c s).e≠0:=by
 unfold dx;split
 ·exact hc
 ·assumption
theorem mj(c:Int)(hc:c≠0)(hs:s.i<W.length):Ad W s (dx W c s):=⟨jG c hc hs,λ e=>absurd e (hJ c hc)⟩
theorem cF{k:Nat}{g:aE}(h:pF W k g s)(hk:k≠6):(bm W s).kind≠6:=by rw[h.2.1];exact hk
include hW in
theorem tE(k:Nat)(g:aE)(hk:k≠6)(hs:s.i<W.length):Mv W s (cS W k g s):=by
 unfold cS;split
 ·rename_i h;exact(bU hW hs (cF h hk)).toMv
 ·exact Mv.refl hs
include hW in
theorem bX(g:aE)(hs:s.i<W.length):Ad W s (cH W g s):=by
 unfold cH;split
 ·rename_i h;exact bU hW hs (cF h (by decide))
 ·exact mj 2 (by decide) hs
include hW in
theorem gz(hs:s.i<W.length):Mv W s (fS W s):=by
 unfold fS;split
 ·rename_i h;exact(bU hW hs (cF h (by decide))).toMv
 ·exact tE hW 5 [59] (by decide) hs
include hW in
theorem cz(ok:aE->Bool)(hs:s.i<W.length):Ad W s (bR W ok s).2:=by
 unfold bR;split
 ·rename_i h;exact bU hW hs (by rw[h.2.1];decide)
 ·exact mj 2 (by decide) hs
include hW in
theorem pL(ok:aE->Bool)(hs:s.i<W.length):(bR W ok s).1.length<=2000:=by
 unfold bR;split
 ·exact jM hW hs
 ·exact Nat.zero_le _
end
section
variable (W : List Tok)
def ki(sub:PS->Option (aE×PS))(s:PS):aE×PS:=
 if s.e=0/\(bm W s).kind=1 then
  if (bm W s).text=[98,121,116,101] then([105,56],aZ s)
  else if eO (bm W s).text=0 then bR W fY s
  else if eO (bm W s).text=15\/eO (bm W s).text=14\/eO (bm W s).text=13 then
   match sub (cH W [60] (aZ s)) with
   |none=>([],dx W 6 s)
   |some x=>
    if eO (bm W s).text=13 then
     match sub (cH W [44] x.2) with
     |none=>([],dx W 6 s)
     |some y=>(ny 13 x.1 y.1,cH W [62] y.2)
    else(ny (eO (bm W s).text) x.1 [],cH W [62] x.2)
  else((bm W s).text,aZ s)
 else([],dx W 2 s)
def eU:Nat->PS->aE×PS
 |0=>ki W λ _=>none
 |n+1=>ki W λ s=>some (eU n s)
end
section
variable {b : Bool} {W : List Tok} (hW : Wds W)
include hW in
theorem L2{sub:PS->Option (aE×PS)}(hsub:∀s x,s.i<W.length->sub s=some x->Ad W s x.2){s:PS}(hs:s.i<W.length):Ad W s (ki W sub s).2:=by
 unfold ki;split
 ·rename_i h;have hn:=bU hW hs (by rw[h.2];decide);split
  ·exact hn
  ·split
   ·exact cz hW fY hs
   ·split
    ·have h1:=hn.mv (bX hW [60] hn.lt).toMv;split
     ·exact mj 6 (by decide) hs
     ·rename_i x hx;have h2:=h1.mv (hsub _ _ h1.lt hx).toMv;split
      ·have h3:=h2.mv (bX hW [44] h2.lt).toMv;split
       ·exact mj 6 (by decide) hs
       ·rename_i y hy;have h4:=h3.mv (hsub _ _ h3.lt hy).toMv;exact h4.mv (bX hW [62] h4.lt).toMv
      ·exact h2.mv (bX hW [62] h2.lt).toMv
    ·exact hn
 ·exact mj 2 (by decide) hs
include hW in
theorem iA:∀(n:Nat) {s:PS},s.i<W.length->Ad W s (eU W n s).2
 |0,s,hs=>L2 hW (λ _ _ _ h=>by cases h) hs
 |n+1,s,hs=>L2 hW (λ s x hs h=>by injection h with h;subst h;exact iA n hs) hs
theorem qC{k:Int}{x y:aE}:(ny k x y).length<=x.length+y.length+6:=by
 unfold ny;split
 ·simp;omega
 ·have:(Xv k).length<=4:=by unfold Xv;split;decide;split<;>decide
  simp;omega
include hW in
theorem Gs{sub:PS->Option (aE×PS)}{m:Nat}(hm:2000<=m)(hsub:∀s x,s.i<W.length->sub s=some x->Ad W s x.2/\x.1.length<=m){s:PS}(hs:s.i<W.length):(ki W sub s).1.length<=2*m+6:=by
 unfold ki;split
 ·rename_i h;have hn:=bU hW hs (by rw[h.2];decide);split
  ·simp
  ·split
   ·have:=pL hW fY hs;omega
   ·split
    ·have h1:=hn.mv (bX hW [60] hn.lt).toMv;split
     ·simp
     ·rename_i x hx;have h2:=h1.mv (hsub _ _ h1.lt hx).1.toMv;have l2:=(hsub _ _ h1.lt hx).2;split
      ·have h3:=h2.mv (bX hW [44] h2.lt).toMv;split
       ·simp
       ·rename_i y hy;have l4:=(hsub _ _ h3.lt hy).2;have:=qC (k:=13) (x:=x.1) (y:=y.1);simp only;omega
      ·have:=qC (k:=eO (bm W s).text) (x:=x.1) (y:=[]);simp only[abp]at this⊢;omega
    ·have:=jM hW hs;simp only;omega
 ·simp
include hW in
theorem L3:∀(n:Nat) {s:PS},s.i<W.length->(eU W n s).1.length+6<=4012*2^n
 |0,s,hs=>by have:=Gs hW (m:=2000) (aa4 _) (sub:=λ _=>none) (λ _ _ _ h=>by cases h) hs;simp only[eU];omega
 |n+1,s,hs=>by
  have h0:0<2^n:=abt (by decide);have:=Gs hW (m:=4012*2^n-6) (by omega) (sub:=λ s=>some (eU W n s)) (λ s x hs h=>by
   injection h with h;subst h
   have:=L3 n hs
   exact⟨iA hW n hs,by omega⟩) hs
  simp only[eU];rw[abx];omega
include hW in
theorem nC{n:Nat}(hn:n<=12){s:PS}(hs:s.i<W.length):(eU W n s).1.length<=100000000:=by
 have h:=L3 hW n hs;have h2:2^n<=2^12:=abM (by decide) hn;have:(2:Nat)^12=4096:=by decide
 omega
include hW in
theorem BJ:∀(n:Nat),n<=12->∀{s:PS},s.i<W.length->RU (.call 77 [.p 0 0,vi (13-n:Int)] (pO b W s))=some (vs (eU W n s).1,pO b W (eU W n s).2):=by
 have body:∀(n:Nat) (sub:PS->Option (aE×PS)),n<=12->(∀{s:PS} {x},s.i<W.length->sub s=some x->n≠0/\RU (.call 77 [.p 0 0,vi (13-n+1:Int)] (pO b W s))=some (vs x.1,pO b W x.2)/\Ad W s x.2/\x.1.length<=100000000)->(∀s,sub s=none->n=0)->
   ∀{s:PS},s.i<W.length->RU (.call 77 [.p 0 0,vi (13-n:Int)] (pO b W s))=some (vs (ki W sub s).1,pO b W (ki W sub s).2):=by
  intro n sub hn hsub hsub0 s hs;have bad:¬(s.e=0/\(bm W s).kind=1)->RU (SK (13-n:Int) true [aC ((bm W s).D.cells.map V.d),aC (pC b W s)])=some (vs (ki W sub s).1,pO b W (ki W sub s).2):=by intro h;unfold ki;rw[aaN h,RU];refine(Ez ..).trans ?_;rw[bQ];refine(dZ (jH hs 2)).trans ?_;rfl
  have at4047:∀(k:Int) (w:Bool),k=eO (bm W s).text->(bm W s).text≠[98,121,116,101]->k≠0->s.e=0->(bm W s).kind=1->w=decide (¬(k=15\/k=14\/k=13))->
    RU (SD (13-n:Int) k w [aC ((bm W s).D.cells.map V.d),aC (pC b W s)])=some (vs (ki W sub s).1,pO b W (ki W sub s).2):=by
   intro k w hk hby hk0 he h1 hw;have hn1:=bU hW hs (by rw[h1];decide);unfold ki;rw[aaR ⟨he,h1⟩,aaN hby,<-hk,aaN hk0,RU];refine(Hw ..).trans ?_;rw[hw];by_cases hc:k=15\/k=14\/k=13
   ·rw[bB (not_not_intro hc),aaR hc];have hgt:((13-n:Int)>12)↔n=0:=by omega
    cases hx:sub (cH W [60] (aZ s)) with
    |none=>
     have hn0:=hsub0 _ hx;rw[bC (hgt.2 hn0)];refine(dZ (jH hs 6)).trans ?_;rfl
    |some x=>
     have h2:=hn1.mv (bX hW [60] hn1.lt).toMv;obtain⟨hn0,hr,hx1,hx2⟩:=hsub h2.lt hx;rw[bB (λ h=>hn0 (hgt.1 h))];refine(dZ (ir hW hs)).trans ?_;refine(dZ (jf hW hn1.lt [60])).trans ?_;rw[iZ];refine(kh hr).trans ?_;have h3:=h2.mv hx1.toMv;have fin:∀(y:aE) (t:PS),t.i<W.length->y.length<=100000000->RU (KC x.1 y k (pO b W t))=some (vs (ny k x.1 y),pO b W (cH W [62] t)):=by intro y t ht hy;rw[RU];refine(Hv ..).trans ?_;refine(dZ (jf hW ht [62])).trans ?_;refine(gG (U3 k (by omega) x.1 y hx2 hy)).trans ?_;rfl
     by_cases h13:k=13
     ·rw[bM h13];dsimp only;rw[aaR h13];refine(dZ (jf hW h3.lt [44])).trans ?_;have h4:=h3.mv (bX hW [44] h3.lt).toMv
      cases hy:sub (cH W [44] x.2) with
      |none=>exact absurd (hsub0 _ hy) hn0
      |some y=>
       obtain⟨_,hr',hy1,hy2⟩:=hsub h4.lt hy;refine(kh hr').trans ?_;dsimp only;subst h13;exact aM (fin y.1 y.2 (h4.mv hy1.toMv).lt hy2)
     ·rw[bp h13];dsimp only;rw[aaN h13];exact aM (fin [] x.2 h3.lt (by simp))
   ·rw[bC hc,aaN hc];refine(dZ (ir hW hs)).trans ?_;rfl
  have at27:s.e=0->(bm W s).kind=1->RU (SK (13-n:Int) false [aC ((bm W s).D.cells.map V.d),aC (pC b W s)])=some (vs (ki W sub s).1,pO b W (ki W sub s).2):=by
   intro he h1;rw[RU];refine(Ez ..).trans ?_;refine bH.trans ?_;refine(gF (rl (bm W s).text)).trans ?_;by_cases hby:(bm W s).text=[98,121,116,101]
   ·refine(eH (by rw[hby];rfl)).trans ?_
    refine(dZ (ir hW hs)).trans ?_;unfold ki;rw[aaR ⟨he,h1⟩,aaR hby];rfl
   ·refine(cX (by rw[nL];exact abf hby)).trans ?_
    by_cases hk:eO (bm W s).text=0
    ·rw[bM hk];refine(kh (sH hW hs)).trans ?_;unfold ki;rw[aaR ⟨he,h1⟩,aaN hby,aaR hk];rfl
    ·rw[bp hk];by_cases h15:eO (bm W s).text=15
     ·rw[eN h15];exact aM (at4047 _ _ rfl hby hk he h1 (by simp[h15]))
     ·rw[fj h15];by_cases h14:eO (bm W s).text=14
      ·rw[eN h14];exact aM (at4047 _ _ rfl hby hk he h1 (by simp[h14]))
      ·rw[fj h14];refine aM (at4047 _ _ rfl hby hk he h1 ?_);by_cases h13:eO (bm W s).text=13
       ·simp[h13]
       ·simp[h13,h14,h15,bne]
  rw[RU,u77];refine(jR (jv hs)).trans ?_;refine aQ.trans ?_;refine(sY (j:=2) (n:=s.e) rfl).trans ?_;by_cases h:s.e=0
  ·rw[eN h];refine cT.trans ?_;by_cases h2:(bm W s).kind=1
   ·have e:(((bm W s).kind:Int) != 1)=false:=by rw[h2];rfl
    rw[e];exact aM (at27 h h2)
   ·have e:(((bm W s).kind:Int) != 1)=true:=bne_iff_ne.2 (by omega)
    rw[e];exact aM (bad λ x=>h2 x.2)
  ·rw[fj h];exact aM (bad λ x=>h x.1)
 intro n
 induction n with
 |zero=>intro hn s hs;exact body 0 (λ _=>none) hn (λ _ h=>by cases h) (λ _ _=>rfl) hs
 |succ n ih=>
  intro hn s hs;refine body (n+1) (λ s=>some (eU W n s)) hn (λ {s x} hs h=>?_) (λ s h=>by cases h) hs;injection h with h;subst h
  refine⟨by omega,?_,iA hW n hs,nC hW (by omega) hs⟩;have e:(13-((n+1:Nat):Int)+1)=(13-(n:Int)):=by omega
  rw[e];exact ih (by omega) hs
end
structure Cs where
 k:Int
 n:Int
 u:Int
 s:aE
 l:List D
def Cs.D(c:Cs):D:=cD c.k c.n c.u c.s c.l.isEmpty c.l
abbrev c0:Cs:=⟨0,0,0,[],[]⟩
abbrev vQ:aE:=[116,114,117,101]
abbrev rF:aE:=[102,97,108,115,101]
section
variable (W : List Tok)
def uc(s:PS):Bool:=
 if (bm W s).kind=2\/(bm W s).kind=3\/(bm W s).kind=4 then true
 else if (bm W s).kind=1 then decide ((bm W s).text=vQ\/(bm W s).text=rF)||fY (bm W s).text
 else decide (gh W [91] s\/gh W [123] s)
def iS(mp:Bool):aE:=if mp=true then [125]else [93]
def eQ(cst:PS->Cs×PS)(mp:Bool):Nat->Nat->List D->PS->List D×PS
 |0,_,L,s=>(L,s)
 |f+1,n,L,s=>
  if s.e=0/\¬gh W (iS mp) s then
   if n=40/\uc W s=true then(L,dx W 4 s)
   else if mp=true then eQ cst mp f (n+1) (L++[(cst s).1.D]++[(cst (cH W [58] (cst s).2)).1.D]) (fS W (cst (cH W [58] (cst s).2)).2)
   else eQ cst mp f (n+1) (L++[(cst s).1.D]) (fS W (cst s).2)
  else(L,s)
def od(cst:PS->Cs×PS)(s:PS):Cs×PS:=
 (⟨if gh W [123] s then 6 else 5,0,0,[],(eQ W cst (decide (gh W [123] s)) (W.length+2) 0 [] (aZ s)).1⟩,cH W (iS (decide (gh W [123] s))) (eQ W cst (decide (gh W [123] s)) (W.length+2) 0 [] (aZ s)).2)
def eZ(it:PS->Cs×PS)(s:PS):Cs×PS:=
 if s.e≠0 then(c0,s)
 else if (bm W s).kind=2 then(⟨1,(bm W s).n,0,[],[]⟩,aZ s)
 else if (bm W s).kind=3 then(⟨2,0,(bm W s).d,[],[]⟩,aZ s)
 else if (bm W s).kind=4 then(⟨3,0,0,(bm W s).text,[]⟩,aZ s)
 else if (bm W s).kind=1 then
  if (bm W s).text=vQ\/(bm W s).text=rF then(⟨4,0,0,(bm W s).text,[]⟩,aZ s)
  else(⟨4,0,0,(bR W fY s).1,[]⟩,(bR W fY s).2)
 else if gh W [91] s\/gh W [123] s then it s
 else(c0,dx W 2 s)
def cp:Nat->PS->Cs×PS
 |0=>eZ W λ s=>(c0,dx W 6 s)
 |n+1=>eZ W (od W (cp n))
end
section
variable {b : Bool} {W : List Tok} (hW : Wds W)
include hW in
theorem nh{cst:PS->Cs×PS}(hc:∀s,s.i<W.length->Mv W s (cst s).2)(mp:Bool):∀(f n:Nat) (L:List D) {s:PS},s.i<W.length->Mv W s (eQ W cst mp f n L s).2
 |0,n,L,s,hs=>Mv.refl hs
 |f+1,n,L,s,hs=>by
  unfold eQ;split
  ·split
   ·exact jG 4 (by decide) hs
   ·have h1:=hc s hs;split
    ·have h2:=h1.trans (bX hW [58] h1.lt).toMv;have h3:=h2.trans (hc _ h2.lt);have h4:=h3.trans (gz hW h3.lt);exact h4.trans (nh hc mp f _ _ h4.lt)
    ·have h4:=h1.trans (gz hW h1.lt);exact h4.trans (nh hc mp f _ _ h4.lt)
  ·exact Mv.refl hs
include hW in
theorem MW{cst:PS->Cs×PS}(hc:∀s,s.i<W.length->Mv W s (cst s).2){s:PS}(hs:s.i<W.length)(hk:(bm W s).kind≠6):Ad W s (od W cst s).2:=by have h1:=bU hW hs hk;have h2:=h1.mv (nh hW hc (decide (gh W [123] s)) (W.length+2) 0 [] h1.lt);exact h2.mv (bX hW _ h2.lt).toMv
include hW in
theorem z8{it:PS->Cs×PS}(hit:∀s,s.i<W.length->(bm W s).kind≠6->Ad W s (it s).2){s:PS}(hs:s.i<W.length):Mv W s (eZ W it s).2/\(s.e=0->Ad W s (eZ W it s).2):=by
 have ad:∀{s':PS},Ad W s s'->Mv W s s'/\(s.e=0->Ad W s s'):=λ h=>⟨h.toMv,λ _=>h⟩
 unfold eZ;split
 ·rename_i h;exact⟨Mv.refl hs,λ e=>absurd e h⟩
 split
 ·rename_i h;exact ad (bU hW hs (by rw[h];decide))
 split
 ·rename_i h;exact ad (bU hW hs (by rw[h];decide))
 split
 ·rename_i h;exact ad (bU hW hs (by rw[h];decide))
 split
 ·rename_i h;split
  ·exact ad (bU hW hs (by rw[h];decide))
  ·exact ad (cz hW fY hs)
 split
 ·rename_i h;exact ad (hit s hs (by rcases h with h|h<;>exact cF h (by decide)))
 ·exact ad (mj 2 (by decide) hs)
include hW in
theorem kz:∀(n:Nat) {s:PS},s.i<W.length->Mv W s (cp W n s).2/\(s.e=0->Ad W s (cp W n s).2)
 |0,s,hs=>z8 hW (λ s hs _=>mj 6 (by decide) hs) hs
 |n+1,s,hs=>z8 hW (λ s hs hk=>MW hW (λ s hs=>(kz n hs).1) hs hk) hs
include hW in
theorem YO{s:PS}(hs:s.i<W.length):RU (.call 179 [.p 0 0] (pO b W s))=some (vb (uc W s),pO b W s):=by
 have at107:∀w:Bool,w=decide ((bm W s).kind=2\/(bm W s).kind=3\/(bm W s).kind=4)->RU (SJ ((bm W s).kind:Int) w [aC ((bm W s).D.cells.map V.d),aC (pC b W s)])=some (vb (uc W s),pO b W s):=by
  intro w hw;rw[RU];refine(Ht ..).trans ?_;unfold uc;rw[hw];by_cases h:(bm W s).kind=2\/(bm W s).kind=3\/(bm W s).kind=4
  ·rw[bC h,aaR h];rfl
  ·rw[bB h,aaN h];by_cases h1:(bm W s).kind=1
   ·rw[bM,aaR h1];by_cases ht:(bm W s).text=vQ
    ·refine(eH (by rw[ht];rfl)).trans ?_
     rw[aa3 (.inl ht)];rfl
    ·refine(cX (by rw[nL];exact abf ht)).trans ?_
     by_cases hf:(bm W s).text=rF
     ·refine(eH (by rw[hf];rfl)).trans ?_
      rw[aa3 (.inr hf)];rfl
     ·refine(cX (by rw[nL];exact abf hf)).trans ?_
      refine(gJ (PJ _ (abI (jM hW hs) (by decide)))).trans ?_;rw[abf (λ h=>h.elim ht hf)];rfl
   ·rw[bp,aaN h1];refine(dL (xI hs [91])).trans ?_;by_cases ha:gh W [91] s
    ·rw[bC ha,aa3 (.inl ha)];rfl
    ·rw[bB ha];refine(dL (xI hs [123])).trans ?_;by_cases hb:gh W [123] s
     ·rw[aa3 hb,aa3 (.inr hb)];rfl
     ·rw[abf hb,abf (λ h=>h.elim ha hb)];rfl
 rw[RU,aa2];refine(jR (jv hs)).trans ?_;refine aQ.trans ?_;refine cT.trans ?_;by_cases h2:(bm W s).kind=2
 ·rw[bM];exact aM (at107 _ (by rw[h2];rfl))
 ·rw[bp];by_cases h3:(bm W s).kind=3
  ·rw[bM];exact aM (at107 _ (by rw[h3];rfl))
  ·rw[bp];refine aM (at107 _ ?_);rw[show (((bm W s).kind:Int)==4)=decide ((bm W s).kind=4)from aaf _ 4];simp[h2,h3]
theorem qN{f:Task->Option Out}{c:Bool}{X:Tr}(h:c=true):aD f (aO c X)=aD f X:=by rw[h];exact aQ
theorem Cs.one(c:Cs):dV [c.D]=true:=rfl
theorem V6{L:List D}(h:∀y∈L,y.width=5):bA 5 L=true:=by
 cases L with
 |nil=>rfl
 |cons y L=>exact beq_iff_eq.2 (h y (by simp))
theorem Un{L:List D}{x:D}:(L++[x]).isEmpty=false:=by cases L<;>rfl
abbrev Yt(mp:Bool)(L:List D):Ob := .cells (fX [] (if mp=true then 6 else 5) 0 0 L.isEmpty L) [(4,5)]
abbrev Wn:Ob := .cells (fX [] 0 0 0 true []) []
include hW in
theorem HL{cst:PS->Cs×PS}(d:Int)(hd:0<=d/\d<=100)(hc:∀s,s.i<W.length->Mv W s (cst s).2/\(s.e=0->Ad W s (cst s).2))(hr:∀s,s.i<W.length->RU (.call 80 [.p 0 0,vi (d+1)] (pO b W s))=some (.d (cst s).1.D,pO b W (cst s).2))(mp:Bool):∀(f n:Nat) (L:List D) {s:PS},s.i<W.length->1<=f->(s.e=0->W.length<s.i+f)->n<=1000000->(s.e=0->n<=s.i)->L.length<=2*n->(∀y∈L,y.width=5)->
    RU (Vk (iS mp) d (n:Int) [Yt mp L,Wn,aC (pC b W s)])=
      some (.d (Cs.D ⟨if mp=true then 6 else 5,0,0,[],(eQ W cst mp f n L s).1⟩),pO b W (cH W (iS mp) (eQ W cst mp f n L s).2)):=by
  have at255:∀(L:List D) (s:PS),s.i<W.length->RU (VJ (iS mp) [Yt mp L,Wn,aC (pC b W s)])=some (.d (Cs.D ⟨if mp=true then 6 else 5,0,0,[],L⟩),pO b W (cH W (iS mp) s)):=by intro L s hs;rw[RU];refine(Hn ..).trans ?_;refine(dZ (jf hW hs _)).trans ?_;rfl
  intro f
  induction f with
  |zero=>intro n L s hs h1;omega
  |succ f ih=>
    intro n L s hs _ hf hn hni hL hw;have hlen:=hW.len
    have next:∀(L':List D) {s':PS},Mv W s s'->(s'.e=0->s.i<s'.i)->s.e=0->L'.length<=2*(n+1)->(∀y∈L',y.width=5)->
        RU (Vi (iS mp) d (n:Int) [Yt mp L',Wn,aC (pC b W s')])=
          some (.d (Cs.D ⟨if mp=true then 6 else 5,0,0,[],(eQ W cst mp f (n+1) L' s').1⟩),pO b W (cH W (iS mp) (eQ W cst mp f (n+1) L' s').2)):=by
      intro L' s' hm had he hl' hw';have h1:=hf he;have h2:=hni he;rw[RU];refine(D7 ..).trans ?_;rw[iZ];exact aM (ih (n+1) L' hm.lt (by omega) (λ e=>by have:=had e;omega) (by omega) (λ e=>by have:=had e;omega) hl' hw')
    have go:s.e=0->¬gh W (iS mp) s->¬(n=40/\uc W s=true)->RU (Vf (iS mp) d (n:Int) false [Yt mp L,Wn,aC (pC b W s)])=
          some (.d (Cs.D ⟨if mp=true then 6 else 5,0,0,[],(eQ W cst mp (f+1) n L s).1⟩),pO b W (cH W (iS mp) (eQ W cst mp (f+1) n L s).2)):=by
      intro he h2 h3;have hm1:=hc s hs;have a1:=hm1.2 he;unfold eQ;rw[aaR (show s.e=0/\¬gh W (iS mp) s from⟨he,h2⟩),aaN h3,RU];refine(sE ..).trans ?_;refine bH.trans ?_;rw[iZ];refine(jR (hr s hs)).trans ?_;have hh:=V6 hw;refine(qN hh).trans ?_;refine(qN (show (L.isEmpty||dV [(cst s).1.D])=true by rw[Cs.one,Bool.or_true])).trans ?_;refine(aN (by omega)).trans ?_;have hw1:∀y∈L++[(cst s).1.D],y.width=5:=λ y hy=>by
        rcases List.mem_append.1 hy with h|h
        · exact hw y h
        · rw[abK.1 h];rfl
      cases mp with
      |true=>
        refine(eH (show (iS true==[125])=true from rfl)).trans ?_;refine(dZ (jf hW a1.lt [58])).trans ?_;have a2:=a1.mv (bX hW [58] a1.lt).toMv;refine(jR (hr _ a2.lt)).trans ?_;have hh1:=V6 hw1;have a3:=a2.mv (hc _ a2.lt).1;have a4:=a3.mv (gz hW a3.lt);refine(qN hh1).trans ?_;refine(qN (show (L.isEmpty&&false||dV [(cst (cH W [58] (cst s).2)).1.D])=true by rw[Bool.and_false,Bool.false_or,Cs.one])).trans ?_;refine(aN (by simp;omega)).trans ?_;refine(dZ (uI hW a3.lt)).trans ?_;rw[aaR rfl];refine aM ?_;have:=next (L++[(cst s).1.D]++[(cst (cH W [58] (cst s).2)).1.D]) a4.toMv a4.ad he (by simp;omega) λ y hy=>by
          rcases List.mem_append.1 hy with h|h
          · exact hw1 y h
          · rw[abK.1 h];rfl
        rw[show (L.isEmpty&&false&&false)=(L++[(cst s).1.D]++[(cst (cH W [58] (cst s).2)).1.D]).isEmpty by rw[Un,Bool.and_false]];exact this
      |false=>
        refine(cX (show (iS false==[125])=false from rfl)).trans ?_;have a4:=a1.mv (gz hW a1.lt);refine(dZ (uI hW a1.lt)).trans ?_;rw[aaN (by decide)];refine aM ?_;rw[show (L.isEmpty&&false)=(L++[(cst s).1.D]).isEmpty by rw[Un,Bool.and_false]];exact next _ a4.toMv a4.ad he (by simp;omega) hw1
    have at6335:∀w:Bool,w=decide (s.e=0/\¬gh W (iS mp) s)->RU (X8 (iS mp) d (n:Int) w [Yt mp L,Wn,aC (pC b W s)])=
          some (.d (Cs.D ⟨if mp=true then 6 else 5,0,0,[],(eQ W cst mp (f+1) n L s).1⟩),pO b W (cH W (iS mp) (eQ W cst mp (f+1) n L s).2)):=by
      intro w hw';rw[RU];refine(D6 ..).trans ?_;rw[hw'];by_cases h:s.e=0/\¬gh W (iS mp) s
      · rw [bC h]
        by_cases h40:n=40
        · rw [bM]
          refine(dL (YO hW hs)).trans ?_
          cases hb:uc W s with
          |true=>
            refine aM ?_;unfold eQ;rw[aaR h,aaR (show n=40/\uc W s=true from⟨h40,hb⟩),RU];refine(sE ..).trans ?_;refine bQ.trans ?_;refine(dZ (jH hs 4)).trans ?_;exact aM (at255 L _ (jG 4 (by decide) hs).lt)
          |false=>exact aM (go h.1 h.2 (λ x=>by rw[hb]at x;cases x.2))
        · rw [bp]
          exact aM (go h.1 h.2 λ x=>h40 x.1)
      · rw [bB h]
        unfold eQ;rw[aaN h];exact aM (at255 L s hs)
    rw[RU];refine(Ho ..).trans ?_;refine(sY (j:=2) (n:=s.e) rfl).trans ?_;by_cases he:s.e=0
    · rw [bM he]
      refine(dL (xI hs (iS mp))).trans ?_;refine aM (at6335 _ ?_);by_cases h:gh W (iS mp) s<;>simp[h,he]
    · rw [bp he]
      exact aM (at6335 _ (by simp[he]))
include hW in
theorem Uo{cst:PS->Cs×PS}(d:Int)(hd:0<=d/\d<=12)(hc:∀s,s.i<W.length->Mv W s (cst s).2/\(s.e=0->Ad W s (cst s).2))(hr:∀s,s.i<W.length->RU (.call 80 [.p 0 0,vi (d+1)] (pO b W s))=some (.d (cst s).1.D,pO b W (cst s).2)){s:PS}(hs:s.i<W.length)(hk:(bm W s).kind≠6):
  RU (.call 132 [.p 0 0,vi d] (pO b W s))=some (.d (od W cst s).1.D,pO b W (od W cst s).2):=by
 have h1:=bU hW hs hk;have at63:∀mp:Bool,mp=decide (gh W [123] s)->RU (Vr (iS mp) d [Yt mp [],Wn,aC (pC b W s)])=some (.d (od W cst s).1.D,pO b W (od W cst s).2):=by
  intro mp hmp;rw[RU];refine(MC ..).trans ?_;refine(dZ (ir hW hs)).trans ?_;refine(aM (HL hW d (by omega) hc hr mp (W.length+2) 0 [] h1.lt (by omega) (λ _=>by omega) (by omega) (λ _=>by omega) (by simp) (λ _ h=>by cases h))).trans ?_;unfold od;rw[<-hmp];by_cases h:gh W [123] s
  ·rw[aa3 h]at hmp;subst hmp;rw[aaR h];rfl
  ·rw[abf h]at hmp;subst hmp;rw[aaN h];rfl
 rw[RU,ZE,bB];refine(dL (xI hs [123])).trans ?_;by_cases h:gh W [123] s
 ·rw[bC h];exact aM (at63 true (aa3 h).symm)
 ·rw[bB h];exact aM (at63 false (abf h).symm)
include hW in
theorem DJ{it:PS->Cs×PS}(d:Int)(hit:∀s,s.i<W.length->(bm W s).kind≠6->RU (.call 132 [.p 0 0,vi d] (pO b W s))=some (.d (it s).1.D,pO b W (it s).2)){s:PS}(hs:s.i<W.length):
  RU (.call 80 [.p 0 0,vi d] (pO b W s))=some (.d (eZ W it s).1.D,pO b W (eZ W it s).2):=by
 have at131047:∀w:Bool,w=decide (gh W [91] s\/gh W [123] s)->RU (VK d w [Wn,aC (pC b W s)])=
   some (.d (if gh W [91] s\/gh W [123] s then it s else(c0,dx W 2 s)).1.D,pO b W (if gh W [91] s\/gh W [123] s then it s else(c0,dx W 2 s)).2):=by
  intro w hw;rw[RU];refine(Cm ..).trans ?_;rw[hw];by_cases h:gh W [91] s\/gh W [123] s
  ·rw[bC h,aaR h];refine(jR (hit s hs (by rcases h with h|h<;>exact cF h (by decide)))).trans ?_;exact aQ.trans rfl
  ·rw[bB h,aaN h];refine(dZ (jH hs 2)).trans ?_;rfl
 have at8167:∀w:Bool,s.e=0->¬(bm W s).kind=2->¬(bm W s).kind=3->¬(bm W s).kind=4->w=decide (bP W vQ s\/bP W rF s)->RU (Vp d w [aC ((bm W s).D.cells.map V.d),Wn,aC (pC b W s)])=
   some (.d (eZ W it s).1.D,pO b W (eZ W it s).2):=by
  intro w he h2 h3 h4 hw;unfold eZ;rw[aaN (λ h=>h he),aaN h2,aaN h3,aaN h4,RU];refine(Hx ..).trans ?_;rw[hw];by_cases h:bP W vQ s\/bP W rF s
  ·have h1:(bm W s).kind=1:=by rcases h with h|h<;>exact h.2.1
   rw[bC h,aaR h1,aaR (by rcases h with h|h;exact .inl h.2.2;exact .inr h.2.2)];refine(dZ (ir hW hs)).trans ?_;rfl
  ·rw[bB h];refine cT.trans ?_;by_cases h1:(bm W s).kind=1
   ·rw[bM,aaR h1,aaN (λ x=>h (by rcases x with x|x;exact .inl ⟨he,h1,x⟩;exact .inr ⟨he,h1,x⟩))]
    refine(kh (sH hW hs)).trans ?_;rfl
   ·rw[bp,aaN h1];refine(dL (xI hs [91])).trans ?_;by_cases ha:gh W [91] s
    ·rw[bC ha];exact aM (at131047 true (aa3 (.inl ha)).symm)
    ·rw[bB ha];refine(dL (xI hs [123])).trans ?_;exact aM (at131047 _ (by simp[ha]))
 rw[RU,u80];refine(jR (jv hs)).trans ?_;refine aQ.trans ?_;refine(sY (j:=2) (n:=s.e) rfl).trans ?_;by_cases he:s.e=0
 ·rw[eN he];refine cT.trans ?_;by_cases h2:(bm W s).kind=2
  ·rw[bM];unfold eZ;rw[aaN (λ h=>h he),aaR h2];refine(dZ (ir hW hs)).trans ?_;refine cT.trans ?_;rfl
  ·rw[bp];refine cT.trans ?_;by_cases h3:(bm W s).kind=3
   ·rw[bM];unfold eZ;rw[aaN (λ h=>h he),aaN h2,aaR h3];refine(dZ (ir hW hs)).trans ?_;refine cT.trans ?_;rfl
   ·rw[bp];refine cT.trans ?_;by_cases h4:(bm W s).kind=4
    ·rw[bM];unfold eZ;rw[aaN (λ h=>h he),aaN h2,aaN h3,aaR h4];refine(dZ (ir hW hs)).trans ?_;rfl
    ·rw[bp];refine(dL (Di hs vQ)).trans ?_;by_cases ht:bP W vQ s
     ·rw[bC ht];exact aM (at8167 true he h2 h3 h4 (aa3 (.inl ht)).symm)
     ·rw[bB ht];refine(dL (Di hs rF)).trans ?_;exact aM (at8167 _ he h2 h3 h4 (by simp[ht]))
 ·rw[fj he];unfold eZ;rw[aaR he];rfl
include hW in
theorem B7:∀(n:Nat),n<=12->∀{s:PS},s.i<W.length->RU (.call 80 [.p 0 0,vi (13-n:Int)] (pO b W s))=some (.d (cp W n s).1.D,pO b W (cp W n s).2)
 |0,_,s,hs=>DJ hW _ (λ s hs _=>by
   rw[RU,ZE,bC];refine(dZ (jH hs 6)).trans ?_
   rfl) hs
 |n+1,hn,s,hs=>DJ hW _ (λ s hs hk=>Uo hW _ (by omega) (λ s hs=>kz hW n hs) (λ s hs=>by
   have e:(13-((n+1:Nat):Int)+1)=(13-(n:Int)):=by omega
   rw[e]
   exact B7 n (by omega) hs) hs hk) hs
end
end Go.Dn.Dec.Pa
namespace Go.Dn.Dec
open Go.IntKind (i64 u64 u8 u16 i32 u32)
open Go.Proofs
open Tryz (prog)
theorem ZJ(b:Bool)(l:List D)(i e a:Int)(s:aE):EQ ch (.call 133 [.p 0 0,vs s] [aC (kO i e a b l)]) (aR (KL s true [] [aC (kO i e a b l)])):=aF
theorem u81(b:Bool)(l:List D)(i e a:Int):EQ ch (.call 81 [.p 0 0] [aC (kO i e a b l)]) (aR (Lt true [] [aC (kO i e a b l)])):=aF
theorem u83(b:Bool)(l:List D)(i e a:Int):EQ ch (.call 83 [.p 0 0] [aC (kO i e a b l)]) (aR (Lu true [] [aC (kO i e a b l)])):=aF
theorem u82(b:Bool)(l:List D)(i e a n:Int):EQ ch (.call 82 [.p 0 0,vi n] [aC (kO i e a b l)]) (c1 (.call 78 [.p 0 0] [aC (kO i e a b l)]) 4 [] λ c f=>aS c λ h=>c1 (.call 79 [.p 0 0,vs [123]] [aC f]) f.length [] λ j k=>dI j λ m=>aO (m.length==0) (c1 (.call 133 [.p 0 0,vs [125]] [aC k]) k.length [] λ o q=>aL o λ r t => .ret (.d (.g [.i .i64 n,.s h,.s [],.i .i64 0,.i .i64 0,.i .u64 0,.s [],.l true [],.l r t,.l true [],.s [],.l true []]),[aC q]))):=aF
theorem u41(b:Bool)(l:List D)(i e a:Int):EQ ch (.call 41 [.p 0 0] [aC (kO i e a b l)]) (c1 (.call 72 [.p 0 0,vs [116,121,112,101,100,101,102]] [aC (kO i e a b l)]) 4 [] λ c f=>aB c λ h=>aV h (c1 (.call 77 [.p 0 0,vi 1] [aC f]) f.length [] λ j k=>aS j λ m=>c1 (.call 78 [.p 0 0] [aC k]) k.length [] λ n o=>aS n λ q=>aR (VF [aC (dp q m [] [] 1 0 0 0 true true true true [] [] [] []),aC (dp [] [] [] [] 0 0 0 0 true true true true [] [] [] []),aC o])) (c1 (.call 72 [.p 0 0,vs [99,111,110,115,116]] [aC f]) f.length [] λ r v=>aB r λ w=>aV w (c1 (.call 77 [.p 0 0,vi 1] [aC v]) v.length [] λ x y=>aS x λ z=>c1 (.call 78 [.p 0 0] [aC y]) y.length [] λ a0 a1=>aS a0 λ a2=>c1 (.call 79 [.p 0 0,vs [61]] [aC a1]) a1.length [] λ a3 a4=>dI a3 λ a5=>aO (a5.length==0) (c1 (.call 80 [.p 0 0,vi 1] [aC a4]) a4.length [] λ a6 a7=>bG a6 λ a8=>j5 5 a8 λ a9=>aO ([.d (aH a9 0),.d (aH a9 1),.d (aH a9 2),.d (aH a9 3),.d (aH a9 4)].all V.one) (aR (VF [aC [vi 3,vs a2,vs z,.d (aH a9 0),.d (aH a9 1),.d (aH a9 2),.d (aH a9 3),.d (aH a9 4),vl true [],vl true [],vs [],vl true []],aC (dp [] [] [] [] 0 0 0 0 true true true true [] [] [] []),aC a7])))) (c1 (.call 72 [.p 0 0,vs [101,110,117,109]] [aC v]) v.length [] λ aa ab=>aB aa λ ac=>aV ac (c1 (.call 78 [.p 0 0] [aC ab]) ab.length [] λ ad ae=>aS ad λ af=>c1 (.call 79 [.p 0 0,vs [123]] [aC ae]) ae.length [] λ ag ah=>dI ag λ ai=>aO (ai.length==0) (c1 (.call 81 [.p 0 0] [aC ah]) ah.length [] λ aj ak=>aL aj λ al am=>aR (VF [aC (dp af [] [] [] 2 0 0 0 true true al true [] [] am []),aC (dp [] [] [] [] 0 0 0 0 true true true true [] [] [] []),aC ak]))) (c1 (.call 72 [.p 0 0,vs [115,116,114,117,99,116]] [aC ab]) ab.length [] λ an ao=>aB an λ ap=>aV ap (c1 (.call 82 [.p 0 0,vi 4] [aC ao]) ao.length [] λ aq ar=>bG aq λ au=>j5 12 au λ av=>aO ([.d (aH av 0),.d (aH av 1),.d (aH av 2),.d (aH av 3),.d (aH av 4),.d (aH av 5),.d (aH av 6),.d (aH av 7),.d (aH av 8),.d (aH av 9),.d (aH av 10),.d (aH av 11)].all V.one) (aR (VF [aC [.d (aH av 0),.d (aH av 1),.d (aH av 2),.d (aH av 3),.d (aH av 4),.d (aH av 5),.d (aH av 6),.d (aH av 7),.d (aH av 8),.d (aH av 9),.d (aH av 10),.d (aH av 11)],aC (dp [] [] [] [] 0 0 0 0 true true true true [] [] [] []),aC ar]))) (c1 (.call 72 [.p 0 0,vs [117,110,105,111,110]] [aC ao]) ao.length [] λ aw ax=>aB aw λ ay=>aV ay (c1 (.call 82 [.p 0 0,vi 5] [aC ax]) ax.length [] λ az b0=>bG az λ b1=>j5 12 b1 λ b2=>aO ([.d (aH b2 0),.d (aH b2 1),.d (aH b2 2),.d (aH b2 3),.d (aH b2 4),.d (aH b2 5),.d (aH b2 6),.d (aH b2 7),.d (aH b2 8),.d (aH b2 9),.d (aH b2 10),.d (aH b2 11)].all V.one) (aR (VF [aC [.d (aH b2 0),.d (aH b2 1),.d (aH b2 2),.d (aH b2 3),.d (aH b2 4),.d (aH b2 5),.d (aH b2 6),.d (aH b2 7),.d (aH b2 8),.d (aH b2 9),.d (aH b2 10),.d (aH b2 11)],aC (dp [] [] [] [] 0 0 0 0 true true true true [] [] [] []),aC b0]))) (c1 (.call 72 [.p 0 0,vs [101,120,99,101,112,116,105,111,110]] [aC ax]) ax.length [] λ b3 b4=>aB b3 λ b5=>aV b5 (c1 (.call 82 [.p 0 0,vi 6] [aC b4]) b4.length [] λ b6 b7=>bG b6 λ b8=>j5 12 b8 λ b9=>aO ([.d (aH b9 0),.d (aH b9 1),.d (aH b9 2),.d (aH b9 3),.d (aH b9 4),.d (aH b9 5),.d (aH b9 6),.d (aH b9 7),.d (aH b9 8),.d (aH b9 9),.d (aH b9 10),.d (aH b9 11)].all V.one) (aR (VF [aC [.d (aH b9 0),.d (aH b9 1),.d (aH b9 2),.d (aH b9 3),.d (aH b9 4),.d (aH b9 5),.d (aH b9 6),.d (aH b9 7),.d (aH b9 8),.d (aH b9 9),.d (aH b9 10),.d (aH b9 11)],aC (dp [] [] [] [] 0 0 0 0 true true true true [] [] [] []),aC b7]))) (c1 (.call 72 [.p 0 0,vs [115,101,114,118,105,99,101]] [aC b4]) b4.length [] λ ba bb=>aB ba λ bc=>aV bc (c1 (.call 78 [.p 0 0] [aC bb]) bb.length [] λ bd be=>aS bd λ bf=>c1 (.call 72 [.p 0 0,vs [101,120,116,101,110,100,115]] [aC be]) be.length [] λ bg bh=>aB bg λ bi=>aV bi (c1 (.call 76 [.p 0 0] [aC bh]) bh.length [] λ bj bk=>aS bj λ bl=>aR (Ky [aC (dp bf [] [] bl 7 0 0 0 true true true true [] [] [] []),aC (dp [] [] [] [] 0 0 0 0 true true true true [] [] [] []),aC bk])) (aR (Ky [aC (dp bf [] [] [] 7 0 0 0 true true true true [] [] [] []),aC (dp [] [] [] [] 0 0 0 0 true true true true [] [] [] []),aC bh]))) (.ret (.t [.d (.g [.i .i64 0,.s [],.s [],.i .i64 0,.i .i64 0,.i .u64 0,.s [],.l true [],.l true [],.l true [],.s [],.l true []]),vb false],[aC bb]))))))))):=aF
theorem PE(n0:Int)(l1 l2:aE)(n3 n4 n5:Int)(l6:aE)(b7:Bool)(l8:List D)(b9:Bool)(l10:List D)(b11:Bool)(l12:List D)(l13:aE)(b14:Bool)(l15:List D)(n16:Int)(l17 l18:aE)(n19 n20 n21:Int)(l22:aE)(b23:Bool)(l24:List D)(b25:Bool)(l26:List D)(b27:Bool)(l28:List D)(l29:aE)(b30:Bool)(l31:List D)(l32:List V):EQ ch (VF [aC (dp l1 l2 l6 l13 n0 n3 n4 n5 b7 b9 b11 b14 l8 l10 l12 l15),aC (dp l17 l18 l22 l29 n16 n19 n20 n21 b23 b25 b27 b30 l24 l26 l28 l31),aC l32]) (c1 (.call 84 [.p 0 0] [aC l32]) l32.length [] λ a c=>dI a λ e=>aO (e.length==0) (.ret (.t [.d (.g [.i .i64 n0,.s l1,.s l2,.i .i64 n3,.i .i64 n4,.i .u64 n5,.s l6,.l b7 l8,.l b9 l10,.l b11 l12,.s l13,.l b14 l15]),vb true],[aC c]))):=aF
theorem zA(n0:Int)(l1 l2:aE)(n3 n4 n5:Int)(l6:aE)(b7:Bool)(l8:List D)(b9:Bool)(l10:List D)(b11:Bool)(l12:List D)(l13:aE)(b14:Bool)(l15:List D)(n16:Int)(l17 l18:aE)(n19 n20 n21:Int)(l22:aE)(b23:Bool)(l24:List D)(b25:Bool)(l26:List D)(b27:Bool)(l28:List D)(l29:aE)(b30:Bool)(l31:List D)(l32:List V):EQ ch (Ky [aC (dp l1 l2 l6 l13 n0 n3 n4 n5 b7 b9 b11 b14 l8 l10 l12 l15),aC (dp l17 l18 l22 l29 n16 n19 n20 n21 b23 b25 b27 b30 l24 l26 l28 l31),aC l32]) (c1 (.call 79 [.p 0 0,vs [123]] [aC l32]) l32.length [] λ a b=>dI a λ c=>aO (c.length==0) (c1 (.call 83 [.p 0 0] [aC b]) b.length [] λ e f=>aL e λ g h=>aR (VF [aC (dp l1 l2 l6 l13 n0 n3 n4 n5 b7 b9 b11 g l8 l10 l12 h),aC (dp l17 l18 l22 l29 n16 n19 n20 n21 b23 b25 b27 b30 l24 l26 l28 l31),aC f]))):=aF
theorem Hp(l0:aE)(b1:Bool)(l2:List D)(b3:Bool)(l4:List V):EQ ch (R8 l0 b1 b3 l2 [aC l4]) (aV b3 (aV ((l2.length:Int)==30) (c1 (.call 38 [.p 0 0] [aC l4]) l4.length [] λ a c=>bG a λ e=>j5 5 e λ f=>cf .i64 (aH f 0) λ g=>aV (g==2) (aR (Wz l0 b1 true l2 [aC c])) (c1 (.call 71 [.p 0 0,vs [114,101,113,117,105,114,101,100]] [aC c]) c.length [] λ h i=>aB h λ j=>aV j (aR (Wz l0 b1 true l2 [aC i])) (c1 (.call 71 [.p 0 0,vs [111,112,116,105,111,110,97,108]] [aC i]) i.length [] λ k m=>aB k λ n=>aV n (aR (Wz l0 b1 true l2 [aC m])) (c1 (.call 134 [.p 0 0] [aC m]) m.length [] λ o q=>aB o λ r=>aR (Wz l0 b1 r l2 [aC q]))))) (aR (Wz l0 b1 false l2 [aC l4]))) (aR (KM l0 b1 l2 [aC l4]))):=aF
theorem MI(b0:Bool)(l1:List D)(b2:Bool)(l3:List V):EQ ch (Sf b0 b2 l1 [aC l3]) (aV b2 (aV ((l1.length:Int)==30) (c1 (.call 38 [.p 0 0] [aC l3]) l3.length [] λ a c=>bG a λ e=>j5 5 e λ f=>cf .i64 (aH f 0) λ g=>aV (g==1) (c1 (.call 38 [.p 0 0] [aC c]) c.length [] λ h i=>bG h λ j=>j5 5 j λ k=>fJ (aH k 1) λ m=>cV (.call 73 [vs m] []) λ n=>aB n λ o=>aR (Oe b0 o l1 [aC i])) (aR (Oe b0 false l1 [aC c]))) (aR (Oe b0 false l1 [aC l3]))) (aR (Lv b0 l1 [aC l3]))):=aF
theorem MJ(b0:Bool)(l1:List D)(b2:Bool)(l3:List V):EQ ch (Sh b0 b2 l1 [aC l3]) (aV b2 (aV ((l1.length:Int)==30) (c1 (.call 71 [.p 0 0,vs [111,110,101,119,97,121]] [aC l3]) l3.length [] λ a c=>aB a λ e=>aV e (aR (IU b0 true l1 [aC c])) (c1 (.call 71 [.p 0 0,vs [118,111,105,100]] [aC c]) c.length [] λ f g=>aB f λ h=>aV h (aR (IU b0 true l1 [aC g])) (c1 (.call 134 [.p 0 0] [aC g]) g.length [] λ i j=>aB i λ k=>aR (IU b0 k l1 [aC j])))) (aR (IU b0 false l1 [aC l3]))) (aR (Lw b0 l1 [aC l3]))):=aF
theorem xo(l0:aE)(b1:Bool)(l2:List D)(b3:Bool)(l4:List V):EQ ch (Wz l0 b1 b3 l2 [aC l4]) (aV b3 (c1 (.call 40 [.p 0 0,vi 4] [aC l4]) l4.length [] λ a c=>dI a λ e=>aO (e.length==0) (aR (KM l0 b1 l2 [aC c]))) (c1 (.call 38 [.p 0 0] [aC l4]) l4.length [] λ f g=>bG f λ h=>j5 5 h λ j=>cf .i64 (aH j 0) λ k=>aV (k==2) (c1 (.call 38 [.p 0 0] [aC g]) g.length [] λ m n=>bG m λ o=>j5 5 o λ q=>cf .i64 (aH q 2) λ r=>c1 (.call 74 [.p 0 0] [aC n]) n.length [] λ t v=>dI t λ w=>aO (w.length==0) (c1 (.call 79 [.p 0 0,vs [58]] [aC v]) v.length [] λ x y=>dI x λ z=>aO (z.length==0) (aR (SG l0 b1 l2 [aC (mQ [] [] [] r 0 0 0 0 true false true []),aC y])))) (aR (SG l0 b1 l2 [aC (mQ [] [] [] 0 0 0 0 0 false false true []),aC g])))):=aF
theorem MD(l0:aE)(b1:Bool)(l2:List D)(l3:List V):EQ ch (KM l0 b1 l2 [aC l3]) (c1 (.call 79 [.p 0 0,vs l0] [aC l3]) l3.length [] λ a b=>dI a λ c=>aO (c.length==0) (.ret (vl b1 l2,[aC b]))):=aF
theorem AE(b0:Bool)(l1:List D)(b2:Bool)(l3:List V):EQ ch (Oe b0 b2 l1 [aC l3]) (aV b2 (c1 (.call 40 [.p 0 0,vi 4] [aC l3]) l3.length [] λ a c=>dI a λ e=>aO (e.length==0) (aR (Lv b0 l1 [aC c]))) (c1 (.call 78 [.p 0 0] [aC l3]) l3.length [] λ f g=>aS f λ h=>c1 (.call 75 [.p 0 0,vs [61]] [aC g]) g.length [] λ j k=>aB j λ m=>aV m (ob k[2]? λ n=>aI n λ o=>aV (o==0) (c1 (.call 38 [.p 0 0] [aC k]) k.length [] λ q r=>bG q λ t=>j5 5 t λ v=>cf .i64 (aH v 0) λ w=>aR (R1 b0 (w != 2) l1 [aC (OC h 0 false),aC r])) (aR (R1 b0 false l1 [aC (OC h 0 false),aC k]))) (aR (SN b0 l1 [aC (OC h 0 false),aC k])))):=aF
theorem PH(b0:Bool)(l1:List D)(l2:List V):EQ ch (Lv b0 l1 [aC l2]) (c1 (.call 79 [.p 0 0,vs [125]] [aC l2]) l2.length [] λ a b=>dI a λ c=>aO (c.length==0) (.ret (vl b0 l1,[aC b]))):=aF
theorem AF(b0:Bool)(l1:List D)(b2:Bool)(l3:List V):EQ ch (IU b0 b2 l1 [aC l3]) (aV b2 (c1 (.call 40 [.p 0 0,vi 4] [aC l3]) l3.length [] λ a c=>dI a λ e=>aO (e.length==0) (aR (Lw b0 l1 [aC c]))) (c1 (.call 72 [.p 0 0,vs [111,110,101,119,97,121]] [aC l3]) l3.length [] λ f g=>aB f λ h=>c1 (.call 72 [.p 0 0,vs [118,111,105,100]] [aC g]) g.length [] λ j k=>aB j λ m=>aV m (aR (KB b0 l1 [aC (zl [] [118,111,105,100] h true true [] []),aC k])) (c1 (.call 77 [.p 0 0,vi 1] [aC k]) k.length [] λ n o=>aS n λ q=>aR (KB b0 l1 [aC (zl [] q h true true [] []),aC o])))):=aF
theorem PI(b0:Bool)(l1:List D)(l2:List V):EQ ch (Lw b0 l1 [aC l2]) (c1 (.call 79 [.p 0 0,vs [125]] [aC l2]) l2.length [] λ a b=>dI a λ c=>aO (c.length==0) (.ret (vl b0 l1,[aC b]))):=aF
theorem D8(l0:aE)(b1:Bool)(l2:List D)(b3:Bool)(n4 n5:Int)(l6 l7:aE)(b8:Bool)(n9 n10 n11:Int)(l12:aE)(b13:Bool)(l14:List D)(l15:List V):EQ ch (SG l0 b1 l2 [aC (mQ l6 l7 l12 n4 n5 n9 n10 n11 b3 b8 b13 l14),aC l15]) (c1 (.call 72 [.p 0 0,vs [114,101,113,117,105,114,101,100]] [aC l15]) l15.length [] λ a c=>aB a λ e=>aV e (aR (N5 l0 b1 l2 [aC (mQ l6 l7 l12 n4 1 n9 n10 n11 b3 b8 b13 l14),aC c])) (c1 (.call 72 [.p 0 0,vs [111,112,116,105,111,110,97,108]] [aC c]) c.length [] λ f g=>aB f λ h=>aV h (aR (N5 l0 b1 l2 [aC (mQ l6 l7 l12 n4 2 n9 n10 n11 b3 b8 b13 l14),aC g])) (aR (N5 l0 b1 l2 [aC (mQ l6 l7 l12 n4 n5 n9 n10 n11 b3 b8 b13 l14),aC g])))):=aF
theorem EB(b0:Bool)(l1:List D)(b2:Bool)(l3:aE)(b4:Bool)(n5:Int)(l6:List V):EQ ch (R1 b0 b2 l1 [aC (OC l3 n5 b4),aC l6]) (aV b2 (c1 (.call 40 [.p 0 0,vi 2] [aC l6]) l6.length [] λ a c=>dI a λ e=>aO (e.length==0) (aR (SN b0 l1 [aC (OC l3 n5 b4),aC c]))) (c1 (.call 38 [.p 0 0] [aC l6]) l6.length [] λ f g=>bG f λ h=>j5 5 h λ j=>cf .i64 (aH j 2) λ k=>c1 (.call 74 [.p 0 0] [aC g]) g.length [] λ m n=>dI m λ o=>aO (o.length==0) (aR (SN b0 l1 [aC (OC l3 k true),aC n])))):=aF
theorem Hy(b0:Bool)(l1:List D)(l2:aE)(b3:Bool)(n4:Int)(l5:List V):EQ ch (SN b0 l1 [aC (OC l2 n4 b3),aC l5]) (c1 (.call 84 [.p 0 0] [aC l5]) l5.length [] λ o0 l3=>dI o0 λ l5=>aO (l5.length==0) (aO (bA 3 l1) (aO (b0||true) (aO (decide (l1.length+1<=4294967296)) (aR (Lt (b0&&false) (l1++[D.g [.s l2,.b b3,.i .i64 n4]]) [aC l3])))))):=aF
theorem HA(b0:Bool)(l1:List D)(l2:aE)(b3:Bool)(l4:aE)(b5:Bool)(l6:List D)(b7:Bool)(l8:List D)(l9:List V):EQ ch (KB b0 l1 [aC (zl l2 l4 b3 b5 b7 l6 l8),aC l9]) (c1 (.call 78 [.p 0 0] [aC l9]) l9.length [] λ o0 l3=>aS o0 λ l6=>c1 (.call 79 [.p 0 0,vs [40]] [aC l3]) l3.length [] λ o7 l10=>dI o7 λ l12=>aO (l12.length==0) (c1 (.call 133 [.p 0 0,vs [41]] [aC l10]) l10.length [] λ o13 l16=>aL o13 λ b19 l20=>c1 (.call 72 [.p 0 0,vs [116,104,114,111,119,115]] [aC l16]) l16.length [] λ o21 l24=>aB o21 λ b27=>aV b27 (c1 (.call 79 [.p 0 0,vs [40]] [aC l24]) l24.length [] λ o28 l31=>dI o28 λ l33=>aO (l33.length==0) (c1 (.call 133 [.p 0 0,vs [41]] [aC l31]) l31.length [] λ o34 l37=>aL o34 λ b40 l41=>aR (Kz b0 l1 [aC (zl l6 l4 b3 b19 b40 l20 l41),aC l37]))) (aR (Kz b0 l1 [aC (zl l6 l4 b3 b19 b7 l20 l8),aC l24])))):=aF
theorem Ea(l0:aE)(b1:Bool)(l2:List D)(b3:Bool)(n4 n5:Int)(l6 l7:aE)(b8:Bool)(n9 n10 n11:Int)(l12:aE)(b13:Bool)(l14:List D)(l15:List V):EQ ch (N5 l0 b1 l2 [aC (mQ l6 l7 l12 n4 n5 n9 n10 n11 b3 b8 b13 l14),aC l15]) (c1 (.call 77 [.p 0 0,vi 1] [aC l15]) l15.length [] λ o0 l3=>aS o0 λ l6=>c1 (.call 78 [.p 0 0] [aC l3]) l3.length [] λ o7 l10=>aS o7 λ l13=>c1 (.call 75 [.p 0 0,vs [61]] [aC l10]) l10.length [] λ o14 l17=>aB o14 λ b20=>aV b20 (c1 (.call 80 [.p 0 0,vi 1] [aC l17]) l17.length [] λ o21 l24=>bG o21 λ d26=>j5 5 d26 λ l27=>aO ([.d (aH l27 0),.d (aH l27 1),.d (aH l27 2),.d (aH l27 3),.d (aH l27 4)].all V.one) (aR (VB l0 b1 l2 [aC [vb b3,vi n4,vi n5,vs l6,vs l13,vb true,.d (aH l27 0),.d (aH l27 1),.d (aH l27 2),.d (aH l27 3),.d (aH l27 4)],aC l24]))) (aR (VB l0 b1 l2 [aC (mQ l6 l13 l12 n4 n5 n9 n10 n11 b3 b8 b13 l14),aC l17]))):=aF
theorem Hz(b0:Bool)(l1:List D)(l2:List V):EQ ch (Lt b0 l1 [aC l2]) (ob l2[2]? λ a=>aI a λ c=>aV (c==0) (c1 (.call 128 [.p 0 0,vs [125]] [aC l2]) l2.length [] λ e f=>aB e λ g=>aR (.at_ 81 1 (aJ 195) (sv 66 [(0,.p 0 0),(3,vl b0 l1),(14,vb !g)]) [(3,3)] [aC f])) (aR (Sf b0 false l1 [aC l2]))):=aF
theorem EC(b0:Bool)(l1:List D)(l2:aE)(b3:Bool)(l4:aE)(b5:Bool)(l6:List D)(b7:Bool)(l8:List D)(l9:List V):EQ ch (Kz b0 l1 [aC (zl l2 l4 b3 b5 b7 l6 l8),aC l9]) (c1 (.call 84 [.p 0 0] [aC l9]) l9.length [] λ a c=>dI a λ e=>aO (e.length==0) (aO (bA 5 l1) (aO (b0||true) (aO (decide (l1.length+1<=4294967296)) (aR (Lu (b0&&false) (l1++[D.g [.s l2,.b b3,.s l4,.l b5 l6,.l b7 l8]]) [aC c])))))):=aF
theorem xn(l0:aE)(b1:Bool)(l2:List D)(b3:Bool)(n4 n5:Int)(l6 l7:aE)(b8:Bool)(n9 n10 n11:Int)(l12:aE)(b13:Bool)(l14:List D)(l15:List V):EQ ch (VB l0 b1 l2 [aC (mQ l6 l7 l12 n4 n5 n9 n10 n11 b3 b8 b13 l14),aC l15]) (c1 (.call 84 [.p 0 0] [aC l15]) l15.length [] λ a c=>dI a λ e=>aO (e.length==0) (aO (bA 11 l2) (aO (b1||true) (aO (decide (l2.length+1<=4294967296)) (aR (KL l0 (b1&&false) (l2++[D.g [.b b3,.i .i64 n4,.i .i64 n5,.s l6,.s l7,.b b8,.i .i64 n9,.i .i64 n10,.i .u64 n11,.s l12,.l b13 l14]]) [aC c])))))):=aF
theorem HB(b0:Bool)(l1:List D)(l2:List V):EQ ch (Lu b0 l1 [aC l2]) (ob l2[2]? λ a=>aI a λ c=>aV (c==0) (c1 (.call 128 [.p 0 0,vs [125]] [aC l2]) l2.length [] λ e f=>aB e λ g=>aR (.at_ 83 1 (aJ 195) (sv 65 [(0,.p 0 0),(3,vl b0 l1),(14,vb !g)]) [(3,5)] [aC f])) (aR (Sh b0 false l1 [aC l2]))):=aF
theorem D9(l0:aE)(b1:Bool)(l2:List D)(l3:List V):EQ ch (KL l0 b1 l2 [aC l3]) (ob l3[2]? λ a=>aI a λ c=>aV (c==0) (c1 (.call 128 [.p 0 0,vs l0] [aC l3]) l3.length [] λ e f=>aB e λ g=>aR (.at_ 133 1 (aJ 195) (sv 83 [(0,.p 0 0),(1,vs l0),(5,vl b1 l2),(17,vb !g)]) [(5,11)] [aC f])) (aR (R8 l0 b1 false l2 [aC l3]))):=aF
end Go.Dn.Dec
namespace Go.Dn.Dec.Pa
open Go.IntKind (i64 u64 u8 u16 i32 u32)
open Go.Proofs
open Tryz (prog)
set_option maxRecDepth 100000
abbrev oA:aE:=[114,101,113,117,105,114,101,100]
abbrev pT:aE:=[111,112,116,105,111,110,97,108]
section
variable (W : List Tok)
def oU(en:aE)(beg:PS->Bool)(one:PS->D×PS):Nat->List D->PS->List D×PS
 |0,L,s=>(L,s)
 |f+1,L,s=>
  if s.e=0/\¬gh W en s then
   if L.length=30/\beg s=true then(L,dx W 4 s)else oU en beg one f (L++[(one s).1]) (one s).2
  else(L,s)
def CY(en:aE)(beg:PS->Bool)(one:PS->D×PS)(s:PS):List D×PS:=
 ((oU W en beg one (W.length+2) [] s).1,cH W en (oU W en beg one (W.length+2) [] s).2)
def rZ(s:PS):Bool:=decide ((bm W s).kind=1/\(eO (bm W s).text≠0\/(bm W s).text=[98,121,116,101]\/fY (bm W s).text=true))
def vU(s:PS):Bool:=decide ((bm W s).kind=2\/bP W oA s\/bP W pT s)||rZ W s
def jY(s:PS):PS:=if (bm W s).kind=2 then cH W [58] (aZ s)else s
def pB(s:PS):PS:=if bP W oA s then aZ s else cS W 1 pT s
def Cu(s:PS):Int:=if bP W oA s then 1 else if bP W pT s then 2 else 0
def kS(s:PS):Cs×PS:=if gh W [61] s then cp W 12 (aZ s) else(c0,s)
def ff(s:PS):D×PS:=
 let s2:=pB W (jY W s)
 let t:=eU W 12 s2
 let m:=bR W bu t.2
 let c:=kS W m.2
 (fD (decide ((bm W s).kind=2)) (if (bm W s).kind=2 then(bm W s).n else 0) (Cu W (jY W s)) t.1 m.1 (decide (gh W [61] m.2)) c.1.k c.1.n c.1.u c.1.s c.1.l.isEmpty c.1.l,fS W c.2)
def eI(en:aE)(s:PS):List D×PS:=CY W en (vU W) (ff W) s
end
section
variable {b : Bool} {W : List Tok} (hW : Wds W)
theorem wA{en:aE}{beg:PS->Bool}{one:PS->D×PS}(hone:∀s,s.i<W.length->s.e=0->Ad W s (one s).2):∀(f:Nat) (L:List D) {s:PS},s.i<W.length->Mv W s (oU W en beg one f L s).2
 |0,L,s,hs=>Mv.refl hs
 |f+1,L,s,hs=>by
  unfold oU;split
  ·rename_i h;split
   ·exact jG 4 (by decide) hs
   ·have h1:=(hone s hs h.1).toMv;exact h1.trans (wA hone f _ h1.lt)
  ·exact Mv.refl hs
include hW in
theorem CZ{en:aE}{beg:PS->Bool}{one:PS->D×PS}(hone:∀s,s.i<W.length->s.e=0->Ad W s (one s).2){s:PS}(hs:s.i<W.length):Ad W s (CY W en beg one s).2:=by have h:=wA (en:=en) (beg:=beg) hone (W.length+2) [] hs;exact h.ad (bX hW en h.lt)
theorem tz{en:aE}{beg:PS->Bool}{one:PS->D×PS}(w:Nat){T Te:List D->PS->Task}(hlen:W.length<=100000)(hone:∀s,s.i<W.length->s.e=0->Ad W s (one s).2)(hw:∀s,s.i<W.length->s.e=0->(one s).1.width=w)
  (hend:∀L s,s.i<W.length->RU (Te L s)=some (vl L.isEmpty L,pO b W (cH W en s)))
  (hstep:∀L s,s.i<W.length->L.length<=100000->bA w L=true->RU (T L s)=if s.e=0/\¬gh W en s then(if L.length=30/\beg s=true then RU (Te L (dx W 4 s))else RU (T (L++[(one s).1]) (one s).2))else RU (Te L s)):
  ∀(f:Nat) (L:List D) {s:PS},s.i<W.length->1<=f->(s.e=0->W.length<s.i+f)->(s.e=0->L.length<=s.i)->L.length<=100000->(∀y∈L,y.width=w)->
   RU (T L s)=some (vl (oU W en beg one f L s).1.isEmpty (oU W en beg one f L s).1,pO b W (cH W en (oU W en beg one f L s).2))
 |0,L,s,hs,hf,_,_,_,_=>by omega
 |f+1,L,s,hs,hf,hm,hl,hl2,hy=>by
  have hh:bA w L=true:=by
   cases L with
   |nil=>rfl
   |cons y L=>exact beq_iff_eq.2 (hy y (by simp))
  rw[hstep L s hs hl2 hh];unfold oU;by_cases h:s.e=0/\¬gh W en s
  ·rw[aaR h,aaR h];by_cases h2:L.length=30/\beg s=true
   ·rw[aaR h2,aaR h2];exact hend L _ (jG 4 (by decide) hs).lt
   ·rw[aaN h2,aaN h2];have a:=hone s hs h.1;have h3:=hm h.1;have h4:=hl h.1;refine tz w hlen hone hw hend hstep f _ a.lt (by omega) (λ e=>by have:=a.ad e;omega) (λ e=>by have:=a.ad e;simp;omega) (by simp;omega) λ y hy'=>?_;rcases List.mem_append.1 hy' with h5|h5
    ·exact hy y h5
    ·rw[abK.1 h5];exact hw s hs h.1
  ·rw[aaN h,aaN h];exact hend L s hs
include hW in
theorem Cr{s:PS}(hs:s.i<W.length):Mv W s (jY W s):=by
 unfold jY;split
 ·rename_i h;have a:=bU hW hs (by rw[h];decide);exact a.toMv.trans (bX hW [58] a.lt).toMv
 ·exact Mv.refl hs
include hW in
theorem Ct{s:PS}(hs:s.i<W.length):Mv W s (pB W s):=by
 unfold pB;split
 ·rename_i h;exact(bU hW hs (cF h (by decide))).toMv
 ·exact tE hW 1 pT (by decide) hs
include hW in
theorem wg{s:PS}(hs:s.i<W.length):Mv W s (kS W s).2:=by
 unfold kS;split
 ·rename_i h;have a:=bU hW hs (cF h (by decide));exact a.toMv.trans (kz hW 12 a.lt).1
 ·exact Mv.refl hs
include hW in
theorem xz{s:PS}(hs:s.i<W.length):Ad W s (ff W s).2:=by have h1:=Cr hW hs;have h2:=h1.trans (Ct hW h1.lt);have h3:=h2.ad (iA hW 12 h2.lt);have h4:=h3.mv (cz hW bu h3.lt).toMv;have h5:=h4.mv (wg hW h4.lt);exact h5.mv (gz hW h5.lt)
include hW in
theorem jj(en:aE){s:PS}(hs:s.i<W.length):Ad W s (eI W en s).2:=CZ hW (λ s hs _=>xz hW hs) hs
include hW in
theorem L4{s:PS}(hs:s.i<W.length):RU (.call 134 [.p 0 0] (pO b W s))=some (vb (rZ W s),pO b W s):=by
 rw[RU,aa0];refine(jR (jv hs)).trans ?_;refine aQ.trans ?_;refine cT.trans ?_;unfold rZ;by_cases h1:(bm W s).kind=1
 ·rw[bM];refine(gF (rl _)).trans ?_;by_cases h2:eO (bm W s).text=0
  ·rw[eN h2];by_cases h3:(bm W s).text=[98,121,116,101]
   ·refine(eH (by rw[h3];rfl)).trans ?_
    rw[aa3 ⟨h1,.inr (.inl h3)⟩];rfl
   ·refine(cX (by rw[nL];exact abf h3)).trans ?_
    refine(gJ (PJ _ (abI (jM hW hs) (by decide)))).trans ?_;have:decide ((bm W s).kind=1/\(eO (bm W s).text≠0\/(bm W s).text=[98,121,116,101]\/fY (bm W s).text=true))=fY (bm W s).text:=by
     cases hf:fY (bm W s).text with
     |true=>exact aa3 ⟨h1,.inr (.inr rfl)⟩
     |false=>exact abf (by rintro⟨_,h|h|h⟩;exact h h2;exact h3 h;cases h)
    rw[this];rfl
  ·rw[fj h2,aa3 ⟨h1,.inl h2⟩];rfl
 ·rw[bp,abf (λ h=>h1 h.1)];rfl
abbrev Uf(en:aE)(L:List D)(s:PS)(b:Bool)(W:List Tok):Task:=KL en L.isEmpty L (pO b W s)
abbrev Yp(en:aE)(L:List D)(s:PS)(b:Bool)(W:List Tok):Task:=KM en L.isEmpty L (pO b W s)
theorem di{f:Task->Option Out}{t:Task}:aD f (.call t .ret)=f t:=aA t
include hW in
theorem HE(en:aE)(L:List D)(s:PS)(hs:s.i<W.length)(hl:L.length<=100000)(hh:bA 11 L=true):
  RU (Uf en L s b W)=if s.e=0/\¬gh W en s then(if L.length=30/\vU W s=true then RU (Yp en L (dx W 4 s) b W)else RU (Uf en (L++[(ff W s).1]) (ff W s).2 b W))else RU (Yp en L s b W):=by
 have at32675:∀(h:Bool) (id r:Int) (t m:aE) (hi:Bool) (c:Cs) (s:PS),s.i<W.length->
   RU (VB en L.isEmpty L [aC (mQ t m c.s id r c.k c.n c.u h hi c.l.isEmpty c.l),aC (pC b W s)])=
    RU (Uf en (L++[fD h id r t m hi c.k c.n c.u c.s c.l.isEmpty c.l]) (fS W s) b W):=by
  intro h id r t m hi c s hs;rw[RU];refine(xn ..).trans ?_;refine(dZ (uI hW hs)).trans ?_;refine(qN hh).trans ?_;refine(qN (show (L.isEmpty||true)=true by simp)).trans ?_;refine(aN (by omega)).trans ?_;rw[show (L.isEmpty&&false)=(L++[fD h id r t m hi c.k c.n c.u c.s c.l.isEmpty c.l]).isEmpty by rw[Un,Bool.and_false]];exact di
 have at4003:∀(h:Bool) (id r:Int) (s:PS),s.i<W.length->
   RU (N5 en L.isEmpty L [aC (mQ [] [] [] id r 0 0 0 h false true []),aC (pC b W s)])=
    RU (Uf en (L++[fD h id r (eU W 12 s).1 (bR W bu (eU W 12 s).2).1 (decide (gh W [61] (bR W bu (eU W 12 s).2).2)) (kS W (bR W bu (eU W 12 s).2).2).1.k (kS W (bR W bu (eU W 12 s).2).2).1.n (kS W (bR W bu (eU W 12 s).2).2).1.u (kS W (bR W bu (eU W 12 s).2).2).1.s (kS W (bR W bu (eU W 12 s).2).2).1.l.isEmpty (kS W (bR W bu (eU W 12 s).2).2).1.l]) (fS W (kS W (bR W bu (eU W 12 s).2).2).2) b W):=by
  intro h id r s hs;have a1:=iA hW 12 hs;have a2:=a1.mv (cz hW bu a1.lt).toMv;rw[RU];refine(Ea ..).trans ?_;refine(kh (BJ hW 12 (by decide) hs)).trans ?_;refine(kh (pM hW a1.lt)).trans ?_;refine(dL (yF hW a2.lt [61])).trans ?_;unfold cS kS;by_cases he:gh W [61] (bR W bu (eU W 12 s).2).2
  ·have a3:=a2.mv (bU hW a2.lt (cF he (by decide))).toMv
   rw[bC he,aaR he,aaR he,aa3 he];refine(jR (B7 hW 12 (by decide) a3.lt)).trans ?_;refine aQ.trans ?_;refine di.trans ?_;exact at32675 h id r _ _ true _ _ (a3.mv (kz hW 12 a3.lt).1).lt
  ·rw[bB he,aaN he,aaN he,abf he];refine di.trans ?_;exact at32675 h id r _ _ false c0 _ a2.lt
 have at1955:∀(h:Bool) (id:Int) (s:PS),s.i<W.length->
   RU (SG en L.isEmpty L [aC (mQ [] [] [] id 0 0 0 0 h false true []),aC (pC b W s)])=
    RU (N5 en L.isEmpty L [aC (mQ [] [] [] id (Cu W s) 0 0 0 h false true []),aC (pC b W (pB W s))]):=by
  intro h id s hs;rw[RU];refine(D8 ..).trans ?_;refine(dL (rX hW hs oA)).trans ?_;unfold Cu pB;by_cases h1:bP W oA s
  ·rw[bC h1,aaR h1,aaR h1];have:cS W 1 oA s=aZ s:=by unfold cS;rw[aaR h1]
   rw[this];exact di
  ·rw[bB h1,aaN h1,aaN h1];have:cS W 1 oA s=s:=by unfold cS;rw[aaN h1]
   rw[this];refine(dL (rX hW hs pT)).trans ?_;by_cases h2:bP W pT s
   ·rw[bC h2,aaR h2];exact di
   ·rw[bB h2,aaN h2];exact di
 have go:s.e=0->RU (Wz en L.isEmpty false L (pO b W s))=RU (Uf en (L++[(ff W s).1]) (ff W s).2 b W):=by
  intro he;rw[RU];refine(xo ..).trans ?_;refine bH.trans ?_;refine(jR (jv hs)).trans ?_;refine cT.trans ?_;have h1:=Cr hW hs;have h2:=h1.trans (Ct hW h1.lt);have last:∀(h:Bool) (id:Int),h=decide ((bm W s).kind=2)->id=(if (bm W s).kind=2 then(bm W s).n else 0)->
    RU (SG en L.isEmpty L [aC (mQ [] [] [] id 0 0 0 0 h false true []),aC (pC b W (jY W s))])=RU (Uf en (L++[(ff W s).1]) (ff W s).2 b W):=by
   intro h id e1 e2;rw[at1955 h id _ h1.lt,at4003 h id _ _ h2.lt,e1,e2];rfl
  by_cases hk:(bm W s).kind=2
  ·rw[bM];refine(jR (jv hs)).trans ?_;refine cT.trans ?_;have a:=bU hW hs (by rw[hk];decide);refine(dZ (ir hW hs)).trans ?_;refine(dZ (jf hW a.lt [58])).trans ?_;refine di.trans ?_;have:=last true (bm W s).n (aa3 hk).symm (aaR hk).symm;rw[show jY W s=cH W [58] (aZ s) by unfold jY;rw[aaR hk]]at this;exact this
  ·rw[bp];refine di.trans ?_;have:=last false 0 (abf hk).symm (aaN hk).symm;rw[show jY W s=s by unfold jY;rw[aaN hk]]at this;exact this
 have at803:∀w:Bool,w=vU W s->s.e=0->L.length=30->RU (Wz en L.isEmpty w L (pO b W s))=if L.length=30/\vU W s=true then RU (Yp en L (dx W 4 s) b W)else RU (Uf en (L++[(ff W s).1]) (ff W s).2 b W):=by
  intro w hw he h30
  cases w with
  |true=>
   rw[aaR ⟨h30,hw.symm⟩,RU];refine(xo ..).trans ?_;refine bQ.trans ?_;refine(dZ (jH hs 4)).trans ?_;exact di
  |false=>
   rw[aaN (λ x=>by rw[<-hw]at x;cases x.2)];exact go he
 have at195:∀w:Bool,w=decide (s.e=0/\¬gh W en s)->RU (R8 en L.isEmpty w L (pO b W s))=if s.e=0/\¬gh W en s then(if L.length=30/\vU W s=true then RU (Yp en L (dx W 4 s) b W)else RU (Uf en (L++[(ff W s).1]) (ff W s).2 b W))else RU (Yp en L s b W):=by
  intro w hw;rw[RU];refine(Hp ..).trans ?_;rw[hw];by_cases h:s.e=0/\¬gh W en s
  ·rw[bC h,aaR h];by_cases h30:L.length=30
   ·rw[bM];refine(jR (jv hs)).trans ?_;refine cT.trans ?_;by_cases hk:(bm W s).kind=2
    ·rw[bM];refine di.trans ?_;exact at803 true (by unfold vU;rw[aa3 (.inl hk)];rfl) h.1 h30
    ·rw[bp];refine(dL (Di hs oA)).trans ?_;by_cases h1:bP W oA s
     ·rw[bC h1];refine di.trans ?_;exact at803 true (by unfold vU;rw[aa3 (.inr (.inl h1))];rfl) h.1 h30
     ·rw[bB h1];refine(dL (Di hs pT)).trans ?_;by_cases h2:bP W pT s
      ·rw[bC h2];refine di.trans ?_;exact at803 true (by unfold vU;rw[aa3 (.inr (.inr h2))];rfl) h.1 h30
      ·rw[bB h2];refine(dL (L4 hW hs)).trans ?_;refine di.trans ?_;exact at803 _ (by unfold vU;rw[abf (λ x=>x.elim hk λ x=>x.elim h1 h2)];rfl) h.1 h30
   ·rw[bp,aaN (λ x=>h30 x.1)];exact di.trans (go h.1)
  ·rw[bB h,aaN h];exact di
 rw[RU];refine(D9 ..).trans ?_;refine(sY (j:=2) (n:=s.e) rfl).trans ?_;by_cases he:s.e=0
 ·rw[bM he];refine(dL (xI hs en)).trans ?_;refine di.trans ?_;exact at195 _ (by by_cases h:gh W en s<;>simp[h,he])
 ·rw[bp he];exact di.trans (at195 false (by simp[he]))
include hW in
theorem kD(en:aE){s:PS}(hs:s.i<W.length):RU (.call 133 [.p 0 0,vs en] (pO b W s))=some (vl (eI W en s).1.isEmpty (eI W en s).1,pO b W (eI W en s).2):=by
 rw[RU,ZJ];refine di.trans ?_;exact tz (T:=λ L s=>Uf en L s b W) (Te:=λ L s=>Yp en L s b W) 11 hW.len (λ s hs _=>xz hW hs) (λ s hs _=>rfl) (λ L s hs=>by
  rw[RU];refine(MD ..).trans ?_;refine(dZ (jf hW hs en)).trans ?_
  rfl) (λ L s hs hl hh=>HE hW en L s hs hl hh) (W.length+2) [] hs (by omega) (λ _=>by omega) (λ _=>by simp) (by simp) (λ _ h=>by cases h)
end
abbrev dW:aE:=[111,110,101,119,97,121]
abbrev kY:aE:=[118,111,105,100]
abbrev qb:aE:=[116,104,114,111,119,115]
abbrev IX:aE:=[116,121,112,101,100,101,102]
abbrev G5:aE:=[99,111,110,115,116]
abbrev xj:aE:=[101,110,117,109]
abbrev F4:aE:=[115,116,114,117,99,116]
abbrev Gw:aE:=[117,110,105,111,110]
abbrev D2:aE:=[101,120,99,101,112,116,105,111,110]
abbrev Iy:aE:=[115,101,114,118,105,99,101]
abbrev zw:aE:=[101,120,116,101,110,100,115]
def j8:List aE:=[IX,G5,xj,F4,Gw,D2,Iy]
section
variable (W : List Tok)
def B3(s:PS):Bool:=decide ((bm W s).kind=1/\bu (bm W s).text=true)
def xR(s:PS):Bool×Int×PS:=
 if gh W [61] s then(if (bm W (aZ s)).kind=2 then(true,(bm W (aZ s)).n,aZ (aZ s)) else(false,0,dx W 2 (aZ s))) else(false,0,s)
def eJ(s:PS):D×PS:=
 let m:=bR W bu s
 let c:=xR W m.2
 (mD m.1 c.1 c.2.1,fS W c.2.2)
def kH(s:PS):List D×PS:=CY W [125] (B3 W) (eJ W) s
def o5(s:PS):Bool:=decide (bP W dW s\/bP W kY s)||rZ W s
def lP(s:PS):aE×PS:=if bP W kY s then(kY,aZ s)else eU W 12 s
def mw(s:PS):List D×PS:=if bP W qb s then eI W [41] (cH W [40] (aZ s)) else([],s)
def eK(s:PS):D×PS:=
 let r:=lP W (cS W 1 dW s)
 let m:=bR W bu r.2
 let a:=eI W [41] (cH W [40] m.2)
 let t:=mw W a.2
 (Uw m.1 (decide (bP W dW s)) r.1 a.1.isEmpty a.1 t.1.isEmpty t.1,fS W t.2)
def iq(s:PS):List D×PS:=CY W [125] (o5 W) (eK W) s
def gS(kd:Int)(s:PS):D×PS:=
 let m:=bR W bu s
 let r:=eI W [125] (cH W [123] m.2)
 (dD kd m.1 [] 0 0 0 [] true [] r.1.isEmpty r.1 true [] [] true [],r.2)
def oQ(s:PS):aE×PS:=if bP W zw s then bR W fY (aZ s) else([],s)
def jX(s:PS):Option (D×PS):=
 if bP W IX s then
  let t:=eU W 12 (aZ s)
  let m:=bR W bu t.2
  some (dD 1 m.1 t.1 0 0 0 [] true [] true [] true [] [] true [],m.2)
 else if bP W G5 s then
  let t:=eU W 12 (aZ s)
  let m:=bR W bu t.2
  let c:=cp W 12 (cH W [61] m.2)
  some (dD 3 m.1 t.1 c.1.k c.1.n c.1.u c.1.s c.1.l.isEmpty c.1.l true [] true [] [] true [],c.2)
 else if bP W xj s then
  let m:=bR W bu (aZ s)
  let r:=kH W (cH W [123] m.2)
  some (dD 2 m.1 [] 0 0 0 [] true [] true [] r.1.isEmpty r.1 [] true [],r.2)
 else if bP W F4 s then some (gS W 4 (aZ s))
 else if bP W Gw s then some (gS W 5 (aZ s))
 else if bP W D2 s then some (gS W 6 (aZ s))
 else if bP W Iy s then
  let m:=bR W bu (aZ s)
  let x:=oQ W m.2
  let r:=iq W (cH W [123] x.2)
  some (dD 7 m.1 [] 0 0 0 [] true [] true [] true [] x.1 r.1.isEmpty r.1,r.2)
 else none
def d0:D:=dD 0 [] [] 0 0 0 [] true [] true [] true [] [] true []
def im(s:PS):D×Bool×PS:=match jX W s with
 |some x=>(x.1,true,fS W x.2)
 |none=>(d0,false,s)
def sA(s:PS):Bool:=j8.any λ w=>decide (bP W w s)
end
section
variable {b : Bool} {W : List Tok} (hW : Wds W)
include hW in
theorem CH{s:PS}(hs:s.i<W.length):Mv W s (xR W s).2.2:=by
 unfold xR;split
 ·rename_i h;have a:=bU hW hs (cF h (by decide));split
  ·rename_i h2;exact(a.mv (bU hW a.lt (by rw[h2];decide)).toMv).toMv
  ·exact a.toMv.trans (jG 2 (by decide) a.lt)
 ·exact Mv.refl hs
include hW in
theorem uz{s:PS}(hs:s.i<W.length):Ad W s (eJ W s).2:=by have h1:=cz hW bu hs;have h2:=h1.mv (CH hW h1.lt);exact h2.mv (gz hW h2.lt)
include hW in
theorem rP{s:PS}(hs:s.i<W.length):Ad W s (kH W s).2:=CZ hW (λ s hs _=>uz hW hs) hs
include hW in
theorem Ip{s:PS}(hs:s.i<W.length):Ad W s (lP W s).2:=by
 unfold lP;split
 ·rename_i h;exact bU hW hs (cF h (by decide))
 ·exact iA hW 12 hs
include hW in
theorem Da{s:PS}(hs:s.i<W.length):Mv W s (mw W s).2:=by
 unfold mw;split
 ·rename_i h;have a:=bU hW hs (cF h (by decide));have a2:=a.mv (bX hW [40] a.lt).toMv;exact(a2.mv (jj hW [41] a2.lt).toMv).toMv
 ·exact Mv.refl hs
include hW in
theorem uA{s:PS}(hs:s.i<W.length):Ad W s (eK W s).2:=by have h1:=tE hW 1 dW (by decide) hs;have h2:=h1.ad (Ip hW h1.lt);have h3:=h2.mv (cz hW bu h2.lt).toMv;have h4:=h3.mv (bX hW [40] h3.lt).toMv;have h5:=h4.mv (jj hW [41] h4.lt).toMv;have h6:=h5.mv (Da hW h5.lt);exact h6.mv (gz hW h6.lt)
include hW in
theorem rQ{s:PS}(hs:s.i<W.length):Ad W s (iq W s).2:=CZ hW (λ s hs _=>uA hW hs) hs
include hW in
theorem lz(kd:Int){s:PS}(hs:s.i<W.length):Ad W s (gS W kd s).2:=by have h1:=cz hW bu hs;have h2:=h1.mv (bX hW [123] h1.lt).toMv;exact h2.mv (jj hW [125] h2.lt).toMv
include hW in
theorem Py{s:PS}(hs:s.i<W.length):Mv W s (oQ W s).2:=by
 unfold oQ;split
 ·rename_i h;have a:=bU hW hs (cF h (by decide));exact(a.mv (cz hW fY a.lt).toMv).toMv
 ·exact Mv.refl hs
include hW in
theorem Jo{s:PS}(hs:s.i<W.length){x:D×PS}(h:jX W s=some x):Ad W s x.2:=by
 have nx:∀{g:aE},bP W g s->Ad W s (aZ s):=λ h=>bU hW hs (cF h (by decide));unfold jX at h;split at h
 ·rename_i h0;injection h with h;subst h
  have a:=(nx h0).mv (iA hW 12 (nx h0).lt).toMv;exact a.mv (cz hW bu a.lt).toMv
 split at h
 ·rename_i h0;injection h with h;subst h
  have a:=(nx h0).mv (iA hW 12 (nx h0).lt).toMv;have a2:=a.mv (cz hW bu a.lt).toMv;have a3:=a2.mv (bX hW [61] a2.lt).toMv;exact a3.mv (kz hW 12 a3.lt).1
 split at h
 ·rename_i h0;injection h with h;subst h
  have a:=(nx h0).mv (cz hW bu (nx h0).lt).toMv;have a2:=a.mv (bX hW [123] a.lt).toMv;exact a2.mv (rP hW a2.lt).toMv
 split at h
 ·rename_i h0;injection h with h;subst h;exact(nx h0).mv (lz hW 4 (nx h0).lt).toMv
 split at h
 ·rename_i h0;injection h with h;subst h;exact(nx h0).mv (lz hW 5 (nx h0).lt).toMv
 split at h
 ·rename_i h0;injection h with h;subst h;exact(nx h0).mv (lz hW 6 (nx h0).lt).toMv
 split at h
 ·rename_i h0;injection h with h;subst h
  have a:=(nx h0).mv (cz hW bu (nx h0).lt).toMv;have a2:=a.mv (Py hW a.lt);have a3:=a2.mv (bX hW [123] a2.lt).toMv;exact a3.mv (rQ hW a3.lt).toMv
 ·cases h
include hW in
theorem Ph{s:PS}(hs:s.i<W.length):Mv W s (im W s).2.2/\((im W s).2.1=true->Ad W s (im W s).2.2):=by
 unfold im
 cases h:jX W s with
 |none=>exact⟨Mv.refl hs,λ e=>by cases e⟩
 |some x=>
  have a:=Jo hW hs h;have a2:=a.mv (gz hW a.lt);exact⟨a2.toMv,λ _=>a2⟩
abbrev XF(L:List D)(s:PS)(b:Bool)(W:List Tok):Task:=Lt L.isEmpty L (pO b W s)
abbrev Yu(L:List D)(s:PS)(b:Bool)(W:List Tok):Task:=Lv L.isEmpty L (pO b W s)
include hW in
theorem E4(L:List D)(s:PS)(hs:s.i<W.length)(hl:L.length<=100000)(hh:bA 3 L=true):
  RU (XF L s b W)=if s.e=0/\¬gh W [125] s then(if L.length=30/\B3 W s=true then RU (Yu L (dx W 4 s) b W)else RU (XF (L++[(eJ W s).1]) (eJ W s).2 b W))else RU (Yu L s b W):=by
 have at1955:∀(m:aE) (h:Bool) (n:Int) (s:PS),s.i<W.length->
   RU (SN L.isEmpty L [aC (OC m n h),aC (pC b W s)])=RU (XF (L++[mD m h n]) (fS W s) b W):=by
  intro m h n s hs;rw[RU];refine(Hy ..).trans ?_;refine(dZ (uI hW hs)).trans ?_;refine(qN hh).trans ?_;refine(qN (show (L.isEmpty||true)=true by simp)).trans ?_;refine(aN (by omega)).trans ?_;rw[show (L.isEmpty&&false)=(L++[mD m h n]).isEmpty by rw[Un,Bool.and_false]];exact di
 have go:RU (Oe L.isEmpty false L (pO b W s))=RU (XF (L++[(eJ W s).1]) (eJ W s).2 b W):=by
  have a1:=cz hW bu hs;rw[RU];refine(AE ..).trans ?_;refine bH.trans ?_;refine(kh (pM hW hs)).trans ?_;refine(dL (yF hW a1.lt [61])).trans ?_;unfold eJ xR cS;by_cases h:gh W [61] (bR W bu s).2
  ·have a2:=a1.mv (bU hW a1.lt (cF h (by decide))).toMv
   rw[bC h,aaR h];dsimp only;rw[aaR h];refine(sY (j:=2) (n:=(bR W bu s).2.e) rfl).trans ?_;rw[bM h.1];refine(jR (jv a2.lt)).trans ?_;refine cT.trans ?_;refine di.trans ?_;rw[RU];refine(EB ..).trans ?_;by_cases hk:(bm W (aZ (bR W bu s).2)).kind=2
   ·rw[aaR hk];refine(cX (show (((bm W (aZ (bR W bu s).2)).kind:Int) != 2)=false by rw[hk];rfl)).trans ?_;refine(jR (jv a2.lt)).trans ?_;refine cT.trans ?_;refine(dZ (ir hW a2.lt)).trans ?_;refine di.trans ?_;exact at1955 _ true _ _ (bU hW a2.lt (by rw[hk];decide)).lt
   ·rw[aaN hk];refine(eH (show (((bm W (aZ (bR W bu s).2)).kind:Int) != 2)=true from bne_iff_ne.2 (by omega))).trans ?_;refine(dZ (jH a2.lt 2)).trans ?_;refine di.trans ?_;exact at1955 _ false 0 _ (jG 2 (by decide) a2.lt).lt
  ·rw[bB h,aaN h];dsimp only;rw[aaN h];refine di.trans ?_;exact at1955 _ false 0 _ a1.lt
 have at803:∀w:Bool,w=B3 W s->L.length=30->RU (Oe L.isEmpty w L (pO b W s))=if L.length=30/\B3 W s=true then RU (Yu L (dx W 4 s) b W)else RU (XF (L++[(eJ W s).1]) (eJ W s).2 b W):=by
  intro w hw h30
  cases w with
  |true=>
   rw[aaR ⟨h30,hw.symm⟩,RU];refine(AE ..).trans ?_;refine bQ.trans ?_;refine(dZ (jH hs 4)).trans ?_;exact di
  |false=>
   rw[aaN (λ x=>by rw[<-hw]at x;cases x.2)];exact go
 have at195:∀w:Bool,w=decide (s.e=0/\¬gh W [125] s)->RU (Sf L.isEmpty w L (pO b W s))=if s.e=0/\¬gh W [125] s then(if L.length=30/\B3 W s=true then RU (Yu L (dx W 4 s) b W)else RU (XF (L++[(eJ W s).1]) (eJ W s).2 b W))else RU (Yu L s b W):=by
  intro w hw;rw[RU];refine(MI ..).trans ?_;rw[hw];by_cases h:s.e=0/\¬gh W [125] s
  ·rw[bC h,aaR h];by_cases h30:L.length=30
   ·rw[bM];refine(jR (jv hs)).trans ?_;refine cT.trans ?_;by_cases hk:(bm W s).kind=1
    ·rw[bM];refine(jR (jv hs)).trans ?_;refine(gJ (ta _ (abI (jM hW hs) (by decide)))).trans ?_;refine di.trans ?_;exact at803 _ (by unfold B3;cases hp:bu (bm W s).text<;>simp[hk]) h30
    ·rw[bp];refine di.trans ?_;exact at803 false (by unfold B3;rw[abf (λ x=>hk x.1)]) h30
   ·rw[bp,aaN (λ x=>h30 x.1)];exact di.trans go
  ·rw[bB h,aaN h];exact di
 rw[RU];refine(Hz ..).trans ?_;refine(sY (j:=2) (n:=s.e) rfl).trans ?_;by_cases he:s.e=0
 ·rw[bM he];refine(dL (xI hs [125])).trans ?_;refine di.trans ?_;exact at195 _ (by by_cases h:gh W [125] s<;>simp[h,he])
 ·rw[bp he];exact di.trans (at195 false (by simp[he]))
include hW in
theorem M7{s:PS}(hs:s.i<W.length):RU (.call 81 [.p 0 0] (pO b W s))=some (vl (kH W s).1.isEmpty (kH W s).1,pO b W (kH W s).2):=by
 rw[RU,u81];refine di.trans ?_;exact tz (T:=λ L s=>XF L s b W) (Te:=λ L s=>Yu L s b W) 3 hW.len (λ s hs _=>uz hW hs) (λ s hs _=>rfl) (λ L s hs=>by
  rw[RU];refine(PH ..).trans ?_;refine(dZ (jf hW hs [125])).trans ?_
  rfl) (λ L s hs hl hh=>E4 hW L s hs hl hh) (W.length+2) [] hs (by omega) (λ _=>by omega) (λ _=>by simp) (by simp) (λ _ h=>by cases h)
abbrev Wb(L:List D)(s:PS)(b:Bool)(W:List Tok):Task:=Lu L.isEmpty L (pO b W s)
abbrev Yv(L:List D)(s:PS)(b:Bool)(W:List Tok):Task:=Lw L.isEmpty L (pO b W s)
include hW in
theorem E6(L:List D)(s:PS)(hs:s.i<W.length)(hl:L.length<=100000)(hh:bA 5 L=true):
  RU (Wb L s b W)=if s.e=0/\¬gh W [125] s then(if L.length=30/\o5 W s=true then RU (Yv L (dx W 4 s) b W)else RU (Wb (L++[(eK W s).1]) (eK W s).2 b W))else RU (Yv L s b W):=by
 have at32675:∀(m:aE) (h:Bool) (r:aE) (a t:List D) (s:PS),s.i<W.length->
   RU (Kz L.isEmpty L [aC (zl m r h a.isEmpty t.isEmpty a t),aC (pC b W s)])=RU (Wb (L++[Uw m h r a.isEmpty a t.isEmpty t]) (fS W s) b W):=by
  intro m h r a t s hs;rw[RU];refine(EC ..).trans ?_;refine(dZ (uI hW hs)).trans ?_;refine(qN hh).trans ?_;refine(qN (show (L.isEmpty||true)=true by simp)).trans ?_;refine(aN (by omega)).trans ?_;rw[show (L.isEmpty&&false)=(L++[Uw m h r a.isEmpty a t.isEmpty t]).isEmpty by rw[Un,Bool.and_false]];exact di
 have at1955:∀(h:Bool) (r:aE) (s:PS),s.i<W.length->
   RU (KB L.isEmpty L [aC (zl [] r h true true [] []),aC (pC b W s)])=
    RU (Wb (L++[Uw (bR W bu s).1 h r (eI W [41] (cH W [40] (bR W bu s).2)).1.isEmpty (eI W [41] (cH W [40] (bR W bu s).2)).1 (mw W (eI W [41] (cH W [40] (bR W bu s).2)).2).1.isEmpty (mw W (eI W [41] (cH W [40] (bR W bu s).2)).2).1]) (fS W (mw W (eI W [41] (cH W [40] (bR W bu s).2)).2).2) b W):=by
  intro h r s hs;have a1:=cz hW bu hs;have a2:=a1.mv (bX hW [40] a1.lt).toMv;have a3:=a2.mv (jj hW [41] a2.lt).toMv;rw[RU];refine(HA ..).trans ?_;refine(kh (pM hW hs)).trans ?_;refine(dZ (jf hW a1.lt [40])).trans ?_;refine(Re (kD hW [41] a2.lt)).trans ?_;refine(dL (rX hW a3.lt qb)).trans ?_;unfold mw cS;by_cases ht:bP W qb (eI W [41] (cH W [40] (bR W bu s).2)).2
  ·have a4:=a3.mv (bU hW a3.lt (cF ht (by decide))).toMv
   have a5:=a4.mv (bX hW [40] a4.lt).toMv;rw[bC ht,aaR ht,aaR ht];refine(dZ (jf hW a4.lt [40])).trans ?_;refine(Re (kD hW [41] a5.lt)).trans ?_;refine di.trans ?_;exact at32675 _ h r _ _ _ (jj hW [41] a5.lt).lt
  ·rw[bB ht,aaN ht,aaN ht];refine di.trans ?_;exact at32675 _ h r _ [] _ a3.lt
 have go:RU (IU L.isEmpty false L (pO b W s))=RU (Wb (L++[(eK W s).1]) (eK W s).2 b W):=by
  have h1:=tE hW 1 dW (by decide) hs;rw[RU];refine(AF ..).trans ?_;refine bH.trans ?_;refine(dL (rX hW hs dW)).trans ?_;refine(dL (rX hW h1.lt kY)).trans ?_;have last:=λ (r:aE) (t:PS) (e:lP W (cS W 1 dW s)=(r,t))=>at1955 (decide (bP W dW s)) r t (by have:=(Ip hW h1.lt).lt;rw[e]at this;exact this);unfold eK;by_cases hv:bP W kY (cS W 1 dW s)
  ·have er:lP W (cS W 1 dW s)=(kY,aZ (cS W 1 dW s)):=by unfold lP;rw[aaR hv]
   have es:cS W 1 kY (cS W 1 dW s)=aZ (cS W 1 dW s):=by rw[cS,aaR hv]
   rw[bC hv,er,es];refine di.trans ?_;exact last _ _ er
  ·have er:lP W (cS W 1 dW s)=eU W 12 (cS W 1 dW s):=by unfold lP;rw[aaN hv]
   have es:cS W 1 kY (cS W 1 dW s)=cS W 1 dW s:=by rw[cS,aaN hv]
   rw[bB hv,er,es];refine(kh (BJ hW 12 (by decide) h1.lt)).trans ?_;refine di.trans ?_;exact last _ _ er
 have at803:∀w:Bool,w=o5 W s->L.length=30->RU (IU L.isEmpty w L (pO b W s))=if L.length=30/\o5 W s=true then RU (Yv L (dx W 4 s) b W)else RU (Wb (L++[(eK W s).1]) (eK W s).2 b W):=by
  intro w hw h30
  cases w with
  |true=>
   rw[aaR ⟨h30,hw.symm⟩,RU];refine(AF ..).trans ?_;refine bQ.trans ?_;refine(dZ (jH hs 4)).trans ?_;exact di
  |false=>
   rw[aaN (λ x=>by rw[<-hw]at x;cases x.2)];exact go
 have at195:∀w:Bool,w=decide (s.e=0/\¬gh W [125] s)->RU (Sh L.isEmpty w L (pO b W s))=if s.e=0/\¬gh W [125] s then(if L.length=30/\o5 W s=true then RU (Yv L (dx W 4 s) b W)else RU (Wb (L++[(eK W s).1]) (eK W s).2 b W))else RU (Yv L s b W):=by
  intro w hw;rw[RU];refine(MJ ..).trans ?_;rw[hw];by_cases h:s.e=0/\¬gh W [125] s
  ·rw[bC h,aaR h];by_cases h30:L.length=30
   ·rw[bM];refine(dL (Di hs dW)).trans ?_;by_cases h1:bP W dW s
    ·rw[bC h1];refine di.trans ?_;exact at803 true (by unfold o5;rw[aa3 (.inl h1)];rfl) h30
    ·rw[bB h1];refine(dL (Di hs kY)).trans ?_;by_cases h2:bP W kY s
     ·rw[bC h2];refine di.trans ?_;exact at803 true (by unfold o5;rw[aa3 (.inr h2)];rfl) h30
     ·rw[bB h2];refine(dL (L4 hW hs)).trans ?_;refine di.trans ?_;exact at803 _ (by unfold o5;rw[abf (λ x=>x.elim h1 h2)];rfl) h30
   ·rw[bp,aaN (λ x=>h30 x.1)];exact di.trans go
  ·rw[bB h,aaN h];exact di
 rw[RU];refine(HB ..).trans ?_;refine(sY (j:=2) (n:=s.e) rfl).trans ?_;by_cases he:s.e=0
 ·rw[bM he];refine(dL (xI hs [125])).trans ?_;refine di.trans ?_;exact at195 _ (by by_cases h:gh W [125] s<;>simp[h,he])
 ·rw[bp he];exact di.trans (at195 false (by simp[he]))
include hW in
theorem M8{s:PS}(hs:s.i<W.length):RU (.call 83 [.p 0 0] (pO b W s))=some (vl (iq W s).1.isEmpty (iq W s).1,pO b W (iq W s).2):=by
 rw[RU,u83];refine di.trans ?_;exact tz (T:=λ L s=>Wb L s b W) (Te:=λ L s=>Yv L s b W) 5 hW.len (λ s hs _=>uA hW hs) (λ s hs _=>rfl) (λ L s hs=>by
  rw[RU];refine(PI ..).trans ?_;refine(dZ (jf hW hs [125])).trans ?_
  rfl) (λ L s hs hl hh=>E6 hW L s hs hl hh) (W.length+2) [] hs (by omega) (λ _=>by omega) (λ _=>by simp) (by simp) (λ _ h=>by cases h)
end
section
variable {b : Bool} {W : List Tok} (hW : Wds W)
theorem Km{k:Nat}{g:aE}{s:PS}(h:pF W k g s):cS W k g s=aZ s:=by rw[cS,aaR h]
theorem Kl{k:Nat}{g:aE}{s:PS}(h:¬pF W k g s):cS W k g s=s:=by rw[cS,aaN h]
include hW in
theorem Dc{g:aE}{s:PS}(hs:s.i<W.length)(h:bP W g s):RU (.call 72 [.p 0 0,vs g] (pO b W s))=some (vb true,pO b W (aZ s)):=by rw[rX hW hs,aa3 h,Km h]
include hW in
theorem Db{g:aE}{s:PS}(hs:s.i<W.length)(h:¬bP W g s):RU (.call 72 [.p 0 0,vs g] (pO b W s))=some (vb false,pO b W s):=by rw[rX hW hs,abf h,Kl h]
include hW in
theorem yI(kd:Int){s:PS}(hs:s.i<W.length):RU (.call 82 [.p 0 0,vi kd] (pO b W s))=some (.d (gS W kd s).1,pO b W (gS W kd s).2):=by have a1:=cz hW bu hs;have a2:=a1.mv (bX hW [123] a1.lt).toMv;rw[RU,u82];refine(kh (pM hW hs)).trans ?_;refine(dZ (jf hW a1.lt [123])).trans ?_;refine(Re (kD hW [125] a2.lt)).trans ?_;rfl
abbrev z12:Ob := .cells (dp [] [] [] [] 0 0 0 0 true true true true [] [] [] []) []
include hW in
theorem wZ(kd:Int)(nm ty:aE)(ck cn cu:Int)(cs:aE)(cb:Bool)(cl:List D)(fb:Bool)(fl:List D)(mb:Bool)(ml:List D)(ex:aE)(tb:Bool)(tl:List D){s:PS}(hs:s.i<W.length):
  RU (VF [aC (dp nm ty cs ex kd ck cn cu cb fb mb tb cl fl ml tl),z12,aC (pC b W s)])=some (.t [.d (dD kd nm ty ck cn cu cs cb cl fb fl mb ml ex tb tl),vb true],pO b W (fS W s)):=by
 rw[RU];refine(PE ..).trans ?_;refine(dZ (uI hW hs)).trans ?_;rfl
include hW in
theorem YU{s:PS}(hs:s.i<W.length):RU (.call 41 [.p 0 0] (pO b W s))=some (.t [.d (im W s).1,vb (im W s).2.1],pO b W (im W s).2.2):=by
 have nx:∀{g:aE},bP W g s->(aZ s).i<W.length:=λ h=>(bU hW hs (cF h (by decide))).lt;have sub:∀{x:D×PS},jX W s=some x->im W s=(x.1,true,fS W x.2):=λ h=>by rw[im,h]
 rw[RU,u41];by_cases h1:bP W IX s
 ·refine(dL (Dc hW hs h1)).trans ?_;refine bQ.trans ?_;have a1:=iA hW 12 (nx h1);have a2:=a1.mv (cz hW bu a1.lt).toMv;refine(kh (BJ hW 12 (by decide) (nx h1))).trans ?_;refine(kh (pM hW a1.lt)).trans ?_;refine(aM (wZ hW _ _ _ _ _ _ _ _ _ _ _ _ _ _ _ _ a2.lt)).trans ?_;rw[im,jX,aaR h1]
 refine(dL (Db hW hs h1)).trans ?_;refine bH.trans ?_;by_cases h2:bP W G5 s
 ·refine(dL (Dc hW hs h2)).trans ?_;refine bQ.trans ?_;have a1:=iA hW 12 (nx h2);have a2:=a1.mv (cz hW bu a1.lt).toMv;have a3:=a2.mv (bX hW [61] a2.lt).toMv;have a4:=a3.mv (kz hW 12 a3.lt).1;refine(kh (BJ hW 12 (by decide) (nx h2))).trans ?_;refine(kh (pM hW a1.lt)).trans ?_;refine(dZ (jf hW a2.lt [61])).trans ?_;refine(jR (B7 hW 12 (by decide) a3.lt)).trans ?_;refine aQ.trans ?_;refine(aM (wZ hW _ _ _ _ _ _ _ _ _ _ _ _ _ _ _ _ a4.lt)).trans ?_;rw[im,jX,aaN h1,aaR h2]
 refine(dL (Db hW hs h2)).trans ?_;refine bH.trans ?_;by_cases h3:bP W xj s
 ·refine(dL (Dc hW hs h3)).trans ?_;refine bQ.trans ?_;have a1:=cz hW bu (nx h3);have a2:=a1.mv (bX hW [123] a1.lt).toMv;have a3:=a2.mv (rP hW a2.lt).toMv;refine(kh (pM hW (nx h3))).trans ?_;refine(dZ (jf hW a1.lt [123])).trans ?_;refine(Re (M7 hW a2.lt)).trans ?_;refine(aM (wZ hW _ _ _ _ _ _ _ _ _ _ _ _ _ _ _ _ a3.lt)).trans ?_;rw[im,jX,aaN h1,aaN h2,aaR h3]
 refine(dL (Db hW hs h3)).trans ?_;refine bH.trans ?_;by_cases h4:bP W F4 s
 ·refine(dL (Dc hW hs h4)).trans ?_;refine bQ.trans ?_;refine(jR (yI hW 4 (nx h4))).trans ?_;refine aQ.trans ?_;refine(aM (wZ hW _ _ _ _ _ _ _ _ _ _ _ _ _ _ _ _ (lz hW 4 (nx h4)).lt)).trans ?_;rw[im,jX,aaN h1,aaN h2,aaN h3,aaR h4];rfl
 refine(dL (Db hW hs h4)).trans ?_;refine bH.trans ?_;by_cases h5:bP W Gw s
 ·refine(dL (Dc hW hs h5)).trans ?_;refine bQ.trans ?_;refine(jR (yI hW 5 (nx h5))).trans ?_;refine aQ.trans ?_;refine(aM (wZ hW _ _ _ _ _ _ _ _ _ _ _ _ _ _ _ _ (lz hW 5 (nx h5)).lt)).trans ?_;rw[im,jX,aaN h1,aaN h2,aaN h3,aaN h4,aaR h5];rfl
 refine(dL (Db hW hs h5)).trans ?_;refine bH.trans ?_;by_cases h6:bP W D2 s
 ·refine(dL (Dc hW hs h6)).trans ?_;refine bQ.trans ?_;refine(jR (yI hW 6 (nx h6))).trans ?_;refine aQ.trans ?_;refine(aM (wZ hW _ _ _ _ _ _ _ _ _ _ _ _ _ _ _ _ (lz hW 6 (nx h6)).lt)).trans ?_;rw[im,jX,aaN h1,aaN h2,aaN h3,aaN h4,aaN h5,aaR h6];rfl
 refine(dL (Db hW hs h6)).trans ?_;refine bH.trans ?_;by_cases h7:bP W Iy s
 ·refine(dL (Dc hW hs h7)).trans ?_;refine bQ.trans ?_;have a1:=cz hW bu (nx h7);refine(kh (pM hW (nx h7))).trans ?_;have last:∀(x:aE) (t:PS),t.i<W.length->RU (Ky [aC [vi 7,vs (bR W bu (aZ s)).1,vs [],vi 0,vi 0,vu 0,vs [],vl true [],vl true [],vl true [],vs x,vl true []],z12,aC (pC b W t)])=
    some (.t [.d (dD 7 (bR W bu (aZ s)).1 [] 0 0 0 [] true [] true [] true [] x (iq W (cH W [123] t)).1.isEmpty (iq W (cH W [123] t)).1),vb true],pO b W (fS W (iq W (cH W [123] t)).2)):=by
   intro x t ht;have a2:=bX hW [123] ht;have a3:=a2.mv (rQ hW a2.lt).toMv;rw[RU];refine(zA ..).trans ?_;refine(dZ (jf hW ht [123])).trans ?_;refine(Re (M8 hW a2.lt)).trans ?_;exact aM (wZ hW _ _ _ _ _ _ _ _ _ _ _ _ _ _ _ _ a3.lt)
  rw[im,jX,aaN h1,aaN h2,aaN h3,aaN h4,aaN h5,aaN h6,aaR h7];dsimp only;by_cases he:bP W zw (bR W bu (aZ s)).2
  ·refine(dL (Dc hW a1.lt he)).trans ?_;refine bQ.trans ?_;have a2:=a1.mv (bU hW a1.lt (cF he (by decide))).toMv;refine(kh (sH hW a2.lt)).trans ?_;refine(aM (last _ _ (a2.mv (cz hW fY a2.lt).toMv).lt)).trans ?_;rw[oQ,aaR he]
  ·refine(dL (Db hW a1.lt he)).trans ?_;refine bH.trans ?_;refine(aM (last _ _ a1.lt)).trans ?_;rw[oQ,aaN he]
 refine(dL (Db hW hs h7)).trans ?_;refine bH.trans ?_;rw[im,jX,aaN h1,aaN h2,aaN h3,aaN h4,aaN h5,aaN h6,aaN h7];rfl
include hW in
theorem Ag(fb:Bool){s:PS}(hs:s.i<W.length):∀(r p:List aE),p++r=j8->
  RU (Lg (p.length:Int) fb (j8.map .s) (pO b W s))=some (vb (r.any λ w=>decide (bP W w s)),pO b W s)
 | [],p,hp=>by
  have hl:(j8.map D.s).length=7:=rfl;have:p.length=7:=by have:=congrArg List.length hp;simpa[j8]using this
  rw[RU,xu,hl,bB];rfl
 |x::r,p,hp=>by
  have hl:(j8.map D.s).length=7:=rfl;have hlt:p.length<7:=by have:=congrArg List.length hp;simp[j8]at this;omega
  have hg:(j8.map D.s)[p.length]?=some (.s x):=by rw[<-hp,List.getElem?_map];simp
  rw[RU,xu,hl,bC];refine(Mb hg).trans ?_;refine(dL (Di hs x)).trans ?_;by_cases e:bP W x s
  ·rw[bC e,List.any_cons,aa3 e];rfl
  ·rw[bB e,List.any_cons,abf e,iZ];have:=Ag fb hs r (p++[x]) (by rw[abg];exact hp);rw[P7]at this;exact aM this
include hW in
theorem W4{s:PS}(hs:s.i<W.length):RU (.call 39 [.p 0 0] (pO b W s))=some (vb (sA W s),pO b W s):=by rw[RU,u39];exact aM (Ag hW true hs j8 [] rfl)
end
end Go.Dn.Dec.Pa
namespace Go.Dn.Dec
open Go.IntKind (i64 u64 u8 u16 i32 u32)
open Go.Proofs
open Tryz (prog)
def YR:List (Nat×List (Nat×List Nat)):=
 [(16,[(319,[2,8,9]),(3135,[2,8,9,38]),(12863,[2,8,9,46]),(31295,[2,8,9,10]),(255,[2,8,9])]),
 (37,[(2,[0,1]),(24,[0,1,18]),(100,[0,1,40]),(3412,[0,1,4,55]),(1012,[0,1,5])]),
 (4,[(27,[0,1,2,19])]),
 (5,[(27,[0,1,2,23])])]
def aag(k:Nat)(p:List Bool):Option (List Nat):=(YR.lookup k).bind λ l=>l.lookup (p.foldl (λ n b=>2*n+b.toNat) 1)
def YH:List (Nat×Nat×Nat×Nat):=[(16,13,4,3),(37,8,8,3),(37,14,7,3)]
def aab(k r i:Nat):Nat:=((YH.find? λ x=>x.1==k&&x.2.1==r&&x.2.2.1==i).map (·.2.2.2)).getD 2
def aau(k r _:Nat):Fl:=match k,r with
 |16,5=>[(0,1),(1,2),(2,12)]
 |_,_=>[]
def AS(k:Nat):Bool:=k==17||(decide (38<=k)&&decide (k<=41))||(decide (71<=k)&&decide (k<=76))
noncomputable def CT(args:List V)(S:List Ob):Option Out:=
 match args with
 | [.d (.g [.l true [],.l true [],.l true []])]=>some (.d (.s []),S)
 |args=>lV prog bT 12 args S
noncomputable def MB(k:Nat):Option (List V->List Ob->Option Out):=
 if k=4\/k=5\/k=16\/k=37 then none else if k=20 then some (λ args S=>run prog aK (.call k args S))else if AS k=true then some (lV prog ch k)else if k=12 then some CT else some (lV prog bT k)
noncomputable def kJ:Pol:={ cut:=aag,app:=aab,mR:=aau,ext:=MB,fresh:=λ _=>false }
theorem aa5(s:aE):EQ kJ (.call 16 [vs s] []) (cV (.call 20 [vs s] []) λ a=>dI a λ c=>aO (c.length==3) (bG (cG c 0) λ e=>gX e λ f h=>bG (cG c 1) λ j=>cf .i64 j λ k=>bG (cG c 2) λ m=>cf .i64 m λ n=>aV (k != 0) (.ret (.t [.d (.g [.l true [],.l true [],.l true []]),vi k,vi n],[])) (.call (.call 37 [.p 1 0,.p 2 0] [.cells (fI true true true [] [] []) [(0,1),(1,2),(2,12)],aC (kO 0 0 0 f h),aC (fI true true true [] [] [])]) λ o=>eE o.snd λ q r=>dA q λ v w=>aO (v.length==3) (aO (w==[(0,1),(1,2),(2,12)]) (eE r λ x y=>dA x λ z a0=>aO (z.length==4) (aO (a0==[]) (eE y λ a1 a2=>dA a1 λ a3 a4=>aO (a3.length==3) (aO (a4==[]) (iY a2 (dI o.fst λ a5=>aO (a5.length==0) (aR (N9 [.cells v [(0,1),(1,2),(2,12)],aC z,aC a3])))))))))))):=aF
theorem aa7(ib:Bool)(il:List D)(sb:Bool)(sl:List D)(db:Bool)(dl:List D)(b:Bool)(l:List D)(i e a:Int)(r:List V):EQ kJ (.call 37 [.p 1 0,.p 2 0] [.cells (fI ib sb db il sl dl) [(0,1),(1,2),(2,12)],aC (kO i e a b l),aC r]) (aR (Gf [.cells (fI ib sb db il sl dl) [(0,1),(1,2),(2,12)],aC (kO i e a b l),aC r])):=aF
theorem UN(b0:Bool)(l1:List D)(b2:Bool)(l3:List D)(b4:Bool)(l5:List D)(l6 l7:List V):EQ kJ (Gf [.cells (fI b0 b2 b4 l1 l3 l5) [(0,1),(1,2),(2,12)],aC l6,aC l7]) (ob l6[2]? λ a=>aI a λ c=>aV (c==0) (c2 (.call 71 [.p 1 0,vs [105,110,99,108,117,100,101]] [aC l6,aC l7]) l6.length [] l7.length [] λ e f g=>aB e λ h=>aV h (aR (SS true [.cells (fI b0 b2 b4 l1 l3 l5) [(0,1),(1,2),(2,12)],aC f,aC g])) (c2 (.call 71 [.p 1 0,vs [110,97,109,101,115,112,97,99,101]] [aC f,aC g]) f.length [] g.length [] λ i j k=>aB i λ m=>aR (SS m [.cells (fI b0 b2 b4 l1 l3 l5) [(0,1),(1,2),(2,12)],aC j,aC k]))) (aR (SS false [.cells (fI b0 b2 b4 l1 l3 l5) [(0,1),(1,2),(2,12)],aC l6,aC l7]))):=aF
theorem QM(b0 b1:Bool)(l2:List D)(b3:Bool)(l4:List D)(b5:Bool)(l6:List D)(l7 l8:List V):EQ kJ (SS b0 [.cells (fI b1 b3 b5 l2 l4 l6) [(0,1),(1,2),(2,12)],aC l7,aC l8]) (aV b0 (c2 (.call 71 [.p 1 0,vs [105,110,99,108,117,100,101]] [aC l7,aC l8]) l7.length [] l8.length [] λ o0 l3 l7=>aB o0 λ b10=>aV b10 (aV ((l2.length:Int)==5) (aR (Og true [.cells (fI b1 b3 b5 l2 l4 l6) [(0,1),(1,2),(2,12)],aC l3,aC l7])) (c2 (.call 71 [.p 1 0,vs [110,97,109,101,115,112,97,99,101]] [aC l3,aC l7]) l3.length [] l7.length [] λ o11 l14 l18=>aB o11 λ b21=>aV b21 (aR (Og ((l4.length:Int)==5) [.cells (fI b1 b3 b5 l2 l4 l6) [(0,1),(1,2),(2,12)],aC l14,aC l18])) (aR (Og false [.cells (fI b1 b3 b5 l2 l4 l6) [(0,1),(1,2),(2,12)],aC l14,aC l18])))) (c2 (.call 71 [.p 1 0,vs [110,97,109,101,115,112,97,99,101]] [aC l3,aC l7]) l3.length [] l7.length [] λ o22 l25 l29=>aB o22 λ b32=>aV b32 (aR (Og ((l4.length:Int)==5) [.cells (fI b1 b3 b5 l2 l4 l6) [(0,1),(1,2),(2,12)],aC l25,aC l29])) (aR (Og false [.cells (fI b1 b3 b5 l2 l4 l6) [(0,1),(1,2),(2,12)],aC l25,aC l29])))) (.ret (.t [],[.cells (fI b1 b3 b5 l2 l4 l6) [(0,1),(1,2),(2,12)],aC l7,aC l8]))):=aF
theorem uK(b0 b1:Bool)(l2:List D)(b3:Bool)(l4:List D)(b5:Bool)(l6:List D)(l7 l8:List V):EQ kJ (Og b0 [.cells (fI b1 b3 b5 l2 l4 l6) [(0,1),(1,2),(2,12)],aC l7,aC l8]) (aV b0 (c2 (.call 40 [.p 1 0,vi 4] [aC l7,aC l8]) l7.length [] l8.length [] λ o0 l3 l7=>dI o0 λ l9=>aO (l9.length==0) (.ret (.t [],[.cells (fI b1 b3 b5 l2 l4 l6) [(0,1),(1,2),(2,12)],aC l3,aC l7]))) (c2 (.call 72 [.p 1 0,vs [105,110,99,108,117,100,101]] [aC l7,aC l8]) l7.length [] l8.length [] λ o10 l13 l17=>aB o10 λ b20=>aV b20 (c2 (.call 38 [.p 1 0] [aC l13,aC l17]) l13.length [] l17.length [] λ o21 l24 l28=>bG o21 λ d30=>j5 5 d30 λ l31=>aO ([.d (aH l31 0),.d (aH l31 1),.d (aH l31 2),.d (aH l31 3),.d (aH l31 4)].all V.one) (cf .i64 (aH l31 0) λ n32=>aV (n32 != 4) (aR (R6 true [aC [.d (aH l31 0),.d (aH l31 1),.d (aH l31 2),.d (aH l31 3),.d (aH l31 4)],.cells (fI b1 b3 b5 l2 l4 l6) [(0,1),(1,2),(2,12)],aC l24,aC l28])) (fJ (aH l31 1) λ l33=>cV (.call 73 [vs l33] []) λ o34=>aB o34 λ b36=>aR (.at_ 37 3 (aJ 3412) (sv 93 [(0,.p 1 0),(1,.p 2 0),(4,.p 3 0),(55,vb !b36)]) [] [aC [.d (aH l31 0),.d (aH l31 1),.d (aH l31 2),.d (aH l31 3),.d (aH l31 4)],.cells (fI b1 b3 b5 l2 l4 l6) [(0,1),(1,2),(2,12)],aC l24,aC l28])))) (c2 (.call 74 [.p 1 0] [aC l13,aC l17]) l13.length [] l17.length [] λ o37 l40 l44=>dI o37 λ l46=>aO (l46.length==0) (c2 (.call 75 [.p 1 0,vs [42]] [aC l40,aC l44]) l40.length [] l44.length [] λ o47 l50 l54=>aB o47 λ b57=>aV (!b57) (c2 (.call 76 [.p 1 0] [aC l50,aC l54]) l50.length [] l54.length [] λ o58 l61 l65=>aS o58 λ l68=>aR (KF [aC [vs l68,vs []],.cells (fI b1 b3 b5 l2 l4 l6) [(0,1),(1,2),(2,12)],aC l61,aC l65])) (aR (KF [aC [vs [42],vs []],.cells (fI b1 b3 b5 l2 l4 l6) [(0,1),(1,2),(2,12)],aC l50,aC l54])))))):=aF
theorem yi(b0:Bool)(d1 d2 d3 d4 d5:D)(b6:Bool)(l7:List D)(b8:Bool)(l9:List D)(b10:Bool)(l11:List D)(l12 l13:List V):EQ kJ (R6 b0 [aC [.d d1,.d d2,.d d3,.d d4,.d d5],.cells (fI b6 b8 b10 l7 l9 l11) [(0,1),(1,2),(2,12)],aC l12,aC l13]) (aV b0 (c2 (.call 40 [.p 1 0,vi 2] [aC l12,aC l13]) l12.length [] l13.length [] λ a c e=>dI a λ f=>aO (f.length==0) (.ret (.t [],[.cells (fI b6 b8 b10 l7 l9 l11) [(0,1),(1,2),(2,12)],aC c,aC e]))) (c2 (.call 74 [.p 1 0] [aC l12,aC l13]) l12.length [] l13.length [] λ g h j=>dI g λ k=>aO (k.length==0) (fJ d2 λ m=>aO (bA 1 l7) (aO (b6||true) (aO (decide (l7.length+1<=4294967296)) (aR (Gf [.cells (fI (b6&&false) b8 b10 (l7++[.s m]) l9 l11) [(0,1),(1,2),(2,12)],aC h,aC j]))))))):=aF
theorem Im(l0 l1:aE)(b2:Bool)(l3:List D)(b4:Bool)(l5:List D)(b6:Bool)(l7:List D)(l8 l9:List V):EQ kJ (KF [aC [vs l0,vs l1],.cells (fI b2 b4 b6 l3 l5 l7) [(0,1),(1,2),(2,12)],aC l8,aC l9]) (c2 (.call 76 [.p 1 0] [aC l8,aC l9]) l8.length [] l9.length [] λ a b c=>aS a λ e=>aO (bA 2 l5) (aO (b4||true) (aO (decide (l5.length+1<=4294967296)) (aR (Gf [.cells (fI b2 (b4&&false) b6 l3 (l5++[.g [.s l0,.s e]]) l7) [(0,1),(1,2),(2,12)],aC b,aC c]))))):=aF
theorem Il(w ib:Bool)(il:List D)(sb:Bool)(sl:List D)(db:Bool)(dl:List D)(p r:List V):EQ kJ (VH w [.cells (fI ib sb db il sl dl) [(0,1),(1,2),(2,12)],aC p,aC r]) (aV w (aV ((dl.length:Int)==30) (c2 (.call 39 [.p 1 0] [aC p,aC r]) p.length [] r.length [] λ a c e=>aB a λ f=>aR (VG f [.cells (fI ib sb db il sl dl) [(0,1),(1,2),(2,12)],aC c,aC e])) (aR (VG false [.cells (fI ib sb db il sl dl) [(0,1),(1,2),(2,12)],aC p,aC r]))) (aR (KH [.cells (fI ib sb db il sl dl) [(0,1),(1,2),(2,12)],aC p,aC r]))):=aF
theorem vJ(b0 b1:Bool)(l2:List D)(b3:Bool)(l4:List D)(b5:Bool)(l6:List D)(l7 l8:List V):EQ kJ (VG b0 [.cells (fI b1 b3 b5 l2 l4 l6) [(0,1),(1,2),(2,12)],aC l7,aC l8]) (aV b0 (c2 (.call 40 [.p 1 0,vi 4] [aC l7,aC l8]) l7.length [] l8.length [] λ o0 l3 l7=>dI o0 λ l9=>aO (l9.length==0) (aR (KH [.cells (fI b1 b3 b5 l2 l4 l6) [(0,1),(1,2),(2,12)],aC l3,aC l7]))) (c2 (.call 41 [.p 1 0] [aC l7,aC l8]) l7.length [] l8.length [] λ o10 l13 l17=>dI o10 λ l19=>aO (l19.length==2) (bG (cG l19 0) λ d20=>j5 12 d20 λ l21=>bG (cG l19 1) λ d22=>jz d22 λ b23=>aO ([.d (aH l21 0),.d (aH l21 1),.d (aH l21 2),.d (aH l21 3),.d (aH l21 4),.d (aH l21 5),.d (aH l21 6),.d (aH l21 7),.d (aH l21 8),.d (aH l21 9),.d (aH l21 10),.d (aH l21 11)].all V.one) (aV (!b23) (c2 (.call 40 [.p 1 0,vi 2] [aC l13,aC l17]) l13.length [] l17.length [] λ o24 l27 l31=>dI o24 λ l33=>aO (l33.length==0) (aR (Vy [aC [.d (aH l21 0),.d (aH l21 1),.d (aH l21 2),.d (aH l21 3),.d (aH l21 4),.d (aH l21 5),.d (aH l21 6),.d (aH l21 7),.d (aH l21 8),.d (aH l21 9),.d (aH l21 10),.d (aH l21 11)],.cells (fI b1 b3 b5 l2 l4 l6) [(0,1),(1,2),(2,12)],aC l27,aC l31]))) (aR (Vy [aC [.d (aH l21 0),.d (aH l21 1),.d (aH l21 2),.d (aH l21 3),.d (aH l21 4),.d (aH l21 5),.d (aH l21 6),.d (aH l21 7),.d (aH l21 8),.d (aH l21 9),.d (aH l21 10),.d (aH l21 11)],.cells (fI b1 b3 b5 l2 l4 l6) [(0,1),(1,2),(2,12)],aC l13,aC l17])))))):=aF
theorem Nv(b0:Bool)(l1:List D)(b2:Bool)(l3:List D)(b4:Bool)(l5:List D)(l6 l7:List V):EQ kJ (KH [.cells (fI b0 b2 b4 l1 l3 l5) [(0,1),(1,2),(2,12)],aC l6,aC l7]) (ob l6[2]? λ a=>aI a λ b=>aV (b != 0) (ob l6[2]? λ c=>aI c λ e=>ob l6[3]? λ f=>aI f λ h=>aO (decide (3=3/\3<=l7.length)&&true&&true) (.ret (.t [.d (.g [.l true [],.l true [],.l true []]),vi e,vi h],[]))) (aO (decide (3=3/\3<=l7.length)&&true&&true) (.ret (.t [.d (.g [.l b0 l1,.l b2 l3,.l b4 l5]),vi 0,vi 0],[])))):=aF
theorem FC(d0 d1 d2 d3 d4 d5 d6 d7 d8 d9 d10 d11:D)(b12:Bool)(l13:List D)(b14:Bool)(l15:List D)(b16:Bool)(l17:List D)(l18 l19:List V):EQ kJ (Vy [aC [.d d0,.d d1,.d d2,.d d3,.d d4,.d d5,.d d6,.d d7,.d d8,.d d9,.d d10,.d d11],.cells (fI b12 b14 b16 l13 l15 l17) [(0,1),(1,2),(2,12)],aC l18,aC l19]) (aO (bA 12 l17) (aO (b16||dV [.g [d0,d1,d2,d3,d4,d5,d6,d7,d8,d9,d10,d11]]) (aO (decide (l17.length+1<=4294967296)) (aR (N9 [.cells (fI b12 b14 (b16&&false) l13 l15 (l17++[.g [d0,d1,d2,d3,d4,d5,d6,d7,d8,d9,d10,d11]])) [(0,1),(1,2),(2,12)],aC l18,aC l19]))))):=aF
theorem Nw(b0:Bool)(l1:List D)(b2:Bool)(l3:List D)(b4:Bool)(l5:List D)(l6 l7:List V):EQ kJ (N9 [.cells (fI b0 b2 b4 l1 l3 l5) [(0,1),(1,2),(2,12)],aC l6,aC l7]) (ob l6[2]? λ a=>aI a λ c=>aV (c==0) (c2 (.call 38 [.p 1 0] [aC l6,aC l7]) l6.length [] l7.length [] λ e f g=>bG e λ h=>j5 5 h λ i=>cf .i64 (aH i 0) λ j=>aR (VH (j != 6) [.cells (fI b0 b2 b4 l1 l3 l5) [(0,1),(1,2),(2,12)],aC f,aC g])) (aR (VH false [.cells (fI b0 b2 b4 l1 l3 l5) [(0,1),(1,2),(2,12)],aC l6,aC l7]))):=aF
end Go.Dn.Dec
namespace Go.Proofs
open Go.IntKind (i64 u64 u8 u16 i32 u32)
open Go.Shelf Go.RowKit
set_option maxRecDepth 100000
theorem O1(w:World)(a b:Obj)(v:Value)(h:∀arr x y,b = .cells arr x y->arr[1]?=some v)(hb:∃arr x y,b = .cells arr x y):((w.alloc a).alloc b).drew.cell? ⟨w.heap.size+1,1,none⟩=some v:=by
 obtain⟨arr,x,y,rfl⟩:=hb;have:=h arr x y rfl;have e:((w.alloc a).alloc (.cells arr x y)).drew.heap[w.heap.size+1]?=some (.cells arr x y):=by show ((w.heap.push a).push (.cells arr x y))[w.heap.size+1]?=_;rw[Array.getElem?_push,aaR (by simp)]
 simp only[World.cell?,e];exact this
set_option maxHeartbeats 1000000 in
theorem Tryz.Print_empty(a1 a2 a3:Option Addr)(w:World):
  Calls prog 12 #[.agg #[.slice a1 0 0,.slice a2 0 0,.slice a3 0 0]] w λ e w'=>e = .returned (.string .empty)/\Below w.heap.size w w':=by
 go_enter Tryz.func12,Tryz.ntmps12
 go_wp2
 refine wp_loop_once ?_
 go_wp2
 refine wp_loop_once ?_
 go_wp2
 refine wp_loop_once ?_
 go_wp2
 have c1:(((w.alloc (Obj.cells #[Value.slice a1 0 0,Value.slice a2 0 0,Value.slice a3 0 0] 33)).alloc (Obj.cells #[Value.pointer none,Value.slice none 0 0] 73)).drew).cell? ⟨w.heap.size+1,1,none⟩=some (.slice none 0 0):=
  O1 w _ _ _ (λ arr x y e=>by injection e with e;subst e;rfl) ⟨_,_,_,rfl⟩
 have hSD:(Builtin.unsafeSliceData_ #[22] 123 #[.slice none 0 0]).run prog ((w.alloc (Obj.cells #[Value.slice a1 0 0,Value.slice a2 0 0,Value.slice a3 0 0] 33)).alloc (Obj.cells #[Value.pointer none,Value.slice none 0 0] 73)).drew = .ok (.pointer none) ((w.alloc (Obj.cells #[Value.slice a1 0 0,Value.slice a2 0 0,Value.slice a3 0 0] 33)).alloc (Obj.cells #[Value.pointer none,Value.slice none 0 0] 73)).drew:=rfl;have hUS:(Builtin.unsafeString_ #[123,3] 9 #[.pointer none,.int .i64 0]).run prog ((w.alloc (Obj.cells #[Value.slice a1 0 0,Value.slice a2 0 0,Value.slice a3 0 0] 33)).alloc (Obj.cells #[Value.pointer none,Value.slice none 0 0] 73)).drew = .ok (.string .empty) ((w.alloc (Obj.cells #[Value.slice a1 0 0,Value.slice a2 0 0,Value.slice a3 0 0] 33)).alloc (Obj.cells #[Value.pointer none,Value.slice none 0 0] 73)).drew:=by rfl
 go_region
 all_goals (go_wp2;go_ret;exact⟨rfl,((Below.refl _ _).alloc (aa4 _) _).alloc (by show w.heap.size<=(w.heap.push _).size;rw[Array.size_push];omega) _ |>.drew⟩)
end Go.Proofs
namespace Go.Dn.Dec
open Go.IntKind (i64 u64 u8 u16 i32 u32)
open Go.Proofs
open Tryz (prog)
set_option maxRecDepth 100000
theorem Fk(S:List Ob):cx prog 12 [.d (.g [.l true [],.l true [],.l true []])] S (.d (.s []),S):=by
 refine EK (v := .string .empty) Tryz.func12 (by kernel_rfl) (λ G=>by simp only[RV,RD];rfl) λ w G vs hI hr=>?_;obtain⟨v,rfl,h1⟩:=y8 hr;simp only[RV,RD,eg]at h1;obtain⟨us,rfl,v1,r1,e1,⟨A1,n1,c1,_,rfl,hn1,_,hf1,_⟩,v2,r2,rfl,⟨A2,n2,c2,_,rfl,hn2,_,hf2,_⟩,v3,r3,rfl,⟨A3,n3,c3,_,rfl,hn3,_,hf3,_⟩,rfl⟩:=h1;have e2:us=#[.slice A1 n1 c1,.slice A2 n2 c2,.slice A3 n3 c3]:=Array.ext' e1;have:=hf1 trivial;have:=hf2 trivial;have:=hf3 trivial;simp only[abp]at hn1 hn2 hn3;subst hn1;subst hn2;subst hn3;subst e2;obtain rfl:c1=0:=by omega
 obtain rfl:c2=0:=by omega
 obtain rfl:c3=0:=by omega
 exact Tryz.Print_empty A1 A2 A3 w
end Go.Dn.Dec
namespace Go.Dn.Dec.Pa
open Go.IntKind (i64 u64 u8 u16 i32 u32)
open Go.Proofs
open Tryz (prog)
set_option maxRecDepth 100000
noncomputable abbrev RQ:=rk prog kJ
theorem Xi:oV prog kJ:=by
 intro k g hg args S o ho;simp only[kJ,MB]at hg;split at hg
 ·cases hg
 ·split at hg
  ·injection hg with hg;subst hg;exact V5 k args S o ho
  ·split at hg
   ·injection hg with hg;subst hg;exact oE Y4 ho
   ·split at hg
    ·rename_i h12;injection hg with hg;subst hg
     unfold CT at ho;subst h12;split at ho
     ·injection ho with ho;subst ho;exact Fk S
     ·exact oE PT ho
    ·injection hg with hg;subst hg;exact oE PT ho
theorem lp{k:Nat}{g:List V->List Ob->Option Out}(h:kJ.ext k=some g)(args:List V)(S:List Ob):RQ (.call k args S)=g args S:=by
 rw[RQ,Bp];unfold oN;simp only[h];rw[cQ]
 cases g args S with
 |none=>rfl
 |some o=>rfl
theorem D5{k:Nat}(h1:¬(k=4\/k=5\/k=16\/k=37))(h2:¬k=20)(h3:AS k=true):kJ.ext k=some (lV prog ch k):=by simp only[kJ,MB,aaN h1,aaN h2,h3,if_true]
theorem Jw{k:Nat}(h1:¬(k=4\/k=5\/k=16\/k=37))(h2:¬k=20)(h3:AS k=false)(h4:¬k=12):kJ.ext k=some (lV prog bT k):=by simp only[kJ,MB,aaN h1,aaN h2,h3,aaN h4];rfl
theorem Dh{aK:Pol}{k:Nat}{args:List V}{o:Out}(h:run prog aK (.call k args [])=some o):lV prog aK k args []=some o:=by
 unfold lV;split
 ·rename_i heq;cases heq
 ·exact h
theorem Zm{k:Nat}{args:List V}{o:Out}(h:RY (.call k args [])=some o)(h1:¬(k=4\/k=5\/k=16\/k=37))(h2:¬k=20)(h3:AS k=false)(h4:¬k=12):RQ (.call k args [])=some o:=by rw[lp (Jw h1 h2 h3 h4)];exact Dh (iL h)
theorem QN{k:Nat}{args:List V}{o:Out}(h:RU (.call k args [])=some o)(h1:¬(k=4\/k=5\/k=16\/k=37))(h2:¬k=20)(h3:AS k=true):RQ (.call k args [])=some o:=by rw[lp (D5 h1 h2 h3)];exact Dh (iL h)
theorem aaH(s:aE):RQ (.call 20 [vs s] [])=some (pJ (lexB s)):=by
 have e:kJ.ext 20=some (λ args S=>run prog aK (.call 20 args S)):=by simp only[kJ,MB];rfl
 rw[lp e];exact iL (DT s)
abbrev qO(b:Bool)(W:List Tok)(s:PS)(r:List V):List Ob:=[aC (pC b W s),aC r]
theorem ti{k:Nat}{b:Bool}{W:List Tok}{ar:List V}{v:V}{s s':PS}(h:RU (.call k (.p 0 0::ar) (pO b W s))=some (v,pO b W s'))(r:List V)(ha:bI 0 ar=true:=by rfl)(hv:cj 0 v=true:=by rfl)(h1:¬(k=4\/k=5\/k=16\/k=37):=by decide)(h2:¬k=20:=by decide)(h3:AS k=true:=by decide):
  RQ (.call k (.p 1 0::ar) (qO b W s r))=some (v,qO b W s' r):=by
 rw[lp (D5 h1 h2 h3)];exact Tb (iL h) ha rfl rfl hv
section
variable {f : Task → Option Out}
theorem ID{t:Task}{cs ds:List V}{m n:Nat}{K:List V->List V->Tr}(h:f t=some (.t [],[aC cs,aC ds]))(hm:cs.length=m:=by rfl)(hn:ds.length=n:=by rfl):
  aD f (c2 t m [] n [] λ o c d=>dI o λ v=>aO (v.length==0) (K c d))=aD f (K cs ds):=by
 rw[cr h];show aD f (aO (cs.length==m) (aO true (aO (ds.length==n) (aO true (aO true (K cs ds))))))=_;rw[hm,abq,aQ,aQ,hn,abq,aQ,aQ,aQ]
theorem C7{t:Task}{b:Bool}{cs ds:List V}{m n:Nat}{K:List V->List V->Bool->Tr}(h:f t=some (vb b,[aC cs,aC ds]))(hm:cs.length=m:=by rfl)(hn:ds.length=n:=by rfl):
  aD f (c2 t m [] n [] λ o c d=>aB o λ v=>K c d v)=aD f (K cs ds b):=by
 rw[cr h];show aD f (aO (cs.length==m) (aO true (aO (ds.length==n) (aO true (K cs ds b)))))=_;rw[hm,abq,aQ,aQ,hn,abq,aQ,aQ]
theorem Zx{t:Task}{b:aE}{cs ds:List V}{m n:Nat}{K:List V->List V->aE->Tr}(h:f t=some (vs b,[aC cs,aC ds]))(hm:cs.length=m:=by rfl)(hn:ds.length=n:=by rfl):
  aD f (c2 t m [] n [] λ o c d=>aS o λ v=>K c d v)=aD f (K cs ds b):=by
 rw[cr h];show aD f (aO (cs.length==m) (aO true (aO (ds.length==n) (aO true (K cs ds b)))))=_;rw[hm,abq,aQ,aQ,hn,abq,aQ,aQ]
theorem Zv{t:Task}{gs:List D}{k:Nat}{cs ds:List V}{m n:Nat}{K:List V->List V->List D->Tr}(h:f t=some (.d (.g gs),[aC cs,aC ds]))(hk:gs.length=k:=by rfl)(hm:cs.length=m:=by rfl)(hn:ds.length=n:=by rfl):
  aD f (c2 t m [] n [] λ o c d=>bG o λ v=>j5 k v λ y=>K c d y)=aD f (K cs ds gs):=by
 rw[cr h];show aD f (aO (cs.length==m) (aO true (aO (ds.length==n) (aO true (j5 k (.g gs) λ y=>K cs ds y)))))=_;rw[hm,abq,aQ,aQ,hn,abq,aQ,aQ,lH,aaR hk]
theorem Zw{t:Task}{gs:List D}{k:Nat}{x:Bool}{e e':V}{cs ds:List V}{m n:Nat}{K:List V->List V->List D->Bool->Tr}(h:f t=some (.t [.d (.g gs),vb x],[aC cs,aC ds]))(hk:gs.length=k:=by rfl)(hm:cs.length=m:=by rfl)(hn:ds.length=n:=by rfl):
  aD f (c2 t m [] n [] λ o c d=>dI o λ l=>aO (l.length==2) (bG (l.getD 0 e) λ v=>j5 k v λ y=>bG (l.getD 1 e') λ w=>jz w λ z=>K c d y z))=aD f (K cs ds gs x):=by
 rw[cr h];show aD f (aO (cs.length==m) (aO true (aO (ds.length==n) (aO true (aO true (j5 k (.g gs) λ y=>K cs ds y x))))))=_;rw[hm,abq,aQ,aQ,hn,abq,aQ,aQ,aQ,lH,aaR hk]
end
abbrev qI:aE:=[105,110,99,108,117,100,101]
abbrev HX:aE:=[110,97,109,101,115,112,97,99,101]
section
variable (W : List Tok)
def eA(s:PS):aE×PS:=if gh W [42] s then([42],aZ s)else bR W fY s
def eS:Nat->List D->List D->PS->(List D×List D)×PS
 |0,il,sl,s=>((il,sl),s)
 |f+1,il,sl,s=>
  if bP W qI s then
   if il.length=5 then((il,sl),dx W 4 s)
   else if (bm W (aZ s)).kind=4/\bu (bm W (aZ s)).text=true then eS f (il++[.s (bm W (aZ s)).text]) sl (aZ (aZ s))
   else((il,sl),dx W 2 (aZ s))
  else if bP W HX s then
   if sl.length=5 then((il,sl),dx W 4 s)
   else eS f il (sl++[C6 (eA W (aZ s)).1 (bR W fY (eA W (aZ s)).2).1]) (bR W fY (eA W (aZ s)).2).2
  else((il,sl),s)
def vW(s:PS):PS:=if (im W s).2.1=true then(im W s).2.2 else dx W 2 (im W s).2.2
def eG:Nat->List D->PS->List D×PS
 |0,L,s=>(L,s)
 |f+1,L,s=>
  if s.e=0/\(bm W s).kind≠6 then
   if L.length=30/\sA W s=true then(L,dx W 4 s)else eG f (L++[(im W s).1]) (vW W s)
  else(L,s)
abbrev s0:PS:=⟨0,0,0⟩
def fg:(List D×List D)×PS:=eS W (W.length+2) [] [] s0
def mL:List D×PS:=eG W (W.length+2) [] (fg W).2
def ov:D×Int×Int:=
 if (mL W).2.e≠0 then(AG true [] true [] true [],(mL W).2.e,(mL W).2.a)
 else(AG (fg W).1.1.isEmpty (fg W).1.1 (fg W).1.2.isEmpty (fg W).1.2 (mL W).1.isEmpty (mL W).1,0,0)
end
section
variable {b : Bool} {W : List Tok} (hW : Wds W)
include hW in
theorem C3{s:PS}(hs:s.i<W.length):Ad W s (eA W s).2:=by
 unfold eA;split
 ·rename_i h;exact bU hW hs (cF h (by decide))
 ·exact cz hW fY hs
include hW in
theorem sI:∀(f:Nat) (il sl:List D) {s:PS},s.i<W.length->Mv W s (eS W f il sl s).2
 |0,il,sl,s,hs=>Mv.refl hs
 |f+1,il,sl,s,hs=>by
  unfold eS;split
  ·rename_i h;have a:=bU hW hs (cF h (by decide));split
   ·exact jG 4 (by decide) hs
   ·split
    ·rename_i h2;have a2:=a.mv (bU hW a.lt (by rw[h2.1];decide)).toMv;exact a2.toMv.trans (sI f _ _ a2.lt)
    ·exact a.toMv.trans (jG 2 (by decide) a.lt)
  ·split
   ·rename_i h;have a:=bU hW hs (cF h (by decide));split
    ·exact jG 4 (by decide) hs
    ·have a2:=a.mv (C3 hW a.lt).toMv;have a3:=a2.mv (cz hW fY a2.lt).toMv;exact a3.toMv.trans (sI f _ _ a3.lt)
   ·exact Mv.refl hs
include hW in
theorem B8{s:PS}(hs:s.i<W.length):Ad W s (vW W s):=by
 unfold vW;have h:=Ph hW hs;split
 ·rename_i h2;exact h.2 h2
 ·exact h.1.ad (mj 2 (by decide) h.1.lt)
include hW in
theorem B9:∀(f:Nat) (L:List D) {s:PS},s.i<W.length->Mv W s (eG W f L s).2
 |0,L,s,hs=>Mv.refl hs
 |f+1,L,s,hs=>by
  unfold eG;split
  ·split
   ·exact jG 4 (by decide) hs
   ·have a:=B8 hW hs;exact a.toMv.trans (B9 f _ a.lt)
  ·exact Mv.refl hs
abbrev Y3:Fl:=[(0,1),(1,2),(2,12)]
abbrev fO(il sl dl:List D):Ob := .cells (fI il.isEmpty sl.isEmpty dl.isEmpty il sl dl) Y3
theorem Xp{l:List D}(h:∀y∈l,y.width=1):bA 1 l=true:=by
 cases l with
 |nil=>rfl
 |cons y l=>exact beq_iff_eq.2 (h y (by simp))
theorem Xr{l:List D}(h:∀y∈l,y.width=2):bA 2 l=true:=by
 cases l with
 |nil=>rfl
 |cons y l=>exact beq_iff_eq.2 (h y (by simp))
theorem IC{l:List D}{x:D}{w:Nat}(h:∀y∈l,y.width=w)(hx:x.width=w):∀y∈l++[x],y.width=w:=λ y hy=>by
 rcases List.mem_append.1 hy with h1|h1
 ·exact h y h1
 ·rw[abK.1 h1];exact hx
include hW in
theorem ur(r:List V)(dl:List D):∀(f:Nat) (il sl:List D) {s:PS},s.i<W.length->1<=f->(s.e=0->W.length<s.i+f)->il.length<=5->sl.length<=5->(∀y∈il,y.width=1)->(∀y∈sl,y.width=2)->
  RQ (Gf (fO il sl dl::qO b W s r))=some (.t [],fO (eS W f il sl s).1.1 (eS W f il sl s).1.2 dl::qO b W (eS W f il sl s).2 r)
 |0,il,sl,s,hs,hf,_,_,_,_,_=>by omega
 |f+1,il,sl,s,hs,hf,hm,hl1,hl2,hw1,hw2=>by
  have hlen:=hW.len;have wd:∀(g:aE) {s:PS},s.i<W.length->RQ (.call 71 [.p 1 0,vs g] (qO b W s r))=some (vb (decide (bP W g s)),qO b W s r):=λ g s hs=>ti (Di hs g) r;have fail:∀(c:Int) {s:PS},s.i<W.length->RQ (.call 40 [.p 1 0,vi c] (qO b W s r))=some (.t [],qO b W (dx W c s) r):=λ c s hs=>ti (jH hs c) r;have both:∀{s:PS},bP W qI s->bP W HX s->False:=λ h1 h2=>by have:=h1.2.2.symm.trans h2.2.2;revert this;decide
  have go:∀w:Bool,w=decide (bP W qI s\/bP W HX s)->RQ (SS w (fO il sl dl::qO b W s r))=some (.t [],fO (eS W (f+1) il sl s).1.1 (eS W (f+1) il sl s).1.2 dl::qO b W (eS W (f+1) il sl s).2 r):=by
   intro w hw;rw[RQ];refine(QM ..).trans ?_;rw[hw];by_cases h:bP W qI s\/bP W HX s
   ·rw[bC h];refine(C7 (wd qI hs)).trans ?_;by_cases hi:bP W qI s
    ·rw[bC hi];have a:=bU hW hs (cF hi (by decide));by_cases h5:il.length=5
     ·rw[bM];refine di.trans ?_;rw[eS,aaR hi,aaR h5,RQ];refine(uK ..).trans ?_;refine bQ.trans ?_;refine(ID (fail 4 hs)).trans ?_;rfl
     ·rw[bp];refine(C7 (wd HX hs)).trans ?_;rw[bB (λ h=>both hi h)];refine di.trans ?_;rw[eS,aaR hi,aaN h5,RQ];refine(uK ..).trans ?_;refine bH.trans ?_;refine(C7 (ti (Dc hW hs hi) r)).trans ?_;refine bQ.trans ?_;refine(Zv (ti (jv a.lt) r)).trans ?_;refine aQ.trans ?_;refine cT.trans ?_;have bad:¬((bm W (aZ s)).kind=4/\bu (bm W (aZ s)).text=true)->RQ (R6 true (aC ((bm W (aZ s)).D.cells.map V.d)::fO il sl dl::qO b W (aZ s) r))=
        some (.t [],fO (if (bm W (aZ s)).kind=4/\bu (bm W (aZ s)).text=true then eS W f (il++[.s (bm W (aZ s)).text]) sl (aZ (aZ s)) else((il,sl),dx W 2 (aZ s))).1.1 (if (bm W (aZ s)).kind=4/\bu (bm W (aZ s)).text=true then eS W f (il++[.s (bm W (aZ s)).text]) sl (aZ (aZ s)) else((il,sl),dx W 2 (aZ s))).1.2 dl::qO b W (if (bm W (aZ s)).kind=4/\bu (bm W (aZ s)).text=true then eS W f (il++[.s (bm W (aZ s)).text]) sl (aZ (aZ s)) else((il,sl),dx W 2 (aZ s))).2 r):=by
       intro h;rw[aaN h,RQ];refine(yi ..).trans ?_;refine bQ.trans ?_;refine(ID (fail 2 a.lt)).trans ?_;rfl
      by_cases hk:(bm W (aZ s)).kind=4
      ·rw[eN (by omega)]
       refine(gJ (QN (ta _ (abI (jM hW a.lt) (by decide))) (by decide) (by decide) (by decide))).trans ?_;refine di.trans ?_
       cases hp:bu (bm W (aZ s)).text with
       |true=>
        have a2:=a.mv (bU hW a.lt (by rw[hk];decide)).toMv;rw[aaR ⟨hk,rfl⟩,RQ];refine(yi ..).trans ?_;refine bH.trans ?_;refine(ID (ti (ir hW a.lt) r)).trans ?_;refine(qN (Xp hw1)).trans ?_;refine(qN (show (il.isEmpty||true)=true by simp)).trans ?_;refine(aN (by omega)).trans ?_;rw[show (il.isEmpty&&false)=(il++[D.s (bm W (aZ s)).text]).isEmpty by rw[Un,Bool.and_false]];refine di.trans ?_;have h0:=hm hi.1;exact ur r dl f _ sl a2.lt (by omega) (λ e=>by have:=a2.ad e;omega) (by simp;omega) hl2 (IC hw1 rfl) hw2
       |false=>
        have:=bad (λ x=>by rw[hp]at x;cases x.2);rw[hp]at this;exact this
      ·rw[fj (by omega)]
       exact di.trans (bad λ x=>hk x.1)
    ·have hn:=h.resolve_left hi;rw[bB hi];refine(C7 (wd HX hs)).trans ?_;rw[bC hn];refine di.trans ?_;have a:=bU hW hs (cF hn (by decide));rw[eS,aaN hi,aaR hn,RQ];refine(uK ..).trans ?_;by_cases h5:sl.length=5
     ·rw[aaR h5,bM];refine(ID (fail 4 hs)).trans ?_;rfl
     ·rw[aaN h5,bp];refine(C7 (ti (Db hW hs hi) r)).trans ?_;refine bH.trans ?_;refine(ID (ti (ir hW hs) r)).trans ?_;have a2:=a.mv (C3 hW a.lt).toMv;have a3:=a2.mv (cz hW fY a2.lt).toMv;have last:RQ (KF (aC [vs (eA W (aZ s)).1,vs []]::fO il sl dl::qO b W (eA W (aZ s)).2 r))=
        some (.t [],fO (eS W f il (sl++[C6 (eA W (aZ s)).1 (bR W fY (eA W (aZ s)).2).1]) (bR W fY (eA W (aZ s)).2).2).1.1 (eS W f il (sl++[C6 (eA W (aZ s)).1 (bR W fY (eA W (aZ s)).2).1]) (bR W fY (eA W (aZ s)).2).2).1.2 dl::qO b W (eS W f il (sl++[C6 (eA W (aZ s)).1 (bR W fY (eA W (aZ s)).2).1]) (bR W fY (eA W (aZ s)).2).2).2 r):=by
       rw[RQ];refine(Im ..).trans ?_;refine(Zx (ti (sH hW a2.lt) r)).trans ?_;refine(qN (Xr hw2)).trans ?_;refine(qN (show (sl.isEmpty||true)=true by simp)).trans ?_;refine(aN (by omega)).trans ?_;rw[show (sl.isEmpty&&false)=(sl++[C6 (eA W (aZ s)).1 (bR W fY (eA W (aZ s)).2).1]).isEmpty by rw[Un,Bool.and_false]];refine di.trans ?_;have h0:=hm hn.1;exact ur r dl f il _ a3.lt (by omega) (λ e=>by have:=a3.ad e;omega) hl1 (by simp;omega) hw1 (IC hw2 rfl)
      refine(C7 (ti (yF hW a.lt [42]) r)).trans ?_;by_cases hst:gh W [42] (aZ s)
      ·rw[show eA W (aZ s)=([42],aZ (aZ s)) by rw[eA,aaR hst]]at last⊢
       rw[aa3 hst,mr,Km hst];exact di.trans last
      ·rw[show eA W (aZ s)=bR W fY (aZ s) by rw[eA,aaN hst]]at last⊢
       rw[abf hst,kX,Kl hst];refine(Zx (ti (sH hW a.lt) r)).trans ?_;exact di.trans last
   ·rw[bB h,eS,aaN (λ x=>h (.inl x)),aaN (λ x=>h (.inr x))];rfl
  rw[RQ];refine(UN ..).trans ?_;refine(sY (j:=2) (n:=s.e) rfl).trans ?_;by_cases he:s.e=0
  ·rw[bM he];refine(C7 (wd qI hs)).trans ?_;by_cases hi:bP W qI s
   ·rw[bC hi];exact di.trans (go true (aa3 (.inl hi)).symm)
   ·rw[bB hi];refine(C7 (wd HX hs)).trans ?_;exact di.trans (go _ (by simp[hi]))
  ·rw[bp he];exact di.trans (go false (abf (λ x=>x.elim (λ h=>he h.1) λ h=>he h.1)).symm)
end
end Go.Dn.Dec.Pa
