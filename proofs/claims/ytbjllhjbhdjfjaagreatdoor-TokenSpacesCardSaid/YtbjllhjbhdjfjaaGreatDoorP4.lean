/- The evaluator again, in the form in which it is read: what is behind an operation stands inside, values bear their kinds; it answers less often, and never otherwise. -/
import Derived.Test.YtbjllhjbhdjfjaaGreatDoorP1
import Derived.Test.YtbjllhjbhdjfjaaGreatDoorP3
set_option linter.unusedVariables false
set_option linter.unusedSimpArgs false
set_option linter.unusedSectionVars false
namespace Go.Dn
set_option linter.unusedVariables false
def Tr.le(a b:Tr):Prop:=∀(f:Task->Option Out) (o:Out),aC f a=some o->aC f b=some o
theorem Tr.le_refl(a:Tr):a.le a:=fun _ _ h=>h
theorem Tr.le_trans{a b c:Tr}(h:a.le b)(k:b.le c):a.le c:=fun f o e=>k f o (h f o e)
theorem aX(a:Tr):Tr.fail.le a:=fun f o h=>by simp[aC]at h
theorem c8{α:Type}{x:Option α}{K K':α->Tr}(h:∀a,x=some a->(K a).le (K' a)):(ob x K).le (ob x K'):=by
 cases x with
 |none=>exact Tr.le_refl _
 |some a=>exact h a rfl
theorem bm{c:Bool}{x y:Tr}(h:c=true->x.le y):(aM c x).le y:=by
 cases c with
 |false=>exact aX _
 |true=>exact h rfl
theorem q9{t:Task}{K K':Out->Tr}(h:∀o,(K o).le (K' o)):(Tr.call t K).le (.call t K'):=by
 intro f o e
 simp only[aC]at e⊢
 cases hf:f t with
 |none=>rw[hf]at e;cases e
 |some r=>rw[hf]at e;exact h r f o e
theorem Hp{a:Tr}{K K':Out->Tr}(h:∀o,(K o).le (K' o)):(a.bind K).le (a.bind K'):=by
 intro f o e
 rw[lA]at e⊢
 cases hf:aC f a with
 |none=>rw[hf]at e;cases e
 |some r=>rw[hf]at e;exact h r f o e
def bh{α:Type}(x:List α)(n:Int):Option α:=if 0<=n then x[n.toNat]? else none
def aT(c:Bool)(x y:Tr):Tr:=
 match c with
 |true=>x
 |false=>y
def bD(k:IntKind)(d:D)(K:Int->Tr):Tr:=
 match d with
 | .i j n=>aM (j==k) (K n)
 |_ => .fail
def dQ(d:D)(K:Bool->Tr):Tr:=
 match d with
 | .b x=>K x
 |_ => .fail
def fF(d:D)(K:List UInt8->Tr):Tr:=
 match d with
 | .s x=>K x
 |_ => .fail
def dZ(d:D)(K:Bool->List D->Tr):Tr:=
 match d with
 | .l f xs=>K f xs
 |_ => .fail
def E6{α:Type}[Inhabited α](n:Nat)(cs:List α):List α:=(List.range n).map fun i=>cs.getD i default
theorem wA{α:Type}[Inhabited α]{n:Nat}{cs:List α}(h:cs.length=n):E6 n cs=cs:=by
 subst h
 apply List.ext_getElem?
 intro i
 unfold E6
 by_cases hi:i<cs.length
 ·simp[hi]
 ·rw[List.getElem?_eq_none (by simp;omega),List.getElem?_eq_none (by omega)]
def xj(n:Nat)(d:D)(K:List D->Tr):Tr:=
 match d with
 | .g cs=>aM (cs.length==n) (K cs)
 |_ => .fail
def aW(v:V)(K:D->Tr):Tr:=
 match v with
 | .d x=>K x
 |_ => .fail
def gE(l:List Ob)(K:Ob->List Ob->Tr):Tr:=
 match l with
 |b::bs=>K b bs
 | [] => .fail
def jZ(l:List Ob)(K:Tr):Tr:=
 match l with
 | []=>K
 |_ => .fail
def fk(b:Ob)(K:List V->Fl->Tr):Tr:=
 match b with
 | .cells cs fl=>K cs fl
 |_ => .fail
def Gv(b:Ob)(K:List (D×D)->Tr):Tr:=
 match b with
 | .map es=>K es
 |_ => .fail
def Bq(b:Ob)(K:List UInt8->Nat->Tr):Tr:=
 match b with
 | .iter s n=>K s n
 |_ => .fail
def LM(a b:Ob)(K:Ob->Tr):Tr:=
 match a with
 | .cells cs fl=>fk b fun cs' fl'=>aM (cs'.length==cs.length) (aM (fl'==fl) (K (.cells cs' fl)))
 | .map _=>Gv b fun es=>K (.map es)
 | .iter _ _=>Bq b fun s n=>K (.iter s n)
 | .dead => .fail
def AP:List Ob->List Ob->(List Ob->Tr)->Tr
 | [],l,K=>jZ l (K [])
 |a::as,l,K=>gE l fun b bs=>LM a b fun b'=>AP as bs fun bs'=>K (b'::bs')
theorem JA{a b:Ob}{K:Ob->Tr}{X:Tr}(h:(K b).le X):(LM a b K).le X:=by
 unfold LM
 split
 ·cases b<;>simp only[fk]<;>first|exact aX _|skip
  refine bm fun _=>bm fun e=>?_
  simp only[beq_iff_eq]at e
  subst e;exact h
 ·cases b<;>simp only[Gv]<;>first|exact aX _|exact h
 ·cases b<;>simp only[Bq]<;>first|exact aX _|exact h
 ·exact aX _
theorem B1:∀{A B:List Ob} {K:List Ob->Tr} {X:Tr},(B.length=A.length->(K B).le X)->(AP A B K).le X
 | [],B,K,X,h=>by
  cases B with
  |nil=>simp only[AP,jZ];exact h rfl
  |cons b bs=>simp only[AP,jZ];exact aX _
 |a::A,B,K,X,h=>by
  cases B with
  |nil=>simp only[AP,gE];exact aX _
  |cons b bs=>
   simp only[AP,gE]
   exact JA (B1 fun e=>h (by simp[e]))
def J3(o:Out)(K:List V->Nat->Tr):Tr:=
 match o with
 |(.m 0 0 len,[.cells cs []])=>aM (bg 0 cs) (K cs len)
 |_ => .fail
section
variable (P : Program) (aE : Pol)
def Gp(t:TypeId)(d:D)(K:D->Tr):Tr:=
 match P.underlying t with
 |some (.int k)=>bD k d fun n=>K (.i k n)
 |some .bool=>dQ d fun b=>K (.b b)
 |some .string=>fF d fun s=>K (.s s)
 |some (.slice _)=>dZ d fun f xs=>K (.l f xs)
 |some (.struct _)=>ob (bH P t) fun n=>xj n d fun cs=>K (.g (E6 n cs))
 |_=>K d
def K9(t:TypeId)(v:V)(K:V->Tr):Tr:=
 match P.underlying t with
 |some (.int _)=>aW v fun d=>Gp P t d fun d=>K (.d d)
 |some .bool=>aW v fun d=>Gp P t d fun d=>K (.d d)
 |some .string=>aW v fun d=>Gp P t d fun d=>K (.d d)
 |some (.struct _)=>aW v fun d=>Gp P t d fun d=>K (.d d)
 |_=>K v
def K8(t:TypeId)(v:V)(K:V->Tr):Tr:=
 match P.underlying t with
 |some (.slice _)=>aW v fun d=>Gp P t d fun d=>K (.d d)
 |_=>K9 P t v K
def D2:List TypeId->List V->(List V->Tr)->Tr
 | [],[],K=>K []
 |t::ts,v::vs,K=>K8 P t v fun v=>D2 ts vs fun vs=>K (v::vs)
 |_,_,_ => .fail
def dY(v:V)(K:List V->Tr):Tr:=
 match v with
 | .t vs=>K vs
 |_ => .fail
def Cq(ts:List TypeId)(v:V)(K:V->Tr):Tr:=
 match ts with
 | [t]=>K8 P t v K
 |ts=>dY v fun vs=>aM (vs.length==ts.length) (D2 P ts (E6 ts.length vs) fun vs=>K (.t vs))
theorem IN{k:IntKind}{d:D}{K:Int->Tr}{X:Tr}(h:∀n,d = .i k n->(K n).le X):(bD k d K).le X:=by
 cases d<;>simp only[bD]<;>first|exact aX _|skip
 refine bm fun e=>h _ ?_
 simp only[beq_iff_eq]at e;rw[e]
theorem IL{d:D}{K:Bool->Tr}{X:Tr}(h:∀n,d = .b n->(K n).le X):(dQ d K).le X:=by
 cases d<;>simp only[dQ]<;>first|exact aX _|exact h _ rfl
theorem Ej{d:D}{K:List UInt8->Tr}{X:Tr}(h:∀n,d = .s n->(K n).le X):(fF d K).le X:=by
 cases d<;>simp only[fF]<;>first|exact aX _|exact h _ rfl
theorem IP{d:D}{K:Bool->List D->Tr}{X:Tr}(h:∀f n,d = .l f n->(K f n).le X):(dZ d K).le X:=by
 cases d<;>simp only[dZ]<;>first|exact aX _|exact h _ _ rfl
theorem IM{n:Nat}{d:D}{K:List D->Tr}{X:Tr}(h:∀cs,d = .g cs->cs.length=n->(K cs).le X):(xj n d K).le X:=by
 cases d<;>simp only[xj]<;>first|exact aX _|skip
 refine bm fun e=>?_
 simp only[beq_iff_eq]at e
 exact h _ rfl e
theorem pj{v:V}{K:D->Tr}{X:Tr}(h:∀d,v = .d d->(K d).le X):(aW v K).le X:=by
 cases v<;>simp only[aW]<;>first|exact aX _|exact h _ rfl
theorem bR{α:Type}{x:Option α}{K:α->Tr}{X:Tr}(h:∀a,x=some a->(K a).le X):(ob x K).le X:=by
 cases x with
 |none=>exact aX _
 |some a=>exact h a rfl
theorem kL{t:TypeId}{d:D}{K:D->Tr}:(Gp P t d K).le (K d):=by
 unfold Gp
 split
 ·exact IN fun n e=>by rw[e];exact Tr.le_refl _
 ·exact IL fun n e=>by rw[e];exact Tr.le_refl _
 ·exact Ej fun n e=>by rw[e];exact Tr.le_refl _
 ·exact IP fun f n e=>by rw[e];exact Tr.le_refl _
 ·exact bR fun n _=>IM fun cs e hl=>by rw[e,wA hl];exact Tr.le_refl _
 ·exact Tr.le_refl _
theorem Gr{t:TypeId}{v:V}{K:V->Tr}:(K9 P t v K).le (K v):=by
 unfold K9
 split
 ·exact pj fun d e=>by rw[e];exact kL P
 ·exact pj fun d e=>by rw[e];exact kL P
 ·exact pj fun d e=>by rw[e];exact kL P
 ·exact pj fun d e=>by rw[e];exact kL P
 ·exact Tr.le_refl _
theorem Gq{t:TypeId}{v:V}{K:V->Tr}:(K8 P t v K).le (K v):=by
 unfold K8
 split
 ·exact pj fun d e=>by rw[e];exact kL P
 ·exact Gr P
theorem Cr:∀{ts:List TypeId} {vs:List V} {K:List V->Tr},(D2 P ts vs K).le (K vs)
 | [],[],K=>Tr.le_refl _
 |t::ts,v::vs,K=>by
  simp only[D2]
  exact Tr.le_trans (Gq P) Cr
 | [],_::_,K=>by simp only[D2];exact aX _
 |_::_,[],K=>by simp only[D2];exact aX _
theorem zM{ts:List TypeId}{v:V}{K:V->Tr}:(Cq P ts v K).le (K v):=by
 unfold Cq
 split
 ·exact Gq P
 ·cases v<;>simp only[dY]<;>first|exact aX _|skip
  refine bm fun e=>?_
  simp only[beq_iff_eq]at e
  rw[wA e];exact Cr P
def Ax(a i:V)(K:V->Tr):Tr:=
 match a,i with
 | .d (.s x),.d (.i _ n)=>ob (bh x n) fun c=>K (.d (.i .u8 c.toNat))
 |_,_ => .fail
theorem C3{a i:V}{K:V->Tr}:(Ax a i K).le (ob (mf a i) K):=by
 unfold Ax
 split
 ·unfold bh
  refine bR fun c hc=>?_
  split at hc
  ·rename_i h0
   simp only[mf,if_pos h0,hc,Option.map_some,ob];exact Tr.le_refl _
  ·cases hc
 ·exact aX _
def nk(sz:Nat)(a i:V)(K:V->Tr):Tr:=
 match a,i with
 | .d (.l _ xs),.d (.i _ n)=>ob (bh xs n) fun x=>aM (x.width==sz) (K (.e xs n.toNat 0))
 | .m id off len,.d (.i _ n)=>aM (sz==1) (aM (decide (0<=n/\n<(len:Int))) (K (.p id (off+n.toNat))))
 |_,_ => .fail
theorem tG{sz:Nat}{a i:V}{K:V->Tr}:(nk sz a i K).le (ob (eW sz a i) K):=by
 unfold nk
 split
 ·unfold bh
  refine bR fun c hc=>?_
  split at hc
  ·rename_i h0
   refine bm fun hw=>?_
   simp only[beq_iff_eq]at hw
   simp only[eW,if_pos h0,hc,if_pos hw,ob];exact Tr.le_refl _
  ·cases hc
 ·refine bm fun h1=>bm fun h2=>?_
  simp only[beq_iff_eq]at h1
  simp only[decide_eq_true_eq]at h2
  simp only[eW,if_pos (show sz=1/\_/\_ from⟨h1,h2⟩),ob];exact Tr.le_refl _
 ·exact aX _
def lv(len sz:Nat)(a i:V)(K:V->Tr):Tr:=
 match a,i with
 | .p id off,.d (.i _ n)=>aM (decide (0<=n/\n<(len:Int))) (K (.p id (off+n.toNat*sz)))
 | .e xs j off,.d (.i _ n)=>aM (decide (0<=n/\n<(len:Int))) (K (.e xs j (off+n.toNat*sz)))
 |_,_ => .fail
theorem sj{len sz:Nat}{a i:V}{K:V->Tr}:(lv len sz a i K).le (ob (ep len sz a i) K):=by
 unfold lv
 split
 ·refine bm fun h2=>?_
  simp only[decide_eq_true_eq]at h2
  simp only[ep,if_pos h2,ob];exact Tr.le_refl _
 ·refine bm fun h2=>?_
  simp only[decide_eq_true_eq]at h2
  simp only[ep,if_pos h2,ob];exact Tr.le_refl _
 ·exact aX _
def E7(t:TypeId)(agg:Bool)(sz:Nat)(S:List Ob)(a:V)(K:V->Tr):Tr:=
 match a with
 | .e xs i off=>ob xs[i]? fun x=>match agg with
  |true=>aM (decide (off+sz<=x.width)) (K (.d (.g (E6 sz ((x.cells.drop off).take sz)))))
  |false=>ob x.cells[off]? fun d=>Gp P t d fun d=>K (.d d)
 | .p id off=>match bE S id with
  |some (.cells cs _)=>match agg with
   |true=>aM (decide (off+sz<=cs.length)) (ob (ti ((cs.drop off).take sz)) fun ds=>K (.d (.g ds)))
   |false=>ob cs[off]? fun v=>K9 P t v K
  |_ => .fail
 |_ => .fail
theorem CH(x:D):x.cells.length=x.width:=by cases x<;>rfl
theorem E8{t:TypeId}{agg:Bool}{sz:Nat}{S:List Ob}{a:V}{K:V->Tr}:(E7 P t agg sz S a K).le (ob (et agg sz S a) K):=by
 unfold E7
 split
 ·refine bR fun x hx=>?_
  split
  ·refine bm fun h=>?_
   simp only[decide_eq_true_eq]at h
   simp only[et,hx,if_true,if_pos h,ob]
   rw[wA (by simp[CH];omega)];exact Tr.le_refl _
  ·refine bR fun d hd=>?_
   simp only[et,hx,hd,Option.map_some,ob,Bool.false_eq_true,if_false]
   exact kL P
 ·split
  ·rename_i hob
   split
   ·refine bm fun h=>?_
    simp only[decide_eq_true_eq]at h
    refine bR fun ds hds=>?_
    simp only[et,hob,if_true,if_pos h,hds,Option.map_some,ob];exact Tr.le_refl _
   ·refine bR fun v hv=>?_
    simp only[et,hob,hv,ob,Bool.false_eq_true,if_false]
    exact Gr P
  ·exact aX _
 ·exact aX _
def mF(v:Option V)(dflt most:Nat)(K:Nat->Tr):Tr:=
 match v with
 |none=>K dflt
 |some (.d (.i _ n))=>aM (decide (0<=n/\n<=(most:Int))) (K n.toNat)
 |_ => .fail
theorem hZ{v:Option V}{dflt most:Nat}{K:Nat->Tr}{X:Tr}(h:∀n,kB v dflt most=some n->(K n).le X):(mF v dflt most K).le X:=by
 unfold mF
 split
 ·exact h _ rfl
 ·refine bm fun h1=>h _ ?_
  simp only[decide_eq_true_eq]at h1
  simp only[kB,if_pos h1]
 ·exact aX _
def wV(sz:Nat)(a:V)(lo hi:Option V)(K:V->Tr):Tr:=
 match a with
 | .d (.s x)=>mF hi x.length x.length fun h=>mF lo 0 h fun l=>K (.d (.s ((x.drop l).take (h-l))))
 | .d (.l _ xs)=>mF hi xs.length xs.length fun h=>mF lo 0 h fun l=>aM (bw sz xs) (K (.d (.l false ((xs.drop l).take (h-l)))))
 | .m id off len=>mF hi len len fun h=>mF lo 0 h fun l=>aM (sz==1) (K (.m id (off+l) (h-l)))
 |_ => .fail
theorem vB{sz:Nat}{a:V}{lo hi:Option V}{K:V->Tr}:(wV sz a lo hi K).le (ob (fL sz a lo hi) K):=by
 unfold wV
 split
 ·refine hZ fun h hh=>hZ fun l hl=>?_
  simp only[fL,hh,hl,ob];exact Tr.le_refl _
 ·refine hZ fun h hh=>hZ fun l hl=>bm fun e=>?_
  simp only[fL,hh,hl,if_pos e,ob];exact Tr.le_refl _
 ·refine hZ fun h hh=>hZ fun l hl=>bm fun e=>?_
  simp only[beq_iff_eq]at e
  simp only[fL,hh,hl,if_pos e,ob];exact Tr.le_refl _
 ·exact aX _
def wU(len sz:Nat)(a:V)(lo hi:Option V)(K:V->Tr):Tr:=
 match a with
 | .p id off=>mF hi len len fun h=>mF lo 0 h fun l=>aM (sz==1) (K (.m id (off+l) (h-l)))
 |_ => .fail
theorem A9{len sz:Nat}{a:V}{lo hi:Option V}{K:V->Tr}:(wU len sz a lo hi K).le (ob (jH len sz a lo hi) K):=by
 unfold wU
 split
 ·refine hZ fun h hh=>hZ fun l hl=>bm fun e=>?_
  simp only[beq_iff_eq]at e
  simp only[jH,hh,hl,if_pos e,ob];exact Tr.le_refl _
 ·exact aX _
def Au(t:TypeId)(fo sz:Nat)(agg:Bool)(a:V)(K:V->Tr):Tr:=
 match a with
 | .d (.g cs)=>match agg with
  |true=>aM (decide (fo+sz<=cs.length)) (K (.d (.g ((cs.drop fo).take sz))))
  |false=>ob cs[fo]? fun d=>Gp P t d fun d=>K (.d d)
 |_ => .fail
theorem CY{t:TypeId}{fo sz:Nat}{agg:Bool}{a:V}{K:V->Tr}:(Au P t fo sz agg a K).le (ob (kz fo sz agg a) K):=by
 unfold Au
 split
 ·split
  ·refine bm fun h=>?_
   simp only[decide_eq_true_eq]at h
   simp only[kz,if_true,if_pos h,ob];exact Tr.le_refl _
  ·refine bR fun d hd=>?_
   simp only[kz,hd,Option.map_some,ob,Bool.false_eq_true,if_false]
   exact kL P
 ·exact aX _
def En(bt:List Nat)(op:BinOp)(a b:V)(K:V->Tr):Tr:=
 match op,a,b with
 | .quo,.d (.i k x),.d (.i j y)=>aM (k==j) (aM (decide (y≠0)) (K (.d (.i k (k.wrap (x.tdiv y))))))
 | .rem,.d (.i k x),.d (.i j y)=>aM (k==j) (aM (decide (y≠0)) (K (.d (.i k (x.tmod y)))))
 | .shl,.d (.i k x),.d (.i _ y)=>aM (decide (0<=y)) (K (.d (.i k (k.wrap (x*2^(min y.toNat k.bits))))))
 | .shr,.d (.i k x),.d (.i _ y)=>aM (decide (0<=y)) (K (.d (.i k (x.fdiv (2^(min y.toNat k.bits))))))
 | .add,.d (.s x),.d (.s y)=>aM (decide (x.length+y.length<4611686018427387904)) (K (.d (.s (x++y))))
 |op,a,b=>ob (iH bt op a b) K
theorem Eo{bt:List Nat}{op:BinOp}{a b:V}{K:V->Tr}:(En bt op a b K).le (ob (iH bt op a b) K):=by
 unfold En
 split
 ·refine bm fun h1=>bm fun h2=>?_
  simp only[beq_iff_eq]at h1
  simp only[decide_eq_true_eq]at h2
  simp only[iH,if_pos h1,Em,if_neg h2,ob];exact Tr.le_refl _
 ·refine bm fun h1=>bm fun h2=>?_
  simp only[beq_iff_eq]at h1
  simp only[decide_eq_true_eq]at h2
  simp only[iH,if_pos h1,Em,if_neg h2,ob];exact Tr.le_refl _
 ·refine bm fun h1=>?_
  simp only[decide_eq_true_eq]at h1
  simp only[iH,Ka,if_neg (Int.not_lt.2 h1),ob];exact Tr.le_refl _
 ·refine bm fun h1=>?_
  simp only[decide_eq_true_eq]at h1
  simp only[iH,Ka,if_neg (Int.not_lt.2 h1),ob];exact Tr.le_refl _
 ·refine bm fun h1=>?_
  simp only[decide_eq_true_eq]at h1
  simp only[iH,GY,if_pos h1,ob];exact Tr.le_refl _
 ·exact Tr.le_refl _
def GH(ks:List Nat)(a b:V):Option Bool:=
 match a,b with
 | .d (.g xs),.d (.g ys)=>tC ks xs ys
 |_,_=>none
def IQ(bt:List Nat)(op:BinOp)(a b:V)(K:V->Tr):Tr:=
 match bt,op with
 |9::ks,.eql=>ob (GH ks a b) fun r=>K (.d (.b r))
 |9::ks,.neq=>ob (GH ks a b) fun r=>K (.d (.b !r))
 |bt,op=>En bt op a b K
theorem BL{ks:List Nat}{a b:V}{r:Bool}(h:GH ks a b=some r):iH (9::ks) .eql a b=some (.d (.b r))/\iH (9::ks) .neq a b=some (.d (.b !r)):=by
 unfold GH at h
 split at h
 ·unfold iH
  constructor<;>simp only[h]
 ·cases h
theorem GX{bt:List Nat}{op:BinOp}{a b:V}{K:V->Tr}:(IQ bt op a b K).le (ob (iH bt op a b) K):=by
 unfold IQ
 split
 ·cases h:GH _ a b with
  |none=>exact aX _
  |some r=>rw[(BL h).1];exact Tr.le_refl _
 ·cases h:GH _ a b with
  |none=>exact aX _
  |some r=>rw[(BL h).2];exact Tr.le_refl _
 ·exact Eo
end
end Go.Dn
namespace Go.Dn
set_option linter.unusedVariables false
set_option linter.unusedSimpArgs false
section
variable (P : Program) (aE : Pol)
def FG(c a b:V)(K:V->Tr):Tr:=
 match c with
 | .d (.b x)=>aT x (K a) (K b)
 |_ => .fail
theorem FH{c a b:V}{K:V->Tr}:(FG c a b K).le (ob (sK c a b) K):=by
 unfold FG
 split
 ·rename_i x
  cases x<;>exact Tr.le_refl _
 ·exact aX _
def B8(vals:List V)(S:List Ob)(o:Oper)(K:V->Tr):Tr:=
 match o.op with
 | .pick c a b=>ob (ev vals c) fun c=>ob (ev vals a) fun a=>ob (ev vals b) fun b=>FG c a b K
 | .buildSlice t len parts=>ob (jS P t) fun e=>ob (bH P e) fun sz=>
   aM (decide (parts.size=len/\len*sz<=16777216/\(eN P e).isSome=true)) (ob (ky sz 0 (parts.toList.map fun p=>(p.1,ev vals p.2))) fun xs=>K (.d (.l true xs)))
 | .load t a=>ob (jx P t) fun g=>ob (bH P t) fun sz=>ob (ev vals a) fun a=>E7 P t g sz S a K
 | .binOp op t x y _=>ob (Ep P t) fun bt=>ob (ev vals x) fun x=>ob (ev vals y) fun y=>IQ bt op x y K
 | .convert s d x=>match P.underlying s,P.underlying d with
  |some (.slice e),some .string=>match P.underlying e with
   |some (.int .u8)=>ob (ev vals x) fun x=>ob (view S 1 x) fun xs=>ob (eO xs) fun b=>K (.d (.s b))
   |_ => .fail
  |some s',some d'=>ob (ev vals x) fun x=>ob (sJ s' d' x) K
  |_,_ => .fail
 | .slice t x lo hi mx=>match mx with
  |some _ => .fail
  |none=>match P.underlying t with
   |some .string=>ob (ev vals x) fun x=>ob (L4 x) fun s=>ob (tx vals lo) fun lo=>ob (tx vals hi) fun hi=>wV 1 (.d (.s s)) lo hi K
   |some (.slice e)=>ob (ev vals x) fun x=>ob (L3 x) fun v=>ob (bH P e) fun sz=>ob (tx vals lo) fun lo=>ob (tx vals hi) fun hi=>wV sz v lo hi K
   |some (.array n e)=>ob (bH P e) fun sz=>ob (ev vals x) fun x=>ob (tx vals lo) fun lo=>ob (tx vals hi) fun hi=>wU n sz x lo hi K
   |_ => .fail
 | .field t x f=>match P.underlying t with
  |some (.struct fs)=>match fs[f]? with
   |some g=>ob (bH P g.type) fun sz=>ob (jx P g.type) fun ag=>ob (ev vals x) fun x=>Au P g.type g.offset sz ag x K
   |none => .fail
  |_ => .fail
 | .indexAddr t x i=>match P.underlying t with
  |some (.slice e)=>ob (bH P e) fun sz=>ob (ev vals x) fun x=>ob (ev vals i) fun i=>nk sz x i K
  |some (.array n e)=>ob (bH P e) fun sz=>ob (ev vals x) fun x=>ob (ev vals i) fun i=>lv n sz x i K
  |_ => .fail
 | .index t x i=>match P.underlying t with
  |some .string=>ob (ev vals x) fun x=>ob (ev vals i) fun i=>Ax x i K
  |_ => .fail
 | .lookup t m k ok=>match P.underlying t with
  |some (.map kt e)=>match s8 P e with
   |some (.d z)=>ob (ev vals k) fun k=>ob (Ij k) fun k=>aM (eI P kt k) (ob (ev vals m) fun m=>ob (mapOf S m) fun es=>ob (kQ k es) fun r=>match ok with
     |true=>Gp P e (r.getD z) fun x=>K (.t [.d x,.d (.b r.isSome)])
     |false=>Gp P e (r.getD z) fun x=>K (.d x))
   |_ => .fail
  |_ => .fail
 |_=>ob (cR P vals S o) K
theorem yR{vals:List V}{S:List Ob}{o:Oper}{K:V->Tr}:(B8 P vals S o K).le (ob (cR P vals S o) K):=by
 unfold B8
 split
 ·rename_i c a b hop
  refine bR fun c hc=>bR fun a ha=>bR fun b hb=>?_
  have:cR P vals S o=sK c a b:=by simp[cR,hop,hc,ha,hb]
  rw[this];exact FH
 ·rename_i t len parts hop
  refine bR fun e he=>bR fun sz hsz=>bm fun h=>bR fun xs hxs=>?_
  simp only[decide_eq_true_eq]at h
  have:cR P vals S o=some (.d (.l true xs)):=by
   simp only[cR,hop,he,hsz,hxs,Option.bind_eq_bind,Option.bind_some,if_pos h];rfl
  rw[this];exact Tr.le_refl _
 ·rename_i t a hop
  refine bR fun g hg=>bR fun sz hsz=>bR fun a ha=>?_
  have:cR P vals S o=et g sz S a:=by simp[cR,hop,hg,hsz,ha]
  rw[this];exact E8 P
 ·rename_i op t x y ty hop
  refine bR fun bt hbt=>bR fun x hx=>bR fun y hy=>?_
  have:cR P vals S o=iH bt op x y:=by simp[cR,hop,hbt,hx,hy]
  rw[this];exact GX
 ·rename_i s d x hop
  split
  ·rename_i e hs hd
   split
   ·rename_i he
    refine bR fun x hx=>bR fun xs hxs=>bR fun b hb=>?_
    have:cR P vals S o=some (.d (.s b)):=by simp[cR,hop,hs,hd,he,hx,hxs,hb]
    rw[this];exact Tr.le_refl _
   ·exact aX _
  ·rename_i s' d' hne hs hd
   refine bR fun x hx=>?_
   have:cR P vals S o=sJ s' d' x:=by
    simp[cR,hop,hs,hd,hx]
   rw[this];exact Tr.le_refl _
  ·exact aX _
 ·rename_i t x lo hi mx hop
  split
  ·exact aX _
  ·split
   ·rename_i hu
    refine bR fun x hx=>bR fun s hs=>bR fun lo hlo=>bR fun hi hhi=>?_
    have:cR P vals S o=fL 1 (.d (.s s)) lo hi:=by simp[cR,hop,hu,hx,hs,hlo,hhi]
    rw[this];exact vB
   ·rename_i e hu
    refine bR fun x hx=>bR fun v hv=>bR fun sz hsz=>bR fun lo hlo=>bR fun hi hhi=>?_
    have:cR P vals S o=fL sz v lo hi:=by simp[cR,hop,hu,hx,hv,hsz,hlo,hhi]
    rw[this];exact vB
   ·rename_i n e hu
    refine bR fun sz hsz=>bR fun x hx=>bR fun lo hlo=>bR fun hi hhi=>?_
    have:cR P vals S o=jH n sz x lo hi:=by simp[cR,hop,hu,hx,hsz,hlo,hhi]
    rw[this];exact A9
   ·exact aX _
 ·rename_i t x f hop
  split
  ·rename_i fs hu
   split
   ·rename_i g hg
    refine bR fun sz hsz=>bR fun ag hag=>bR fun x hx=>?_
    have:cR P vals S o=kz g.offset sz ag x:=by simp[cR,hop,hu,hg,hsz,hag,hx]
    rw[this];exact CY P
   ·exact aX _
  ·exact aX _
 ·rename_i t x i hop
  split
  ·rename_i e hu
   refine bR fun sz hsz=>bR fun x hx=>bR fun i hi=>?_
   have:cR P vals S o=eW sz x i:=by simp[cR,hop,hu,hsz,hx,hi]
   rw[this];exact tG
  ·rename_i n e hu
   refine bR fun sz hsz=>bR fun x hx=>bR fun i hi=>?_
   have:cR P vals S o=ep n sz x i:=by simp[cR,hop,hu,hsz,hx,hi]
   rw[this];exact sj
  ·exact aX _
 ·rename_i t x i hop
  split
  ·rename_i hu
   refine bR fun x hx=>bR fun i hi=>?_
   have:cR P vals S o=mf x i:=by simp[cR,hop,hu,hx,hi]
   rw[this];exact C3
  ·exact aX _
 ·rename_i t m k okb hop
  split
  ·rename_i kt e hu
   split
   ·rename_i z hz
    refine bR fun k hk=>bR fun kd hkd=>bm fun hf=>bR fun m hm=>bR fun es hes=>bR fun r hr=>?_
    cases okb with
    |true=>
     have:cR P vals S o=some (.t [.d (r.getD z),.d (.b r.isSome)]):=by simp[cR,hop,hu,hz,hk,hkd,hf,hm,hes,hr]
     rw[this];exact kL P
    |false=>
     have:cR P vals S o=some (.d (r.getD z)):=by simp[cR,hop,hu,hz,hk,hkd,hf,hm,hes,hr]
     rw[this];exact kL P
   ·exact aX _
  ·exact aX _
 ·exact Tr.le_refl _
def nT(S:List Ob)(sz by_:Nat)(fresh:Bool)(base y:V)(K:V->Tr):Tr:=
 aW base fun d=>dZ d fun full xs=>ob (dw S sz y) fun zs=>aM (!fresh||full) (aM (bw sz xs) (aM (bw sz zs) (aM (full||gM zs) (aM (decide (by_<=1024)) (aM (decide (xs.length+zs.length<=4294967296)) (K (.d (.l (full&&zs.isEmpty) (xs++zs)))))))))
theorem mO{S:List Ob}{sz by_:Nat}{fresh:Bool}{base y:V}{K:V->Tr}:(nT S sz by_ fresh base y K).le (ob (eV S sz by_ fresh base y) K):=by
 unfold nT
 cases base with
 |d x=>cases x with
  |l full xs=>
   show (ob (dw S sz y) fun zs=>aM (!fresh||full) (aM (bw sz xs) (aM (bw sz zs) (aM (full||gM zs) (aM (decide (by_<=1024)) (aM (decide (xs.length+zs.length<=4294967296)) (K (.d (.l (full&&zs.isEmpty) (xs++zs)))))))))).le _
   refine bR fun zs hzs=>bm fun h1=>bm fun h2=>bm fun h3=>bm fun h4=>bm fun h5=>bm fun h6=>?_
   simp only[decide_eq_true_eq]at h5 h6
   have:eV S sz by_ fresh (.d (.l full xs)) y=some (.d (.l (full&&zs.isEmpty) (xs++zs))):=by
    simp only[eV,hzs]
    rw[if_pos]
    refine⟨fun e=>by simpa[e]using h1,h2,h3,fun e=>by simpa[e]using h4,h5,h6⟩
   rw[this];exact Tr.le_refl _
  |_=>exact aX _
 |_=>exact aX _
def Bf(S:List Ob)(agg:Bool)(sz:Nat)(fl:Fl)(tk:Option Nat)(a v:V)(K:List Ob->Tr):Tr:=
 match a with
 | .p id off=>match bE S id with
  |some (.cells cs fl0)=>match agg with
   |true=>match v with
    | .d (.g ds)=>aM (decide (ds.length=sz/\off+sz<=cs.length)&&jE none (ds.map .d) fl&&(ds.map V.d).all V.one) (K (oset S id (.cells (tH cs off (ds.map .d)) (fl0.filter (fun x=>!(off<=x.1&&x.1<off+sz))++fl.map (fun x=>(off+x.1,x.2))))))
    |_ => .fail
   |false=>aM (v.one&&sz==1&&decide (off<cs.length)&&bz (id+1) v) (K (oset S id (.cells (cs.set off v) (vR tk off (cZ fl0 off)))))
  |_ => .fail
 |_ => .fail
theorem DT{S:List Ob}{agg:Bool}{sz:Nat}{fl:Fl}{tk:Option Nat}{a v:V}{K:List Ob->Tr}:(Bf S agg sz fl tk a v K).le (ob (gR S agg sz fl tk a v) K):=by
 unfold Bf
 split
 ·split
  ·rename_i hob
   split
   ·split
    ·refine bm fun h=>?_
     simp only[Bool.and_eq_true,decide_eq_true_eq]at h
     simp only[gR,hob,if_true]
     rw[if_pos ⟨h.1.1.1,h.1.1.2,h.1.2,h.2⟩];exact Tr.le_refl _
    ·exact aX _
   ·refine bm fun h=>?_
    simp only[Bool.and_eq_true,decide_eq_true_eq,beq_iff_eq]at h
    simp only[gR,hob,Bool.false_eq_true,if_false]
    rw[if_pos ⟨h.1.1.1,h.1.1.2,h.1.2,h.2⟩];exact Tr.le_refl _
  ·exact aX _
 ·exact aX _
def nz(S:List Ob)(m k x:V)(K:List Ob->Tr):Tr:=
 match m,k,x with
 | .mp id,.d k,.d x=>match bE S id with
  |some (.map es)=>aM (kQ k es).isSome (K (oset S id (.map (yx k x es))))
  |_ => .fail
 |_,_,_ => .fail
theorem tI{S:List Ob}{m k x:V}{K:List Ob->Tr}:(nz S m k x K).le (ob (eX S m k x) K):=by
 unfold nz
 split
 ·split
  ·rename_i hob
   refine bm fun h=>?_
   simp only[eX,hob,if_pos h,ob];exact Tr.le_refl _
  ·exact aX _
 ·exact aX _
def Fp(S:List Ob)(a:V)(K:V->List Ob->Tr):Tr:=
 match a with
 | .it id=>match bE S id with
  |some (.iter s pos)=>aT (decide (pos<s.length))
    (K (.t [.d (.b true),.d (.i .i64 pos),.d (.i .i32 (Utf8.decode ⟨s.toArray⟩ pos).1)]) (oset S id (.iter s (pos+(Utf8.decode ⟨s.toArray⟩ pos).2))))
    (K (.t [.d (.b false)]) S)
  |_ => .fail
 |_ => .fail
theorem Fq{S:List Ob}{a:V}{K:V->List Ob->Tr}:(Fp S a K).le (ob (kl S a) fun w=>K w.1 w.2):=by
 unfold Fp
 split
 ·split
  ·rename_i s pos hob
   simp only[kl,hob]
   by_cases h:pos<s.length
   ·rw[if_pos h,decide_eq_true h];exact Tr.le_refl _
   ·rw[if_neg h,decide_eq_false h];exact Tr.le_refl _
  ·exact aX _
 ·exact aX _
def HD(S:List Ob)(t:Nat)(fl:Fl)(cs:List V)(K:V->List Ob->Tr):Tr:=
 aM (jE (some t) cs fl&&cs.all V.one&&bg S.length cs) (K (.p S.length 0) (.cells cs fl::S))
theorem BS{S:List Ob}{t:Nat}{fl:Fl}{cs:List V}{K:V->List Ob->Tr}:(HD S t fl cs K).le (ob (hO S t fl cs) fun w=>K w.1 w.2):=by
 unfold HD
 refine bm fun h=>?_
 simp only[Bool.and_eq_true]at h
 simp only[hO,if_pos (show _/\_/\_ from⟨h.1.1,h.1.2,h.2⟩),ob];exact Tr.le_refl _
def IT(S:List Ob)(t:Nat)(fl:Fl)(sz:Nat)(v:V)(K:V->List Ob->Tr):Tr:=
 match v with
 | .d (.g ds)=>aM (ds.length==sz) (HD S t fl (ds.map .d) K)
 |v=>aM (sz==1) (HD S t fl [v] K)
theorem G3{S:List Ob}{t:Nat}{fl:Fl}{sz:Nat}{v:V}{K:V->List Ob->Tr}:(IT S t fl sz v K).le (ob (kS S t fl sz v) fun w=>K w.1 w.2):=by
 unfold IT
 split
 ·refine bm fun h=>?_
  simp only[beq_iff_eq]at h
  simp only[kS,if_pos h];exact BS
 ·rename_i hne
  refine bm fun h=>?_
  simp only[beq_iff_eq]at h
  have:kS S t fl sz v=if sz=1 then hO S t fl [v]else none:=by
   unfold kS;split
   ·rename_i ds;exact absurd rfl (hne ds)
   ·rfl
  rw[this,if_pos h];exact BS
def AJ(z:D)(n c:V)(K:V->Tr):Tr:=
 match n,c with
 | .d (.i _ n),.d (.i _ c)=>aM (decide (0<=n)) (aM (decide (n<=c)) (aM (decide (c<=4294967296)) (aM (V.d z).one (K (.d (.l false (List.replicate n.toNat z)))))))
 |_,_ => .fail
theorem Dd{z:D}{n c:V}{K:V->Tr}:(AJ z n c K).le (ob (oE z n c) K):=by
 unfold AJ
 split
 ·refine bm fun h1=>bm fun h2=>bm fun h3=>bm fun h4=>?_
  simp only[decide_eq_true_eq]at h1 h2 h3
  simp only[oE,if_pos (show _/\_/\_/\_ from⟨h1,h2,h3,h4⟩),ob];exact Tr.le_refl _
 ·exact aX _
def AK(S:List Ob)(z n c:V)(K:V->List Ob->Tr):Tr:=
 match n,c with
 | .d (.i _ n),.d (.i _ c)=>aM (decide (0<=n)) (aM (decide (n=c)) (aM (decide (c<=4294967296)) (aM (z.one&&bz S.length z) (K (.m S.length 0 n.toNat) (.cells (List.replicate n.toNat z) []::S)))))
 |_,_ => .fail
theorem De{S:List Ob}{z n c:V}{K:V->List Ob->Tr}:(AK S z n c K).le (ob (kA S z n c) fun w=>K w.1 w.2):=by
 unfold AK
 split
 ·refine bm fun h1=>bm fun h2=>bm fun h3=>bm fun h4=>?_
  simp only[decide_eq_true_eq,Bool.and_eq_true]at h1 h2 h3 h4
  simp only[kA,if_pos (show _/\_/\_/\_/\_ from⟨h1,h2,h3,h4.1,h4.2⟩),ob];exact Tr.le_refl _
 ·exact aX _
def rB(S:List Ob)(by_:Nat)(base y:V)(K:V->List Ob->Tr):Tr:=
 match base with
 | .d (.l true [])=>ob (dw S 1 y) fun zs=>aM (bw 1 zs) (aM ((zs.map V.d).all V.one) (aM (decide (by_<=1024)) (aM (decide (zs.length<=4294967296)) (K (.m S.length 0 zs.length) (.cells (zs.map .d) []::S)))))
 |_ => .fail
theorem pC{S:List Ob}{by_:Nat}{base y:V}{K:V->List Ob->Tr}:(rB S by_ base y K).le (ob (gL S by_ base y) fun w=>K w.1 w.2):=by
 unfold rB
 split
 ·refine bR fun zs hzs=>bm fun h1=>bm fun h2=>bm fun h3=>bm fun h4=>?_
  simp only[decide_eq_true_eq]at h3 h4
  simp only[gL,hzs,if_pos (show _/\_/\_/\_ from⟨h1,h2,h3,h4⟩),ob];exact Tr.le_refl _
 ·exact aX _
def KY(o:Out)(K:List V->Tr):Tr:=
 match o with
 |(.p 0 0,[.cells cs []])=>aM (bg 0 cs) (K cs)
 |_ => .fail
def Kz(t:Option TypeId):Bool:=
 match t with
 |some t=>match P.underlying t with
  |some (.pointer _)=>true
  |_=>false
 |none=>false
def Es(g:Nat)(args:List V)(S:List Ob)(K:V->List Ob->Tr):Tr:=
 ob P.funcs[g]? fun fn=>match aE.fresh g,iV args with
 |true,0=>match Kz P fn.resultTypes[0]? with
  |true => .call (.call g args []) fun o=>KY o fun cs=>K (.p S.length 0) (.cells cs []::S)
  |false => .call (.call g args []) fun o=>J3 o fun cs len=>K (.m S.length 0 len) (.cells cs []::S)
 |false,0 => .call (.call g args []) fun o=>aM o.2.isEmpty (Cq P fn.resultTypes.toList o.1 fun v=>aM (mj v==0) (K v S))
 |_,n+1=>aM (decide (n+1<=S.length)) (.call (.call g args (kX (n+1) S)) fun o=>AP (kX (n+1) S) o.2 fun S'=>Cq P fn.resultTypes.toList o.1 fun v=>aM (decide (mj v<=n+1)) (K v (jW (n+1) S++S')))
theorem Et{g:Nat}{args:List V}{S:List Ob}{K:V->List Ob->Tr}:(Es P aE g args S K).le (aM (decide (iV args<=S.length)) (.call (.call g args (kX (iV args) S)) fun o=>ob (kP (iV args) S o) fun w=>K w.1 w.2)):=by
 unfold Es
 refine bR fun fn _=>?_
 have hl:kX 0 S=[]:=by simp[kX]
 split
 ·rename_i _ hb
  rw[hb,hl]
  simp only[Nat.zero_le,decide_true,aM]
  split
  ·refine q9 fun o=>?_
   unfold KY
   split
   ·rename_i cs
    refine bm fun h=>?_
    have:kP 0 S (.p 0 0,[.cells cs []])=some (.p S.length 0,.cells cs []::S):=by
     simp[kP,h,jW]
    rw[this];exact Tr.le_refl _
   ·exact aX _
  refine q9 fun o=>?_
  unfold J3
  split
  ·rename_i len cs
   refine bm fun h=>?_
   have:kP 0 S (.m 0 0 len,[.cells cs []])=some (.m S.length 0 len,.cells cs []::S):=by
    simp[kP,h,jW]
   rw[this];exact Tr.le_refl _
  ·exact aX _
 ·rename_i _ hb
  rw[hb,hl]
  simp only[Nat.zero_le,decide_true,aM]
  refine q9 fun o=>bm fun he=>Tr.le_trans (zM P) (bm fun h0=>?_)
  have he':o.2=[]:=by simpa using he
  have h0':mj o.1=0:=by simpa using h0
  have:kP 0 S o=some (o.1,S):=by
   unfold kP
   rw[he']
   simp[h0',jW]
  rw[this];exact Tr.le_refl _
 ·rename_i _ n hb
  rw[hb]
  refine bm fun hn=>?_
  rw[hn]
  simp only[aM]
  simp only[decide_eq_true_eq]at hn
  refine q9 fun o=>B1 fun hlen=>Tr.le_trans (zM P) (bm fun h0=>?_)
  simp only[decide_eq_true_eq]at h0
  have hlow:(kX (n+1) S).length=n+1:=by simp[kX];omega
  have:kP (n+1) S o=some (o.1,jW (n+1) S++o.2):=by
   unfold kP
   rw[if_pos (by rw[hlen,hlow]),if_pos h0]
  rw[this];exact Tr.le_refl _
def vX(k r i:Nat)(ops:List Oper)(vals:List V)(fl:Fl)(S:List Ob)(o:Oper)(K:V->List Ob->Tr):Tr:=
 match o.op with
 | .store t a x=>ob (jx P t) fun g=>ob (bH P t) fun sz=>ob (ev vals a) fun va=>ob (ev vals x) fun vx=>
   Bf S g sz (aE.uC k r i) (match x,o.guard with | .tmp y,none=>tok fl y|_,_=>none) va vx fun S'=>K .u S'
 | .box t x=>ob (bH P t) fun sz=>ob (ev vals x) fun v=>IT S t (aE.uC k r i) sz v K
 | .next it true=>ob (ev vals it) fun v=>Fp S v K
 | .mapUpdate t m kk x=>match P.underlying t with
  |some (.map kt _)=>ob (ev vals m) fun vm=>ob (ev vals kk) fun vk=>ob (ev vals x) fun vx=>ob (Ij vk) fun kd=>aM (eI P kt kd) (nz S vm vk vx fun S'=>K .u S')
  |_ => .fail
 | .makeSlice t n c=>ob (jS P t) fun e=>ob (eN P e) fun z=>
   aM (decide (((P.info? e).map (·.bytes)).getD 5000<=1024)&&decide (bH P e=some 1)) (match aE.app k r i,z with
   |0,[.d z]=>ob (ev vals n) fun vn=>ob (ev vals c) fun vc=>AJ z vn vc fun v=>K v S
   |1,[z]=>ob (ev vals n) fun vn=>ob (ev vals c) fun vc=>AK S z vn vc K
   |_,_ => .fail)
 | .convert s d x=>match P.underlying s,P.underlying d with
  |some .string,some (.slice e)=>match P.underlying e with
   |some (.int .u8)=>ob (ev vals x) fun v=>aW v fun d=>fF d fun b=>aM (decide (b.length<=4294967296)&&decide (((P.info? e).map (·.bytes)).getD 5000<=1024)) (match aE.app k r i with
     |0=>K (.d (.l false (ofBytes b))) S
     |1=>K (.m S.length 0 b.length) (.cells ((ofBytes b).map .d) []::S)
     |_ => .fail)
   |_ => .fail
  |_,_ => .fail
 | .call c=>match c.callee with
  | .builtin .append=>match c.args.toList,c.argTypes[0]? with
   | [x,y],some t=>ob (jS P t) fun e=>ob (bH P e) fun sz=>ob (ev vals x) fun bx=>ob (ev vals y) fun vy=>
    aM (Cn P c&&decide ((eN P e).map (·.length)=some sz)&&o.dst.isSome&&decide (sz<1000000)) (match aE.app k r i with
    |0=>nT S sz (((P.info? e).map (·.bytes)).getD 5000) true bx vy fun v=>K v S
    |2=>ob (ld ops x) fun q=>aM (decide (tok fl q=some sz)) (nT S sz (((P.info? e).map (·.bytes)).getD 5000) false bx vy fun v=>K v S)
    |3=>ob (iz ops x) fun q=>ob (mL S (vals.getD q .u)) fun w=>aM (decide (w.1=Ig (aE.uC k r i) sz)&&LZ (aE.uC k r i) e) (nT S sz (((P.info? e).map (·.bytes)).getD 5000) false bx vy fun v=>K v w.2)
    |1=>aM (sz==1) (rB S (((P.info? e).map (·.bytes)).getD 5000) bx vy K)
    |_ => .fail)
   |_,_ => .fail
  | .value f=>ob (c.args.toList.mapM (ev vals)) fun args=>ob (ev vals f) fun vf=>match vf with
   | .f g caps=>Es P aE g (args++caps) S K
   |_ => .fail
  |_ => .fail
 |_=>(dU P aE k r i ops vals fl S o).bind fun w=>K w.1 w.2
theorem dn{α:Type}{x:Option α}{K:α->Tr}{J:Out->Tr}:(ob x K).bind J=ob x fun a=>(K a).bind J:=by cases x<;>rfl
theorem gY{c:Bool}{x:Tr}{J:Out->Tr}:(aM c x).bind J=aM c (x.bind J):=by cases c<;>rfl
theorem ui{k r i:Nat}{ops:List Oper}{vals:List V}{fl:Fl}{S:List Ob}{o:Oper}{K:V->List Ob->Tr}:(vX P aE k r i ops vals fl S o K).le ((dU P aE k r i ops vals fl S o).bind fun w=>K w.1 w.2):=by
 unfold vX
 split
 ·rename_i t a x hop
  simp only[dU,hop,dn]
  refine c8 fun g _=>c8 fun sz _=>c8 fun va _=>c8 fun vx _=>?_
  exact DT
 ·rename_i t x hop
  simp only[dU,hop,dn]
  refine c8 fun sz _=>c8 fun v _=>?_
  exact G3
 ·rename_i it hop
  simp only[dU,hop,dn]
  refine c8 fun v _=>?_
  exact Fq
 ·rename_i t m kk x hop
  split
  ·rename_i kt e hu
   simp only[dU,hop,hu,dn,gY]
   refine c8 fun vm _=>c8 fun vk _=>c8 fun vx _=>c8 fun kd _=>bm fun hf=>?_
   rw[hf];simp only[aM,dn,Tr.bind]
   exact tI
  ·exact aX _
 ·rename_i t n c hop
  simp only[dU,hop,dn,gY]
  refine c8 fun e _=>c8 fun z _=>bm fun hc=>?_
  rw[hc];simp only[aM]
  split
  ·have hm:aE.app k r i=0:=by assumption
   simp only[hm,dn,Tr.bind]
   exact c8 fun vn _=>c8 fun vc _=>Dd
  ·have hm:aE.app k r i=1:=by assumption
   simp only[hm,dn,Tr.bind]
   exact c8 fun vn _=>c8 fun vc _=>De
  ·exact aX _
 ·rename_i s d x hop
  split
  ·rename_i e hs hd
   split
   ·rename_i he
    simp only[dU,hop,hs,hd,he,dn]
    refine c8 fun v _=>pj fun d hdv=>Ej fun b hb=>?_
    subst hdv;subst hb
    simp only[gY]
    refine bm fun hc=>?_
    rw[hc];simp only[aM]
    split
    ·rename_i hm;simp only[hm,Tr.bind];exact Tr.le_refl _
    ·rename_i hm;simp only[hm,Tr.bind];exact Tr.le_refl _
    ·exact aX _
   ·exact aX _
  ·exact aX _
 ·rename_i c hop
  split
  ·rename_i hc
   split
   ·rename_i x y t hargs hty
    simp only[dU,hop,hc,hargs,hty,dn,gY]
    refine c8 fun e _=>c8 fun sz _=>c8 fun bx _=>c8 fun vy _=>bm fun hi=>?_
    rw[hi];simp only[aM]
    split
    ·rename_i hm
     simp only[hm,dn,Tr.bind];exact mO
    ·rename_i hm
     simp only[hm,dn,gY]
     refine c8 fun q _=>bm fun hq=>?_
     rw[hq];simp only[aM,dn,Tr.bind];exact mO
    ·rename_i hm
     simp only[hm,dn,gY]
     refine c8 fun q _=>c8 fun w _=>bm fun hq=>?_
     rw[hq];simp only[aM,dn,Tr.bind];exact mO
    ·rename_i hm
     simp only[hm,dn,gY]
     refine bm fun hq=>?_
     rw[hq];simp only[aM,dn,Tr.bind];exact pC
    ·exact aX _
   ·exact aX _
  ·rename_i f hc
   simp only[dU,hop,hc,dn]
   refine c8 fun args _=>c8 fun vf _=>?_
   split
   ·simp only[gY,Tr.bind,dn]
    exact Et P aE
   ·exact aX _
  ·exact aX _
 ·exact Tr.le_refl _
end
end Go.Dn
namespace Go.Dn
set_option linter.unusedVariables false
set_option linter.unusedSimpArgs false
section
variable (P : Program) (aE : Pol)
def K6(g:V)(want:Bool)(x y:Tr):Tr:=
 match g with
 | .d (.b c)=>aT (c==want) x y
 | .t []=>y
 |_ => .fail
def AY(ops:List Oper)(vals:List V)(S:List Ob)(o:Oper)(K:V->Tr):Tr:=
 match o.guard with
 |none=>B8 P vals S o K
 |some (j,want)=>match (ops[j]?).bind (·.dst) with
  |some g=>K6 (vals.getD g .u) want (B8 P vals S o K) (K (.t []))
  |none => .fail
theorem Dy{ops:List Oper}{vals:List V}{S:List Ob}{o:Oper}{K:V->Tr}:(AY P ops vals S o K).le (ob (u7 P ops vals S o) K):=by
 unfold AY u7
 split
 ·rename_i hg;simp only[hg];exact yR P
 ·rename_i j want hg
  simp only[hg]
  split
  ·rename_i g hd
   simp only[hd]
   unfold K6
   split
   ·rename_i c hc
    simp only[hc,gd]
    by_cases e:c=want
    ·rw[if_pos e];subst e;simp only[beq_self_eq_true,aT];exact yR P
    ·rw[if_neg e]
     have:(c==want)=false:=by simpa using e
     rw[this];exact Tr.le_refl _
   ·rename_i hc
    simp only[hc,gd];exact Tr.le_refl _
   ·exact aX _
  ·exact aX _
def vV(k r i:Nat)(ops:List Oper)(vals:List V)(fl:Fl)(S:List Ob)(o:Oper)(K:V->List Ob->Tr):Tr:=
 match o.guard with
 |none=>vX P aE k r i ops vals fl S o K
 |some (j,want)=>match (ops[j]?).bind (·.dst) with
  |some g=>K6 (vals.getD g .u) want (vX P aE k r i ops vals fl S o K) (K (.t []) S)
  |none => .fail
theorem Ao{k r i:Nat}{ops:List Oper}{vals:List V}{fl:Fl}{S:List Ob}{o:Oper}{K:V->List Ob->Tr}:(vV P aE k r i ops vals fl S o K).le ((jf P aE k r i ops vals fl S o).bind fun w=>K w.1 w.2):=by
 unfold vV jf
 split
 ·rename_i hg;simp only[hg];exact ui P aE
 ·rename_i j want hg
  simp only[hg]
  split
  ·rename_i g hd
   simp only[hd]
   unfold K6
   split
   ·rename_i c hc
    simp only[hc,J5]
    by_cases e:c=want
    ·rw[if_pos e];subst e;simp only[beq_self_eq_true,aT];exact ui P aE
    ·rw[if_neg e]
     have:(c==want)=false:=by simpa using e
     rw[this];exact Tr.le_refl _
   ·rename_i hc
    simp only[hc,J5];exact Tr.le_refl _
   ·exact aX _
  ·exact aX _
def KW(ops:List Oper)(i:Nat):Bool:=ops.any fun o=>match o.guard with
 |some (j,_)=>j==i
 |none=>false
def splitB(v:V)(K:V->Tr):Tr:=
 match v with
 | .d (.b x)=>aT x (K (.d (.b true))) (K (.d (.b false)))
 |v=>K v
theorem DO{v:V}{K:V->Tr}:(splitB v K).le (K v):=by
 unfold splitB
 split
 ·rename_i x;cases x<;>exact Tr.le_refl _
 ·exact Tr.le_refl _
def oA(ops:List Oper)(i:Nat)(v:V)(K:V->Tr):Tr:=
 match KW ops i with
 |true=>splitB v K
 |false=>K v
theorem qu{ops:List Oper}{i:Nat}{v:V}{K:V->Tr}:(oA ops i v K).le (K v):=by
 unfold oA
 split
 ·exact DO
 ·exact Tr.le_refl _
def gV(k r:Nat)(ops:List Oper):List Oper->Nat->Nat->List V->Fl->List Ob->(List V->Fl->List Ob->Tr)->Tr
 | [],_,_,vals,fl,S,K=>K vals fl S
 |o::os,i,id,vals,fl,S,K=>
  match bN o with
  |true=>gV k r ops os (i+1) (id+1) (nF o.dst (mN o id) vals) (bI P aE k r i ops fl o) S K
  |false=>match jh aE k r i o with
   |false => .fail
   |true=>match dR P o with
    |false=>AY P ops vals S o fun v=>oA ops i v fun v=>gV k r ops os (i+1) id (nF o.dst v vals) (bI P aE k r i ops fl o) S K
    |true=>vV P aE k r i ops vals fl S o fun v S'=>oA ops i v fun v=>gV k r ops os (i+1) id (nF o.dst v vals) (bI P aE k r i ops fl o) S' K
theorem gW{k r:Nat}{ops:List Oper}{K K':List V->Fl->List Ob->Tr}(hK:∀vals fl S,(K vals fl S).le (K' vals fl S)):∀(os:List Oper) (i id:Nat) (vals:List V) (fl:Fl) (S:List Ob),(gV P aE k r ops os i id vals fl S K).le (gO P aE k r ops os i id vals fl S K')
 | [],i,id,vals,fl,S=>by simp only[gV,gO];exact hK _ _ _
 |o::os,i,id,vals,fl,S=>by
  simp only[gV,gO]
  cases bN o with
  |true=>exact gW hK os _ _ _ _ _
  |false=>
   cases jh aE k r i o with
   |false=>exact aX _
   |true=>
    cases dR P o with
    |false=>exact Tr.le_trans (Dy P) (c8 fun v _=>Tr.le_trans qu (gW hK os _ _ _ _ _))
    |true=>exact Tr.le_trans (Ao P aE) (Hp fun w=>Tr.le_trans qu (gW hK os _ _ _ _ _))
def AQ(fl:Fl)(ops:List Oper)(bef:List Nat)(x y:Oper)(i j:Nat):Bool:=
 (bef.getD j 0).testBit i||apart ops x y &&
  match cls P fl ops x,cls P fl ops y with
  |0,_=>true
  |_,0=>true
  |2,_=>true
  |_,2=>true
  |1,1=>true
  |_,_=>false
def EI(fl:Fl)(ops:List Oper):Bool:=
 let bef:=eH ops []
 ops.zipIdx.all fun(y,j)=>y.after.all (fun e=>!Region.binds .any e||e.on<j) &&
  (match y.op with | .assign (.tmp t)=>ops.all fun o=>!(o.dst==some t&&(match o.op with | .assign _=>true|_=>false)) | .select ..=>false|_=>true) &&
  (!bN y||(match y.dst with|some d=>!ie fl ops d|none=>true)) &&
  (ops.take j).zipIdx.all fun(x,i)=>AQ P fl ops bef x y i j
theorem Ds{n1:Nat}{fl:Fl}{ops:List Oper}{vals:List V}{bef:List Nat}{x y:Oper}{i j:Nat}(h:AQ P fl ops bef x y i j=true):eK P n1 fl ops vals bef x y i j=true:=by
 unfold AQ at h
 unfold eK
 rw[Bool.or_eq_true,Bool.and_eq_true]at h⊢
 rcases h with h|⟨h1,h2⟩
 ·exact .inl h
 ·refine .inr ⟨h1,?_⟩
  generalize cls P fl ops x=a at h2⊢
  generalize cls P fl ops y=b at h2⊢
  rcases a with _|_|_|_|a<;>rcases b with _|_|_|_|b<;>first|rfl|cases h2
theorem EJ{n1:Nat}{fl:Fl}{ops:List Oper}{vals:List V}(h:EI P fl ops=true):mT P n1 fl ops vals=true:=by
 unfold EI at h
 unfold mT
 rw[List.all_eq_true]at h⊢
 intro y hy
 have:=h y hy
 simp only[Bool.and_eq_true]at this⊢
 refine⟨this.1,?_⟩
 have h2:=this.2
 rw[List.all_eq_true]at h2⊢
 intro x hx
 exact Ds P (h2 x hx)
def Be(k r:Nat)(ops:List Oper):Bool:=iM P aE 0 k r true ops []
theorem DR{n k r:Nat}{ops:List Oper}{vals:List V}(h:Be P aE k r ops=true):iM P aE n k r true ops vals=true:=by
 unfold Be iM at h
 unfold iM
 rw[List.all_eq_true]at h⊢
 intro y hy
 have:=h y hy
 revert this
 unfold oV
 split<;>try exact id
 split<;>try exact id
 split<;>try exact id
 split<;>try exact id
 split<;>try exact id
 split<;>simp
def lk(k r:Nat)(ops:List Oper)(vals:List V)(fl:Fl)(S:List Ob)(K:List V->Fl->List Ob->Tr):Tr:=
 ob (iy P aE k r ops vals ops 0 S) fun S1=>match EI P fl ops&&Be P aE k r ops with
  |true=>gV P aE k r ops ops 0 S.length vals fl S1 K
  |false=>gV P aE k r ops ops 0 S.length vals fl S1 fun vals' fl' S'=>
   aM (mT P S1.length fl ops vals') (aM (iM P aE S.length k r true ops vals') (K vals' fl' S'))
theorem rX{k r:Nat}{ops:List Oper}{draw:Bool}{vals:List V}{fl:Fl}{S:List Ob}{K K':List V->Fl->List Ob->Tr}(hK:∀vals fl S,(K vals fl S).le (K' vals fl S)):(lk P aE k r ops vals fl S K).le (iD P aE k r ops draw vals fl S K'):=by
 unfold lk iD
 refine c8 fun S1 _=>?_
 split
 ·rename_i h
  rw[Bool.and_eq_true]at h
  refine gW P aE (fun vals' fl' S'=>?_) _ _ _ _ _ _
  rw[EJ P h.1,DR P aE h.2]
  exact hK _ _ _
 ·exact gW P aE (fun vals' fl' S'=>bm fun h1=>bm fun h2=>by rw[h1,h2];exact hK _ _ _) _ _ _ _ _ _
def IX(c:V)(x y:Tr):Tr:=
 match c with
 | .d (.b t)=>aT t x y
 |_ => .fail
theorem G5{c:V}{x y x' y':Tr}(hx:x.le x')(hy:y.le y'):(IX c x y).le (K4 c x' y'):=by
 unfold IX K4
 split
 ·rename_i t
  cases t
  ·exact hy
  ·exact hx
 ·exact aX _
def GK(K K':gg):Prop:=∀e vals fl S,(K e vals fl S).le (K' e vals fl S)
theorem tR{id:Nat}{K K':gg}(h:GK K K'):GK (jq id K) (jq id K'):=by
 intro e vals fl S
 unfold jq
 split
 ·split
  ·exact h _ _ _ _
  ·exact h _ _ _ _
 ·exact h _ _ _ _
def bW(fn:Func)(k n0:Nat):Code->List Bool->gg->List V->Fl->List Ob->Tr
 | .skip,_,K,vals,fl,S=>K none vals fl S
 | .region r ops draw,_,K,vals,fl,S=>lk P aE k r ops.toList vals fl S (K none)
 | .seq a b,path,K,vals,fl,S=>bW fn k n0 a (false::path) (fun e vals fl S=>
   match e with
   |some id=>K (some id) vals fl S
   |none=>match aE.cut k (true::path) with
    |some live => .call (.at_ k n0 (true::path) (bP live 0 vals) (mP live fl) (trimS n0 (bP live 0 vals) S)) .ret
    |none=>bW fn k n0 b (true::path) K vals fl S) vals fl S
 | .cond c a b,path,K,vals,fl,S=>ob (ev vals c) fun v=>IX v (bW fn k n0 a (false::path) K vals fl S) (bW fn k n0 b (true::path) K vals fl S)
 | .block id c,path,K,vals,fl,S=>bW fn k n0 c (false::path) (jq id K) vals fl S
 | .loop _,path,_,vals,fl,S=>wg aE k n0 path vals fl S
 | .exit id,_,K,vals,fl,S=>K (some id) vals fl S
 | .ret,_,_,vals,_,S=>fin P fn n0 vals S
 |_,_,_,_,_,_ => .fail
theorem dm{fn:Func}{k n0:Nat}:∀(c:Code) (path:List Bool) (K K':gg),GK K K'->∀vals fl S,(bW P aE fn k n0 c path K vals fl S).le (evalCode P aE fn k n0 c path K' vals fl S)
 | .skip,path,K,K',h,vals,fl,S=>by simp only[bW,evalCode];exact h _ _ _ _
 | .region r ops draw,path,K,K',h,vals,fl,S=>by simp only[bW,evalCode];exact rX P aE fun vals fl S=>h _ _ _ _
 | .seq a b,path,K,K',h,vals,fl,S=>by
  simp only[bW,evalCode]
  refine dm a _ _ _ (fun e vals fl S=>?_) _ _ _
  split
  ·exact h _ _ _ _
  ·cases hc:aE.cut k (true::path) with
   |some live=>exact Tr.le_refl _
   |none=>exact dm b _ _ _ h _ _ _
 | .cond c a b,path,K,K',h,vals,fl,S=>by
  simp only[bW,evalCode]
  exact c8 fun v _=>G5 (dm a _ _ _ h _ _ _) (dm b _ _ _ h _ _ _)
 | .block id c,path,K,K',h,vals,fl,S=>by
  simp only[bW,evalCode]
  exact dm c _ _ _ (tR h) _ _ _
 | .loop _,path,K,K',h,vals,fl,S=>by simp only[bW,evalCode];exact Tr.le_refl _
 | .exit id,path,K,K',h,vals,fl,S=>by simp only[bW,evalCode];exact h _ _ _ _
 | .ret,path,K,K',h,vals,fl,S=>by simp only[bW,evalCode];exact Tr.le_refl _
 | .rangeFunc ..,path,K,K',h,vals,fl,S=>by simp only[bW];exact aX _
 | .scope ..,path,K,K',h,vals,fl,S=>by simp only[bW];exact aX _
 | .label ..,path,K,K',h,vals,fl,S=>by simp only[bW];exact aX _
 | .goto ..,path,K,K',h,vals,fl,S=>by simp only[bW];exact aX _
 | .refuse ..,path,K,K',h,vals,fl,S=>by simp only[bW];exact aX _
def FY(fn:Func)(k n0:Nat)(b:Code)(path:List Bool)(K:gg):gg:=fun e vals fl S=>
 match e with
 |some id=>K (some id) vals fl S
 |none=>match aE.cut k (true::path) with
  |some live => .call (.at_ k n0 (true::path) (bP live 0 vals) (mP live fl) (trimS n0 (bP live 0 vals) S)) .ret
  |none=>bW P aE fn k n0 b (true::path) K vals fl S
theorem FZ{fn:Func}{k n0:Nat}{b:Code}{path:List Bool}{K K':gg}(h:GK K K'):GK (FY P aE fn k n0 b path K) (FX P aE fn k n0 b path K'):=by
 intro e vals fl S
 unfold FY FX
 split
 ·exact h _ _ _ _
 ·cases hc:aE.cut k (true::path) with
  |some live=>exact Tr.le_refl _
  |none=>exact dm P aE b _ _ _ h _ _ _
theorem yq{k n0:Nat}{path:List Bool}{K K':gg}(h:GK K K'):GK (oy aE k n0 path K) (oy aE k n0 path K'):=by
 intro e vals fl S
 unfold oy
 split
 ·exact h _ _ _ _
 ·exact Tr.le_refl _
def gQ(fn:Func)(k n0:Nat):List Bool->Code->List Bool->gg->Option (Code×List Bool×gg)
 | [],c,path,K=>some (c,path,K)
 |false::p,.seq a b,path,K=>gQ fn k n0 p a (false::path) (FY P aE fn k n0 b path K)
 |true::p,.seq _ b,path,K=>gQ fn k n0 p b (true::path) K
 |false::p,.cond _ a _,path,K=>gQ fn k n0 p a (false::path) K
 |true::p,.cond _ _ b,path,K=>gQ fn k n0 p b (true::path) K
 |false::p,.block id c,path,K=>gQ fn k n0 p c (false::path) (jq id K)
 |false::p,.loop c,path,K=>gQ fn k n0 p c (false::path) (oy aE k n0 path K)
 |_,_,_,_=>none
theorem fQ{fn:Func}{k n0:Nat}:∀(p:List Bool) (c:Code) (path:List Bool) (K K':gg),GK K K'->∀x q J,gQ P aE fn k n0 p c path K=some (x,q,J)->∃J',gK P aE fn k n0 p c path K'=some (x,q,J')/\GK J J'
 | [],c,path,K,K',h,x,q,J,e=>by
  simp only[gQ,Option.some.injEq,Prod.mk.injEq]at e
  obtain⟨rfl,rfl,rfl⟩:=e
  exact⟨K',rfl,h⟩
 |t::p,c,path,K,K',h,x,q,J,e=>by
  cases t<;>cases c<;>simp only[gQ]at e<;>first|(cases e;done)|simp only[gK]
  ·exact fQ p _ _ _ _ (FZ P aE h) _ _ _ e
  ·exact fQ p _ _ _ _ h _ _ _ e
  ·exact fQ p _ _ _ _ (tR h) _ _ _ e
  ·exact fQ p _ _ _ _ (yq aE h) _ _ _ e
  ·exact fQ p _ _ _ _ h _ _ _ e
  ·exact fQ p _ _ _ _ h _ _ _ e
def F9(fn:Func)(k:Nat)(args:List V)(S:List Ob):Tr:=
 ob fn.body fun c=>aM (decide (args.length<=fn.ntmps)&&bg S.length args)
  (bW P aE fn k S.length c [] (qB P fn S.length) (args++List.replicate (fn.ntmps-args.length) .u) [] S)
def F7(fn:Func)(k n0:Nat)(path:List Bool)(vals:List V)(fl:Fl)(S:List Ob):Tr:=
 ob fn.body fun c=>ob (gQ P aE fn k n0 path.reverse c [] (qB P fn n0)) fun l=>match l with
  |(.loop b,p,K)=>bW P aE fn k n0 b (false::p) (oy aE k n0 p K) vals fl S
  |(x,p,K)=>bW P aE fn k n0 x p K vals fl S
def mI:Task->Tr
 | .call k args S=>match aE.ext k with
  |some f=>ob (f args S) .ret
  |none=>ob P.funcs[k]? fun fn=>F9 P aE fn k args S
 | .at_ k n0 path vals fl S=>ob P.funcs[k]? fun fn=>F7 P aE fn k n0 path vals fl S
theorem Ga(t:Task):(mI P aE t).le (step P aE t):=by
 cases t with
 |call k args S=>
  simp only[mI,step]
  cases he:aE.ext k with
  |some g=>exact Tr.le_refl _
  |none=>
   refine c8 fun fn _=>?_
   unfold F9 F8
   refine c8 fun c _=>bm fun h=>?_
   rw[h]
   exact dm P aE c _ _ _ (fun _ _ _ _=>Tr.le_refl _) _ _ _
 |at_ k n0 path vals fl S=>
  simp only[mI,step]
  refine c8 fun fn _=>?_
  unfold F7 F6
  refine c8 fun c _=>?_
  refine bR fun l hl=>?_
  obtain⟨x,p,K⟩:=l
  obtain⟨J',e1,e2⟩:=fQ P aE _ _ _ _ _ (fun _ _ _ _=>Tr.le_refl _) _ _ _ hl
  rw[e1]
  simp only[ob]
  split
  ·rename_i hx
   cases hx
   exact dm P aE _ _ _ _ (yq aE e2) _ _ _
  ·rename_i hne hx
   cases hx
   split
   ·rename_i b' p' K'' hy
    cases hy
    exact(hne _ rfl).elim
   ·rename_i hy
    cases hy
    exact dm P aE _ _ _ _ e2 _ _ _
def DE:Nat->Task->Option Out
 |0,_=>none
 |n+1,t=>aC (DE n) (mI P aE t)
theorem y5:∀(n:Nat) (t:Task) (o:Out),DE P aE n t=some o->runN P aE n t=some o
 |0,_,_,h=>by simp[DE]at h
 |n+1,t,o,h=>Ga P aE t _ _ (fW (y5 n) _ _ h)
open Classical in
noncomputable def rk(t:Task):Option Out:=if h:∃r n,DE P aE n t=some r then some h.choose else none
end
section
variable {P : Program} {aE : Pol}
theorem y4:∀(n:Nat) (t:Task) (r:Out),DE P aE n t=some r->DE P aE (n+1) t=some r
 |0,_,_,e=>by simp[DE]at e
 |n+1,t,r,e=>fW (y4 n) _ r e
theorem wP{n m:Nat}(h:n<=m)(t:Task)(r:Out)(e:DE P aE n t=some r):DE P aE m t=some r:=by
 induction h with
 |refl=>exact e
 |step _ ih=>exact y4 _ t r ih
theorem oO{t:Task}{r:Out}:rk P aE t=some r↔∃n,DE P aE n t=some r:=by
 constructor
 ·intro h
  unfold rk at h
  split at h
  ·rename_i hx
   obtain⟨n,hn⟩:=hx.choose_spec
   injection h with h
   exact⟨n,h▸hn⟩
  ·simp at h
 ·rintro⟨n,hn⟩
  have hx:∃r n,DE P aE n t=some r:=⟨r,n,hn⟩
  unfold rk
  rw[dif_pos hx]
  obtain⟨m,hm⟩:=hx.choose_spec
  have h1:=wP (Nat.le_max_left n m) t r hn
  have h2:=wP (Nat.le_max_right n m) t _ hm
  rw[h1]at h2
  exact h2.symm
theorem uH:∀(x:Tr) (r:Out),aC (rk P aE) x=some r->∃n,aC (DE P aE n) x=some r
 | .ret _,_,e=>⟨0,e⟩
 | .fail,_,e=>by simp[aC]at e
 | .call t k,r,e=>by
  simp only[aC]at e
  cases hf:rk P aE t with
  |none=>rw[hf]at e;simp at e
  |some o=>
   rw[hf]at e
   obtain⟨n,hn⟩:=oO.1 hf
   obtain⟨m,hm⟩:=uH (k o) r e
   refine⟨max n m,?_⟩
   simp only[aC,wP (Nat.le_max_left n m) t o hn]
   exact fW (fun t r h=>wP (Nat.le_max_right n m) t r h) _ r hm
theorem y6(t:Task):rk P aE t=aC (rk P aE) (mI P aE t):=by
 apply Option.ext
 intro r
 constructor
 ·intro h
  obtain⟨n,hn⟩:=oO.1 h
  cases n with
  |zero=>simp[DE]at hn
  |succ n=>exact fW (fun t r h=>oO.2 ⟨n,h⟩) _ r hn
 ·intro h
  obtain⟨n,hn⟩:=uH _ r h
  exact oO.2 ⟨n+1,hn⟩
theorem iK{t:Task}{o:Out}(h:rk P aE t=some o):run P aE t=some o:=by
 obtain⟨n,hn⟩:=oO.1 h
 exact zg.2 ⟨n,y5 P aE n t o hn⟩
theorem aF{t:Task}{T:Tr}(h:mI P aE t=T):rk P aE t=aC (rk P aE) T:=by rw[y6,h]
end
end Go.Dn
namespace Go.Dn
set_option linter.unusedVariables false
def sv(n:Nat)(l:List (Nat×V)):List V:=(List.range n).map fun i=>(l.lookup i).getD .u
section
variable {f : Task → Option Out}
@[simp] theorem aD(o:Out):aC f (.ret o)=some o:=rfl
@[simp] theorem It:aC f .fail=none:=rfl
@[simp] theorem bJ{α:Type}(x:Option α)(K:α->Tr):aC f (ob x K)=x.bind fun a=>aC f (K a):=aV f x K
@[simp] theorem aR(c:Bool)(x:Tr):aC f (aM c x)=if c=true then aC f x else none:=bA f c x
@[simp] theorem aP(c:Bool)(x y:Tr):aC f (aT c x y)=if c=true then aC f x else aC f y:=by cases c<;>rfl
@[simp] theorem aZ(t:Task)(K:Out->Tr):aC f (.call t K)=(f t).bind fun o=>aC f (K o):=ee f t K
@[simp] theorem aA(t:Task):aC f (.call t .ret)=f t:=by
 rw[ee];cases f t<;>rfl
@[simp] theorem bl(k j:IntKind)(n:Int)(K:Int->Tr):aC f (bD k (.i j n) K)=if j=k then aC f (K n)else none:=by
 simp only[bD,bA,beq_iff_eq]
@[simp] theorem nU(b:Bool)(K:Bool->Tr):dQ (.b b) K=K b:=rfl
@[simp] theorem fU(b:List UInt8)(K:List UInt8->Tr):fF (.s b) K=K b:=rfl
@[simp] theorem ed(f:Bool)(xs:List D)(K:Bool->List D->Tr):dZ (.l f xs) K=K f xs:=rfl
@[simp] theorem bj(d:D)(K:D->Tr):aW (.d d) K=K d:=rfl
@[simp] theorem o7(vs:List V)(K:List V->Tr):dY (.t vs) K=K vs:=rfl
@[simp] theorem gF(b:Ob)(bs:List Ob)(K:Ob->List Ob->Tr):gE (b::bs) K=K b bs:=rfl
@[simp] theorem iv(K:Tr):jZ [] K=K:=rfl
@[simp] theorem fp(cs:List V)(fl:Fl)(K:List V->Fl->Tr):fk (.cells cs fl) K=K cs fl:=rfl
@[simp] theorem La(es:List (D×D))(K:List (D×D)->Tr):Gv (.map es) K=K es:=rfl
@[simp] theorem KU(s:List UInt8)(n:Nat)(K:List UInt8->Nat->Tr):Bq (.iter s n) K=K s n:=rfl
theorem AB(cs:List V)(len:Nat)(K:List V->Nat->Tr):aC f (J3 (.m 0 0 len,[.cells cs []]) K)=if bg 0 cs=true then aC f (K cs len)else none:=by
 simp only[J3,bA]
@[simp] theorem sn(n:Nat)(cs:List D)(K:List D->Tr):aC f (xj n (.g cs) K)=if cs.length=n then aC f (K cs)else none:=by
 simp only[xj,bA,beq_iff_eq]
end
@[simp] theorem bp{α:Type}(l:List α)(n:Nat):bh l (n:Int)=l[n]?:=by simp[bh]
@[simp] theorem l7{α:Type}(l:List α):bh l 0=l[0]?:=by simp[bh]
@[simp] theorem Lb(b:Bool):(D.b b).width=1:=rfl
@[simp] theorem iw(k:IntKind)(n:Int):(D.i k n).width=1:=rfl
@[simp] theorem Lf(x:List UInt8):(D.s x).width=1:=rfl
@[simp] theorem Ld(f:Bool)(xs:List D):(D.l f xs).width=1:=rfl
@[simp] theorem Lc(cs:List D):(D.g cs).width=cs.length:=rfl
@[simp] theorem KZ(b:Bool):(D.b b).cells=[.b b]:=rfl
@[simp] theorem ik(k:IntKind)(n:Int):(D.i k n).cells=[.i k n]:=rfl
@[simp] theorem K3(x:List UInt8):(D.s x).cells=[.s x]:=rfl
@[simp] theorem K2(f:Bool)(xs:List D):(D.l f xs).cells=[.l f xs]:=rfl
@[simp] theorem K0(cs:List D):(D.g cs).cells=cs:=rfl
@[simp] theorem cC(k:IntKind)(zs:List Int):(ints k zs).length=zs.length:=gZ k zs
@[simp] theorem dC(k:IntKind)(zs:List Int)(i:Nat):(ints k zs)[i]?=zs[i]?.map (.i k):=by simp[ints]
@[simp] theorem av(k:IntKind)(zs:List Int):bw 1 (ints k zs)=true:=by
 cases zs<;>simp[ints,bw]
@[simp] theorem Aw(n:Nat):bw n []=true:=rfl
@[simp] theorem Ir(n:Nat)(x:D)(xs:List D):bw n (x::xs)=(x.width==n):=rfl
theorem uI(k:IntKind)(z:Int)(zs:List Int):ints k (z::zs) = .i k z::ints k zs:=rfl
theorem fX(k:IntKind)(a:List Int)(z:Int):ints k a++[.i k z]=ints k (a++[z]):=by simp[ints]
theorem jU(k:IntKind)(a:List Int)(n:Nat):(ints k a).take n=ints k (a.take n):=by simp[ints]
@[simp] theorem Ix(k:IntKind)(zs:List Int):gM (ints k zs)=true:=by
 simp[gM,ints,D.cells,V.one]
@[simp] theorem JB:gM []=true:=rfl
@[simp] theorem Iw(x:D)(xs:List D):gM (x::xs)=((x.cells.all fun c=>(V.d c).one)&&gM xs):=by simp[gM]
@[simp] theorem Mg(b:Bool):(V.d (.b b)).one=true:=rfl
@[simp] theorem Mh(k:IntKind)(n:Int):(V.d (.i k n)).one=true:=rfl
@[simp] theorem Mj(x:List UInt8):(V.d (.s x)).one=true:=rfl
@[simp] theorem Mi(f:Bool)(xs:List D):(V.d (.l f xs)).one=true:=rfl
theorem wrap_i64{n:Int}(h1:-9223372036854775808<=n)(h2:n<=9223372036854775807):IntKind.i64.wrap n=n:=by
 have e:((2:Int)^IntKind.i64.bits)=18446744073709551616:=by decide
 have e2:((2:Int)^(IntKind.i64.bits-1))=9223372036854775808:=by decide
 simp only[IntKind.wrap,IntKind.signed,Bool.true_and,decide_eq_true_eq,e,e2]
 split<;>omega
theorem wrap_u8{n:Int}(h1:0<=n)(h2:n<256):IntKind.u8.wrap n=n:=by
 have e:((2:Int)^IntKind.u8.bits)=256:=by decide
 simp only[IntKind.wrap,IntKind.signed,Bool.false_and,e]
 simp;omega
end Go.Dn
namespace Go.Dn
section
variable {f : Task → Option Out}
theorem cE{t:Task}{o:Out}{K:Out->Tr}(h:f t=some o):aC f (.call t K)=aC f (K o):=by rw[ee,h];rfl
theorem bB{t:Task}{o:Out}(h:f t=some o):aC f (.call t .ret)=some o:=by rw[cE h];rfl
theorem dh{t:Task}{b:Bool}{K:Bool->Tr}(h:f t=some (.d (.b b),[])):
  aC f (.call t fun o=>aM o.snd.isEmpty (aW o.fst fun d=>dQ d fun x=>K x))=aC f (K b):=cE h
theorem iZ{t:Task}{s:List UInt8}{K:List UInt8->Tr}(h:f t=some (.d (.s s),[])):
  aC f (.call t fun o=>aM o.snd.isEmpty (aW o.fst fun d=>fF d fun x=>K x))=aC f (K s):=cE h
theorem di{t:Task}{b:Bool}{l:List D}{K:Bool->List D->Tr}(h:f t=some (.d (.l b l),[])):
  aC f (.call t fun o=>aM o.snd.isEmpty (aW o.fst fun d=>dZ d fun x y=>K x y))=aC f (K b l):=cE h
theorem de{t:Task}{k:IntKind}{n:Int}{K:Int->Tr}(h:f t=some (.d (.i k n),[])):
  aC f (.call t fun o=>aM o.snd.isEmpty (aW o.fst fun d=>bD k d fun x=>K x))=aC f (K n):=by
 rw[cE h]
 show aC f (bD k (.i k n) K)=_
 rw[bl,if_pos rfl]
theorem qG{t:Task}{k j:IntKind}{n m:Int}{e e':V}{K:Int->Int->Tr}(h:f t=some (.t [.d (.i k n),.d (.i j m)],[])):
  aC f (.call t fun o=>aM o.snd.isEmpty (dY o.fst fun l=>aM (l.length==2) (aW (l.getD 0 e) fun d=>bD k d fun x=>aW (l.getD 1 e') fun d'=>bD j d' fun y=>K x y)))=aC f (K n m):=by
 rw[cE h]
 show aC f (bD k (.i k n) fun x=>bD j (.i j m) fun y=>K x y)=_
 rw[bl,if_pos rfl,bl,if_pos rfl]
theorem vC{t:Task}{k:IntKind}{n:Int}{b:Bool}{e e':V}{K:Int->Bool->Tr}(h:f t=some (.t [.d (.i k n),.d (.b b)],[])):
  aC f (.call t fun o=>aM o.snd.isEmpty (dY o.fst fun l=>aM (l.length==2) (aW (l.getD 0 e) fun d=>bD k d fun x=>aW (l.getD 1 e') fun d'=>dQ d' fun y=>K x y)))=aC f (K n b):=by
 rw[cE h]
 show aC f (bD k (.i k n) fun x=>dQ (.b b) fun y=>K x y)=_
 rw[bl,if_pos rfl];rfl
theorem aH{c:Prop}[Decidable c]{X:Tr}(h:c):aC f (aM (decide c) X)=aC f X:=by rw[aR,decide_eq_true h,if_pos rfl]
theorem ba{X:Tr}:aC f (aM true X)=aC f X:=by rw[aR,if_pos rfl]
theorem bf{c:Prop}[Decidable c]{X Y:Tr}(h:c):aC f (aT (decide c) X Y)=aC f X:=by rw[aP,decide_eq_true h,if_pos rfl]
theorem bc{c:Prop}[Decidable c]{X Y:Tr}(h:¬c):aC f (aT (decide c) X Y)=aC f Y:=by rw[aP,decide_eq_false h,if_neg (by decide)]
theorem da{b:Bool}{X Y:Tr}(h:b=true):aC f (aT b X Y)=aC f X:=by rw[aP,h,if_pos rfl]
theorem cj{b:Bool}{X Y:Tr}(h:b=false):aC f (aT b X Y)=aC f Y:=by rw[aP,h,if_neg (by decide)]
theorem bk{X Y:Tr}:aC f (aT true X Y)=aC f X:=rfl
theorem aY{X Y:Tr}:aC f (aT false X Y)=aC f Y:=rfl
theorem jP{X Y:Tr}:aC f (aT (!true) X Y)=aC f Y:=rfl
theorem iL{X Y:Tr}:aC f (aT (!false) X Y)=aC f X:=rfl
theorem cm{n m:Int}{X Y:Tr}(h:n=m):aC f (aT (n==m) X Y)=aC f X:=da (beq_iff_eq.2 h)
theorem bO{n m:Int}{X Y:Tr}(h:n≠m):aC f (aT (n==m) X Y)=aC f Y:=cj (beq_eq_false_iff_ne.2 h)
theorem jl{n m:Int}{X Y:Tr}(h:n≠m):aC f (aT (n != m) X Y)=aC f X:=da (bne_iff_ne.2 h)
theorem eM{n m:Int}{X Y:Tr}(h:n=m):aC f (aT (n != m) X Y)=aC f Y:=cj (by rw[h];exact bne_self_eq_false m)
theorem aJ{α:Type}{x:Option α}{a:α}{K:α->Tr}(h:x=some a):aC f (ob x K)=aC f (K a):=by rw[bJ,h];rfl
end
end Go.Dn
namespace Go.Dn
section
variable {f : Task → Option Out}
theorem bL{k:IntKind}{n:Int}{K:Int->Tr}:aC f (bD k (.i k n) K)=aC f (K n):=by rw[bl,if_pos rfl]
theorem cr{t:Task}{k:IntKind}{n:Int}{cs:List V}{fl fl':Fl}{m:Nat}{K:List V->Int->Tr}(h:f t=some (.d (.i k n),[.cells cs fl]))(hm:cs.length=m)(hf:(fl==fl')=true):
  aC f (.call t fun o=>gE o.snd fun x l2=>fk x fun c g=>aM (c.length==m) (aM (g==fl') (jZ l2 (aW o.fst fun d=>bD k d fun y=>K c y))))=aC f (K cs n):=by
 rw[cE h]
 show aC f (aM (cs.length==m) (aM (fl==fl') (bD k (.i k n) fun y=>K cs y)))=_
 rw[hm,beq_self_eq_true,ba,hf,ba,bl,if_pos rfl]
theorem gB{t:Task}{b:Bool}{cs:List V}{fl fl':Fl}{m:Nat}{K:List V->Bool->Tr}(h:f t=some (.d (.b b),[.cells cs fl]))(hm:cs.length=m)(hf:(fl==fl')=true):
  aC f (.call t fun o=>gE o.snd fun x l2=>fk x fun c g=>aM (c.length==m) (aM (g==fl') (jZ l2 (aW o.fst fun d=>dQ d fun y=>K c y))))=aC f (K cs b):=by
 rw[cE h]
 show aC f (aM (cs.length==m) (aM (fl==fl') (K cs b)))=_
 rw[hm,beq_self_eq_true,ba,hf,ba]
theorem dz{t:Task}{cs:List V}{fl fl':Fl}{m:Nat}{K:List V->Tr}(h:f t=some (.t [],[.cells cs fl]))(hm:cs.length=m)(hf:(fl==fl')=true):
  aC f (.call t fun o=>gE o.snd fun x l2=>fk x fun c g=>aM (c.length==m) (aM (g==fl') (jZ l2 (dY o.fst fun v=>aM (v.length==0) (K c)))))=aC f (K cs):=by
 rw[cE h]
 show aC f (aM (cs.length==m) (aM (fl==fl') (aM true (K cs))))=_
 rw[hm,beq_self_eq_true,ba,hf,ba,ba]
end
end Go.Dn
namespace Go.Dn
abbrev vi(n:Int):V := .d (.i .i64 n)
abbrev vu(n:Int):V := .d (.i .u64 n)
abbrev vs(s:List UInt8):V := .d (.s s)
abbrev vl(b:Bool)(l:List D):V := .d (.l b l)
abbrev vb(b:Bool):V := .d (.b b)
abbrev gD(w k:Nat)(d:D)(j:Nat):D:=(List.take w (List.drop k d.cells)).getD j (D.b false)
abbrev eL(l:List D)(n:Int)(w:Nat)(K:D->Tr):Tr:=ob (bh l n) fun d=>aM (d.width==w) (ob l[n.toNat]? fun e=>aM (decide (w<=e.width)) (K e))
abbrev eC(l:List D)(n:Int)(w j:Nat)(K:D->Tr):Tr:=ob (bh l n) fun d=>aM (d.width==w) (ob l[n.toNat]? fun e=>ob e.cells[j]? K)
abbrev cV(t:Task)(K:V->Tr):Tr := .call t fun o=>aM o.snd.isEmpty (K o.fst)
abbrev aS(v:V)(K:List UInt8->Tr):Tr:=aW v fun d=>fF d K
abbrev aB(v:V)(K:Bool->Tr):Tr:=aW v fun d=>dQ d K
abbrev aI(v:V)(K:Int->Tr):Tr:=aW v fun d=>bD .i64 d K
abbrev aU(v:V)(K:Int->Tr):Tr:=aW v fun d=>bD .u64 d K
abbrev aL(v:V)(K:Bool->List D->Tr):Tr:=aW v fun d=>dZ d K
abbrev c1(t:Task)(n:Nat)(fl:Fl)(K:V->List V->Tr):Tr := .call t fun o=>gE o.snd fun x l=>fk x fun c g=>aM (c.length==n) (aM (g==fl) (jZ l (K o.fst c)))
abbrev c2(t:Task)(n:Nat)(fl:Fl)(m:Nat)(fm:Fl)(K:V->List V->List V->Tr):Tr:=
 .call t fun o=>gE o.snd fun x l=>fk x fun c g=>aM (c.length==n) (aM (g==fl) (gE l fun y k=>fk y fun d h=>aM (d.length==m) (aM (h==fm) (jZ k (K o.fst c d)))))
end Go.Dn
namespace Go.Dn
set_option linter.unusedVariables false
def I1:Loc->Loc
 | .obj 1 => .obj 0
 |_ => .ext
def tj:Loc->Loc
 | .obj _ => .obj 1
 | .cell _ off => .cell 1 off
 |ℓ=>ℓ
def qR(G:Sg):Sg:=⟨G.F,fun b=>(G.own b).map I1⟩
open Classical in
noncomputable def GI(G A:Sg):Sg:=⟨A.F,fun b=>if (qR G).own b=some .ext then G.own b else(A.own b).map tj⟩
section
variable {P : Program} {aE : Pol}
theorem lg{G:Sg}{b id:Nat}:(qR G).own b=some (.obj id)↔G.own b=some (.obj 1)/\id=0:=by
 simp only[qR]
 cases h:G.own b with
 |none=>simp
 |some ℓ=>
  cases ℓ with
  |obj i=>
   by_cases hi:i=1
   ·subst hi;simp[I1];exact eq_comm
   ·have:I1 (.obj i) = .ext:=by
     unfold I1
     split
     ·rename_i e;injection e with e;exact absurd e hi
     ·rfl
    simp[this,hi]
  |_=>simp[I1]
theorem Aj{G:Sg}{b:Nat}{ℓ:Loc}(h:G.own b=some ℓ)(hn:ℓ ≠ .obj 1):(qR G).own b=some .ext:=by
 simp only[qR,h,Option.map_some]
 congr 1
 unfold I1
 split
 ·exact absurd rfl hn
 ·rfl
theorem BH{G:Sg}{b:Nat}{ℓ:Loc}(h:(qR G).own b=some ℓ):∃ℓ',G.own b=some ℓ':=by
 simp only[qR]at h
 cases h':G.own b with
 |none=>rw[h']at h;simp at h
 |some ℓ'=>exact⟨_,rfl⟩
theorem EH{G:Sg}{b:Nat}{ℓ:Loc}(h:(qR G).own b=some ℓ):ℓ = .ext\/ℓ = .obj 0:=by
 simp only[qR]at h
 obtain⟨ℓ',_,rfl⟩:=Option.map_eq_some_iff.1 h
 unfold I1
 split
 ·exact .inr rfl
 ·exact .inl rfl
theorem bQ.up{k:Nat}{args:List V}{cs cs':List V}{v:V}{x:Ob}(h:bQ P k (.p 0 0::args) [.cells cs []] (v,[.cells cs' []]))(ha:bg 0 args=true)(hc:bg 0 cs=true)(hc':bg 0 cs'=true)(hv:bz 0 v=true):
  bQ P k (.p 1 0::args) [.cells cs [],x] (v,[.cells cs' [],x]):=by
 intro w G vs hI hr hsl
 have hIA:Inv w (qR G) [.cells cs []]:=by
  refine⟨hI.fz,fun b id h=>?_,fun b b' id h h'=>?_,fun b ℓ h=>?_,fun b id o h=>?_,fun id cs0 fl h=>?_,hI.tb_of fun b _ h0=>⟨rfl,by simp[qR,h0]⟩⟩
  ·obtain⟨hg,e0⟩:=lg.1 h
   subst e0
   obtain⟨h1,o,go,h2,h3,h4⟩:=hI.ob b 1 hg
   have:o = .cells cs []:=by simpa[bE]using h2.symm
   subst this
   refine⟨h1,_,go,rfl,h3,?_⟩
   cases go<;>simp only[fA]at h4⊢
   obtain⟨p1,p2,p3⟩:=h4
   refine⟨p1,fun o c hcc=>?_,fun o sz hm=>by simp at hm⟩
   obtain⟨y,hy,hry,hf,ho⟩:=p2 o c hcc
   exact⟨y,hy,RV.lift (A:=G) (B:=qR G) (n:=0) (fun _ _ _ h=>h) (fun b i hi _=>by omega) c y (cp.1 hc c (List.mem_of_getElem? hcc)) hry,hf,ho⟩
  ·exact hI.inj _ _ _ (lg.1 h).1 (lg.1 h').1
  ·obtain⟨ℓ',h'⟩:=BH h;exact hI.tk _ _ h'
  ·rcases EH h with e|e<;>cases e
  ·have:id=0:=by have:=cA h;simpa using this
   subst this
   simp[bE]at h
   obtain⟨rfl,rfl⟩:=h
   exact cq (by omega) _ hc
 have hrA:cK (qR G) (.p 0 0::args) vs.toList:=by
  simp only[cK]at hr⊢
  obtain⟨y,r,e,h1,h2⟩:=hr
  refine⟨y,r,e,?_,cK.lift (A:=G) (B:=qR G) (n:=0) (fun _ _ _ h=>h) (fun b i hi _=>by omega) _ _ ha h2⟩
  simp only[RV]at h1⊢
  obtain⟨blk,ho,e⟩:=h1
  exact⟨blk,lg.2 ⟨ho,rfl⟩,e⟩
 refine(h w (qR G) vs hIA hrA fun b q h=>by rcases EH h with e|e<;>cases e).mono ?_
 rintro y w' ⟨A,hy,hA,hE⟩
 have hidK:∀b,(qR G).own b=some .ext->A.own b=some .ext/\w'.heap[b]?=w.heap[b]?/\(∀o,A.F b o=G.F b o)/\(GI G A).own b=G.own b:=by
  intro b hb
  obtain⟨ℓ,hℓ⟩:=BH hb
  obtain⟨h1,h2,h3⟩:=hE.keep b (hI.tk _ _ hℓ) (.inr hb)
  exact⟨by rw[h1];exact hb,h2,h3,by simp only[GI];rw[if_pos hb]⟩
 have seen:∀b,(qR G).own b≠some .ext->(GI G A).own b=(A.own b).map tj:=by
  intro b hb;simp only[GI];rw[if_neg hb]
 have seen':∀b ℓ,A.own b=some ℓ->ℓ ≠ .ext->(GI G A).own b=some (tj ℓ):=by
  intro b ℓ h1 h2
  rw[seen b fun hb=>h2 (by have:=(hidK b hb).1;rw[h1]at this;exact Option.some.inj this),h1];rfl
 have hobj:∀b id,(GI G A).own b=some (.obj id)->((qR G).own b=some .ext/\G.own b=some (.obj id)/\id=0)\/(A.own b=some (.obj 0)/\id=1/\(qR G).own b≠some .ext):=by
  intro b id h
  by_cases hb:(qR G).own b=some .ext
  ·rw[(hidK b hb).2.2.2]at h
   obtain⟨_,o,_,ho,_⟩:=hI.ob _ _ h
   have hlt:=cA ho
   simp only[List.length_cons,List.length_nil]at hlt
   have:id≠1:=by
    rintro rfl
    rw[lg.2 ⟨h,rfl⟩]at hb;cases hb
   exact .inl ⟨hb,h,by omega⟩
  ·rw[seen b hb]at h
   obtain⟨ℓ,h1,h2⟩:=Option.map_eq_some_iff.1 h
   cases ℓ with
   |obj i=>
    simp only[tj]at h2
    injection h2 with h2
    obtain⟨_,o,_,ho,_⟩:=hA.ob _ _ h1
    have hlt:=cA ho
    simp only[List.length_cons,List.length_nil]at hlt
    have:i=0:=by omega
    subst this
    exact .inr ⟨h1,h2.symm,hb⟩
   |cell i o=>simp only[tj]at h2;cases h2
   |slot q=>simp only[tj]at h2;cases h2
   |ext=>simp only[tj]at h2;cases h2
 have hle:Le G (GI G A):=by
  refine⟨hE.F,fun b id h=>?_⟩
  by_cases hid:id=1
  ·subst hid
   rw[seen' b _ (hE.obj _ _ (lg.2 ⟨h,rfl⟩)) (by simp)];rfl
  ·rw[(hidK b (Aj h (by simp[hid]))).2.2.2];exact h
 have hlift:∀z u,bz 0 z=true->RV A z u->RV (GI G A) z u:=fun z u hz hu=>RV.lift (A:=A) (B:=GI G A) (n:=0) (fun _ _ _ h=>h) (fun b i hi _=>by omega) z u hz hu
 refine⟨GI G A,hlift _ _ hv hy,⟨hA.fz,fun b id h=>?_,fun b b' id h h'=>?_,fun b ℓ h=>?_,fun b id o h=>?_,fun id cs0 fl h=>?_,fun b arr hb=>⟨(hA.tb b arr hb).1,?_⟩⟩,⟨hE.os,hE.tape,hE.output,hE.size,hE.F,hle.obj,fun b hb h=>?_,fun b id h hid=>?_,fun id hid hn=>?_,Nat.le_refl _⟩⟩
 ·rcases hobj b id h with⟨h1,h2,rfl⟩|⟨h1,rfl,_⟩
  ·obtain⟨k1,k2,k3,k4⟩:=hidK b h1
   obtain⟨p1,o,go,p2,p3,p4⟩:=hI.ob _ _ h2
   refine⟨fun o=>(k3 o).trans (p1 o),o,go,p2,by rw[k2];exact p3,p4.same hle fun off blk hk=>?_⟩
   obtain⟨j1,j2,j3,j4⟩:=hidK blk (Aj hk (by simp))
   exact⟨by rw[j4];exact hk,j2,j3⟩
  ·obtain⟨p1,o,go,p2,p3,p4⟩:=hA.ob _ _ h1
   have:o = .cells cs' []:=by simpa[bE]using p2.symm
   subst this
   refine⟨p1,_,go,rfl,p3,?_⟩
   cases go<;>simp only[fA]at p4⊢
   obtain⟨q1,q2,q3⟩:=p4
   refine⟨q1,fun o c hcc=>?_,fun o sz hm=>by simp at hm⟩
   obtain⟨u,hu,hru,hf,ho⟩:=q2 o c hcc
   exact⟨u,hu,hlift c u (cp.1 hc' c (List.mem_of_getElem? hcc)) hru,hf,ho⟩
 ·rcases hobj b id h with⟨h1,h2,h3⟩|⟨h1,h2,_⟩<;>rcases hobj b' id h' with⟨k1,k2,k3⟩|⟨k1,k2,_⟩
  ·exact hI.inj _ _ _ h2 k2
  ·omega
  ·omega
  ·exact hA.inj _ _ _ h1 k1
 ·by_cases hb:(qR G).own b=some .ext
  ·rw[(hidK b hb).2.2.2]at h
   exact Nat.lt_of_lt_of_le (hI.tk _ _ h) hE.size
  ·rw[seen b hb]at h
   obtain⟨ℓ',h1,_⟩:=Option.map_eq_some_iff.1 h
   exact hA.tk _ _ h1
 ·by_cases hb:(qR G).own b=some .ext
  ·rw[(hidK b hb).2.2.2]at h
   exact hI.cl _ _ _ h
  ·rw[seen b hb]at h
   obtain⟨ℓ',h1,h2⟩:=Option.map_eq_some_iff.1 h
   cases ℓ' with
   |obj i=>simp only[tj]at h2;cases h2
   |cell i o'=>simp only[tj]at h2;injection h2 with h2 _;subst h2;simp
   |slot q=>simp only[tj]at h2;cases h2
   |ext=>simp only[tj]at h2;cases h2
 ·have hlt:=cA h
  simp only[List.length_cons,List.length_nil]at hlt
  rcases(by omega:id=0\/id=1)with rfl|rfl
  ·exact hI.rf 0 cs0 fl (by simpa[bE]using h)
  ·simp[bE]at h
   obtain⟨rfl,rfl⟩:=h
   exact cq (by omega) _ hc'
 ·have h0:=hI.tb b arr hb
  have h1:=hA.tb b arr hb
  rw[seen b (by simp[qR,h0.2]),h1.2];rfl
 ·rcases h with h|h
  ·have hd:(qR G).own b=none:=by simp[qR,h]
   obtain⟨k1,k2,k3⟩:=hE.keep b hb (.inl hd)
   exact⟨by rw[seen b (by rw[hd];simp),k1,hd,h];rfl,k2,k3⟩
  ·have hd:=Aj h (by simp)
   obtain⟨k1,k2,k3,k4⟩:=hidK b hd
   exact⟨k4,k2,k3⟩
 ·rcases hobj b id h with⟨h1,h2,_⟩|⟨h1,rfl,_⟩
  ·exact h2
  ·exact(lg.1 (hE.newo b 0 h1 (by simp))).1
 ·simp only[List.length_cons,List.length_nil]at hid
  rcases(by omega:id=0\/id=1)with rfl|rfl
  ·simp[bE]
  ·have:=hE.ph 0 (by simp) fun b hb=>hn b (lg.1 hb).1
   simpa[bE]using this
noncomputable def vL(P:Program)(aE:Pol)(k:Nat)(args:List V)(S:List Ob):Option Out:=
 match args,S with
 | .p 1 0::as,[.cells cs [],x]=>if bg 0 as=true/\bg 0 cs=true then
   (match run P aE (.call k (.p 0 0::as) [.cells cs []]) with
   |some (v,[.cells cs' []])=>if bg 0 cs'=true/\bz 0 v=true then some (v,[.cells cs' [],x])else none
   |_=>none)else none
 |as,S=>run P aE (.call k as S)
theorem Br(hg:ja P (run P aE)){k:Nat}{args:List V}{S:List Ob}{o:Out}(h:vL P aE k args S=some o):bQ P k args S o:=by
 unfold vL at h
 split at h
 ·rename_i as cs x
  split at h
  ·rename_i hc
   split at h
   ·rename_i v cs' hr
    split at h
    ·rename_i hc2
     injection h with h;subst h
     exact(hg _ _ _ _ hr).up hc.1 hc.2 hc2.1 hc2.2
    ·cases h
   ·cases h
  ·cases h
 ·exact hg _ _ _ _ h
end
end Go.Dn
