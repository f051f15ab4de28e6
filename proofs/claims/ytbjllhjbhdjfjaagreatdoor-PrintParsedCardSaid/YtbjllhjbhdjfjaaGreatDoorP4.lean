/- The evaluator again, in the form in which it is read: what is behind an operation stands inside, values bear their kinds; it answers less often, and never otherwise. -/
import Derived.KernelRfl
import Derived.Test.YtbjllhjbhdjfjaaGreatDoorP1
import Derived.Test.YtbjllhjbhdjfjaaGreatDoorP3
set_option linter.unusedVariables false
set_option linter.unusedSimpArgs false
set_option linter.unusedSectionVars false
namespace Go.Dn
open Go.IntKind (i64 u64 u8 u16 i32 u32)
def Tr.le(a b:Tr):Prop:=∀(f:Task->Option Out) (o:Out),aC f a=some o->aC f b=some o
theorem Tr.le_refl(a:Tr):a.le a:=λ _ _ h=>h
theorem Tr.le_trans{a b c:Tr}(h:a.le b)(k:b.le c):a.le c:=λ f o e=>k f o (h f o e)
theorem bB(a:Tr):Tr.fail.le a:=λ f o h=>by simp[aC]at h
theorem eg{α:Type}{x:Option α}{K K':α->Tr}(h:∀a,x=some a->(K a).le (K' a)):(ob x K).le (ob x K'):=by
 cases x with
 |none=>exact Tr.le_refl _
 |some a=>exact h a rfl
theorem bN{c:Bool}{x y:Tr}(h:c=true->x.le y):(aH c x).le y:=by
 cases c with
 |false=>exact bB _
 |true=>exact h rfl
theorem wz{t:Task}{K K':Out->Tr}(h:∀o,(K o).le (K' o)):(Tr.call t K).le (.call t K'):=by
 intro f o e;simp only[aC]at e⊢
 cases hf:f t with
 |none=>rw[hf]at e;cases e
 |some r=>rw[hf]at e;exact h r f o e
theorem QX{a:Tr}{K K':Out->Tr}(h:∀o,(K o).le (K' o)):(a.bind K).le (a.bind K'):=by
 intro f o e;rw[o5]at e⊢
 cases hf:aC f a with
 |none=>rw[hf]at e;cases e
 |some r=>rw[hf]at e;exact h r f o e
def bJ{α:Type}(x:List α)(n:Int):Option α:=if 0<=n then x[n.toNat]? else none
def aM(c:Bool)(x y:Tr):Tr:=
 match c with
 |true=>x
 |false=>y
def bR(k:IntKind)(d:D)(K:Int->Tr):Tr:=
 match d with
 | .i j n=>aH (j==k) (K n)
 |_ => .fail
def fN(d:D)(K:Bool->Tr):Tr:=
 match d with
 | .b x=>K x
 |_ => .fail
def eF(d:D)(K:List UInt8->Tr):Tr:=
 match d with
 | .s x=>K x
 |_ => .fail
def fT(d:D)(K:Bool->List D->Tr):Tr:=
 match d with
 | .l f xs=>K f xs
 |_ => .fail
def Oa{α:Type}[Inhabited α](n:Nat)(cs:List α):List α:=(List.range n).map λ i=>cs.getD i default
theorem CE{α:Type}[Inhabited α]{n:Nat}{cs:List α}(h:cs.length=n):Oa n cs=cs:=by
 subst h;apply List.ext_getElem?;intro i;unfold Oa;by_cases hi:i<cs.length
 ·simp[hi]
 ·rw[List.getElem?_eq_none (by simp;omega),List.getElem?_eq_none (by omega)]
def jM(n:Nat)(d:D)(K:List D->Tr):Tr:=
 match d with
 | .g cs=>aH (cs.length==n) (K cs)
 |_ => .fail
def bm(v:V)(K:D->Tr):Tr:=
 match v with
 | .d x=>K x
 |_ => .fail
def ee(l:List Ob)(K:Ob->List Ob->Tr):Tr:=
 match l with
 |b::bs=>K b bs
 | [] => .fail
def iK(l:List Ob)(K:Tr):Tr:=
 match l with
 | []=>K
 |_ => .fail
def dx(b:Ob)(K:List V->Fl->Tr):Tr:=
 match b with
 | .cells cs fl=>K cs fl
 |_ => .fail
def PU(b:Ob)(K:List (D×D)->Tr):Tr:=
 match b with
 | .map es=>K es
 |_ => .fail
def IU(b:Ob)(K:List UInt8->Nat->Tr):Tr:=
 match b with
 | .iter s n=>K s n
 |_ => .fail
def WU(a b:Ob)(K:Ob->Tr):Tr:=
 match a with
 | .cells cs fl=>dx b λ cs' fl'=>aH (cs'.length==cs.length) (aH (fl'==fl) (K (.cells cs' fl)))
 | .map _=>PU b λ es=>K (.map es)
 | .iter _ _=>IU b λ s n=>K (.iter s n)
 | .dead => .fail
def HW:List Ob->List Ob->(List Ob->Tr)->Tr
 | [],l,K=>iK l (K [])
 |a::as,l,K=>ee l λ b bs=>WU a b λ b'=>HW as bs λ bs'=>K (b'::bs')
theorem TY{a b:Ob}{K:Ob->Tr}{X:Tr}(h:(K b).le X):(WU a b K).le X:=by
 unfold WU;split
 ·cases b<;>simp only[dx]<;>first|exact bB _|skip
  refine bN λ _=>bN λ e=>?_;simp only[beq_iff_eq]at e;subst e;exact h
 ·cases b<;>simp only[PU]<;>first|exact bB _|exact h
 ·cases b<;>simp only[IU]<;>first|exact bB _|exact h
 ·exact bB _
theorem JR:∀{A B:List Ob} {K:List Ob->Tr} {X:Tr},(B.length=A.length->(K B).le X)->(HW A B K).le X
 | [],B,K,X,h=>by
  cases B with
  |nil=>simp only[HW,iK];exact h rfl
  |cons b bs=>simp only[HW,iK];exact bB _
 |a::A,B,K,X,h=>by
  cases B with
  |nil=>simp only[HW,ee];exact bB _
  |cons b bs=>
   simp only[HW,ee];exact TY (JR λ e=>h (by simp[e]))
def SS(o:Out)(K:List V->Nat->Tr):Tr:=
 match o with
 |(.m 0 0 len,[.cells cs []])=>aH (bG 0 cs) (K cs len)
 |_ => .fail
section
variable (P : Program) (aF : Pol)
def PL(t:TypeId)(d:D)(K:D->Tr):Tr:=
 match P.underlying t with
 |some (.int k)=>bR k d λ n=>K (.i k n)
 |some .bool=>fN d λ b=>K (.b b)
 |some .string=>eF d λ s=>K (.s s)
 |some (.slice _)=>fT d λ f xs=>K (.l f xs)
 |some (.struct _)=>ob (bZ P t) λ n=>jM n d λ cs=>K (.g (Oa n cs))
 |_=>K d
def V4(t:TypeId)(v:V)(K:V->Tr):Tr:=
 match P.underlying t with
 |some (.int _)=>bm v λ d=>PL P t d λ d=>K (.d d)
 |some .bool=>bm v λ d=>PL P t d λ d=>K (.d d)
 |some .string=>bm v λ d=>PL P t d λ d=>K (.d d)
 |some (.struct _)=>bm v λ d=>PL P t d λ d=>K (.d d)
 |_=>K v
def V3(t:TypeId)(v:V)(K:V->Tr):Tr:=
 match P.underlying t with
 |some (.slice _)=>bm v λ d=>PL P t d λ d=>K (.d d)
 |_=>V4 P t v K
def MI:List TypeId->List V->(List V->Tr)->Tr
 | [],[],K=>K []
 |t::ts,v::vs,K=>V3 P t v λ v=>MI ts vs λ vs=>K (v::vs)
 |_,_,_ => .fail
def cL(v:V)(K:List V->Tr):Tr:=
 match v with
 | .t vs=>K vs
 |_ => .fail
def Kp(ts:List TypeId)(v:V)(K:V->Tr):Tr:=
 match ts with
 | [t]=>V3 P t v K
 |ts=>cL v λ vs=>aH (vs.length==ts.length) (MI P ts (Oa ts.length vs) λ vs=>K (.t vs))
theorem SQ{k:IntKind}{d:D}{K:Int->Tr}{X:Tr}(h:∀n,d = .i k n->(K n).le X):(bR k d K).le X:=by
 cases d<;>simp only[bR]<;>first|exact bB _|skip
 refine bN λ e=>h _ ?_;simp only[beq_iff_eq]at e;rw[e]
theorem SN{d:D}{K:Bool->Tr}{X:Tr}(h:∀n,d = .b n->(K n).le X):(fN d K).le X:=by cases d<;>simp only[fN]<;>first|exact bB _|exact h _ rfl
theorem M5{d:D}{K:List UInt8->Tr}{X:Tr}(h:∀n,d = .s n->(K n).le X):(eF d K).le X:=by cases d<;>simp only[eF]<;>first|exact bB _|exact h _ rfl
theorem SR{d:D}{K:Bool->List D->Tr}{X:Tr}(h:∀f n,d = .l f n->(K f n).le X):(fT d K).le X:=by cases d<;>simp only[fT]<;>first|exact bB _|exact h _ _ rfl
theorem SO{n:Nat}{d:D}{K:List D->Tr}{X:Tr}(h:∀cs,d = .g cs->cs.length=n->(K cs).le X):(jM n d K).le X:=by
 cases d<;>simp only[jM]<;>first|exact bB _|skip
 refine bN λ e=>?_;simp only[beq_iff_eq]at e;exact h _ rfl e
theorem tN{v:V}{K:D->Tr}{X:Tr}(h:∀d,v = .d d->(K d).le X):(bm v K).le X:=by cases v<;>simp only[bm]<;>first|exact bB _|exact h _ rfl
theorem cE{α:Type}{x:Option α}{K:α->Tr}{X:Tr}(h:∀a,x=some a->(K a).le X):(ob x K).le X:=by
 cases x with
 |none=>exact bB _
 |some a=>exact h a rfl
theorem oa{t:TypeId}{d:D}{K:D->Tr}:(PL P t d K).le (K d):=by
 unfold PL;split
 ·exact SQ λ n e=>by rw[e];exact Tr.le_refl _
 ·exact SN λ n e=>by rw[e];exact Tr.le_refl _
 ·exact M5 λ n e=>by rw[e];exact Tr.le_refl _
 ·exact SR λ f n e=>by rw[e];exact Tr.le_refl _
 ·exact cE λ n _=>SO λ cs e hl=>by rw[e,CE hl];exact Tr.le_refl _
 ·exact Tr.le_refl _
theorem PN{t:TypeId}{v:V}{K:V->Tr}:(V4 P t v K).le (K v):=by
 unfold V4;split
 ·exact tN λ d e=>by rw[e];exact oa P
 ·exact tN λ d e=>by rw[e];exact oa P
 ·exact tN λ d e=>by rw[e];exact oa P
 ·exact tN λ d e=>by rw[e];exact oa P
 ·exact Tr.le_refl _
theorem PM{t:TypeId}{v:V}{K:V->Tr}:(V3 P t v K).le (K v):=by
 unfold V3;split
 ·exact tN λ d e=>by rw[e];exact oa P
 ·exact PN P
theorem Kq:∀{ts:List TypeId} {vs:List V} {K:List V->Tr},(MI P ts vs K).le (K vs)
 | [],[],K=>Tr.le_refl _
 |t::ts,v::vs,K=>by
  simp only[MI];exact Tr.le_trans (PM P) Kq
 | [],_::_,K=>by simp only[MI];exact bB _
 |_::_,[],K=>by simp only[MI];exact bB _
theorem Gu{ts:List TypeId}{v:V}{K:V->Tr}:(Kp P ts v K).le (K v):=by
 unfold Kp;split
 ·exact PM P
 ·cases v<;>simp only[cL]<;>first|exact bB _|skip
  refine bN λ e=>?_;simp only[beq_iff_eq]at e;rw[CE e];exact Kq P
def Hz(a i:V)(K:V->Tr):Tr:=
 match a,i with
 | .d (.s x),.d (.i _ n)=>ob (bJ x n) λ c=>K (.d (.i .u8 c.toNat))
 |_,_ => .fail
theorem Ls{a i:V}{K:V->Tr}:(Hz a i K).le (ob (p8 a i) K):=by
 unfold Hz;split
 ·unfold bJ;refine cE λ c hc=>?_;split at hc
  ·rename_i h0;simp only[p8,if_pos h0,hc,Option.map_some,ob];exact Tr.le_refl _
  ·cases hc
 ·exact bB _
def rm(sz:Nat)(a i:V)(K:V->Tr):Tr:=
 match a,i with
 | .d (.l _ xs),.d (.i _ n)=>ob (bJ xs n) λ x=>aH (x.width==sz) (K (.e xs n.toNat 0))
 | .m id off len,.d (.i _ n)=>aH (sz==1) (aH (decide (0<=n/\n<(len:Int))) (K (.p id (off+n.toNat))))
 |_,_ => .fail
theorem zG{sz:Nat}{a i:V}{K:V->Tr}:(rm sz a i K).le (ob (hJ sz a i) K):=by
 unfold rm;split
 ·unfold bJ;refine cE λ c hc=>?_;split at hc
  ·rename_i h0;refine bN λ hw=>?_;simp only[beq_iff_eq]at hw;simp only[hJ,if_pos h0,hc,if_pos hw,ob];exact Tr.le_refl _
  ·cases hc
 ·refine bN λ h1=>bN λ h2=>?_;simp only[beq_iff_eq]at h1;simp only[decide_eq_true_eq]at h2;simp only[hJ,if_pos (show sz=1/\_/\_ from⟨h1,h2⟩),ob];exact Tr.le_refl _
 ·exact bB _
def iF(len sz:Nat)(a i:V)(K:V->Tr):Tr:=
 match a,i with
 | .p id off,.d (.i _ n)=>aH (decide (0<=n/\n<(len:Int))) (K (.p id (off+n.toNat*sz)))
 | .e xs j off,.d (.i _ n)=>aH (decide (0<=n/\n<(len:Int))) (K (.e xs j (off+n.toNat*sz)))
 |_,_ => .fail
theorem xT{len sz:Nat}{a i:V}{K:V->Tr}:(iF len sz a i K).le (ob (gp len sz a i) K):=by
 unfold iF;split
 ·refine bN λ h2=>?_;simp only[decide_eq_true_eq]at h2;simp only[gp,if_pos h2,ob];exact Tr.le_refl _
 ·refine bN λ h2=>?_;simp only[decide_eq_true_eq]at h2;simp only[gp,if_pos h2,ob];exact Tr.le_refl _
 ·exact bB _
def Oc(t:TypeId)(agg:Bool)(sz:Nat)(S:List Ob)(a:V)(K:V->Tr):Tr:=
 match a with
 | .e xs i off=>ob xs[i]? λ x=>match agg with
  |true=>aH (decide (off+sz<=x.width)) (K (.d (.g (Oa sz ((x.cells.drop off).take sz)))))
  |false=>ob x.cells[off]? λ d=>PL P t d λ d=>K (.d d)
 | .p id off=>match bT S id with
  |some (.cells cs _)=>match agg with
   |true=>aH (decide (off+sz<=cs.length)) (ob (ze ((cs.drop off).take sz)) λ ds=>K (.d (.g ds)))
   |false=>ob cs[off]? λ v=>V4 P t v K
  |_ => .fail
 |_ => .fail
theorem KQ(x:D):x.cells.length=x.width:=by cases x<;>rfl
theorem Od{t:TypeId}{agg:Bool}{sz:Nat}{S:List Ob}{a:V}{K:V->Tr}:(Oc P t agg sz S a K).le (ob (gq agg sz S a) K):=by
 unfold Oc;split
 ·refine cE λ x hx=>?_;split
  ·refine bN λ h=>?_;simp only[decide_eq_true_eq]at h;simp only[gq,hx,if_true,if_pos h,ob];rw[CE (by simp[KQ];omega)];exact Tr.le_refl _
  ·refine cE λ d hd=>?_;simp only[gq,hx,hd,Option.map_some,ob,Bool.false_eq_true,if_false];exact oa P
 ·split
  ·rename_i hob;split
   ·refine bN λ h=>?_;simp only[decide_eq_true_eq]at h;refine cE λ ds hds=>?_;simp only[gq,hob,if_true,if_pos h,hds,Option.map_some,ob];exact Tr.le_refl _
   ·refine cE λ v hv=>?_;simp only[gq,hob,hv,ob,Bool.false_eq_true,if_false];exact PN P
  ·exact bB _
 ·exact bB _
def qC(v:Option V)(dflt most:Nat)(K:Nat->Tr):Tr:=
 match v with
 |none=>K dflt
 |some (.d (.i _ n))=>aH (decide (0<=n/\n<=(most:Int))) (K n.toNat)
 |_ => .fail
theorem km{v:Option V}{dflt most:Nat}{K:Nat->Tr}{X:Tr}(h:∀n,nU v dflt most=some n->(K n).le X):(qC v dflt most K).le X:=by
 unfold qC;split
 ·exact h _ rfl
 ·refine bN λ h1=>h _ ?_;simp only[decide_eq_true_eq]at h1;simp only[nU,if_pos h1]
 ·exact bB _
def C9(sz:Nat)(a:V)(lo hi:Option V)(K:V->Tr):Tr:=
 match a with
 | .d (.s x)=>qC hi x.length x.length λ h=>qC lo 0 h λ l=>K (.d (.s ((x.drop l).take (h-l))))
 | .d (.l _ xs)=>qC hi xs.length xs.length λ h=>qC lo 0 h λ l=>aH (bw sz xs) (K (.d (.l false ((xs.drop l).take (h-l)))))
 | .m id off len=>qC hi len len λ h=>qC lo 0 h λ l=>aH (sz==1) (K (.m id (off+l) (h-l)))
 |_ => .fail
theorem BG{sz:Nat}{a:V}{lo hi:Option V}{K:V->Tr}:(C9 sz a lo hi K).le (ob (iM sz a lo hi) K):=by
 unfold C9;split
 ·refine km λ h hh=>km λ l hl=>?_;simp only[iM,hh,hl,ob];exact Tr.le_refl _
 ·refine km λ h hh=>km λ l hl=>bN λ e=>?_;simp only[iM,hh,hl,if_pos e,ob];exact Tr.le_refl _
 ·refine km λ h hh=>km λ l hl=>bN λ e=>?_;simp only[beq_iff_eq]at e;simp only[iM,hh,hl,if_pos e,ob];exact Tr.le_refl _
 ·exact bB _
def C8(len sz:Nat)(a:V)(lo hi:Option V)(K:V->Tr):Tr:=
 match a with
 | .p id off=>qC hi len len λ h=>qC lo 0 h λ l=>aH (sz==1) (K (.m id (off+l) (h-l)))
 |_ => .fail
theorem Ir{len sz:Nat}{a:V}{lo hi:Option V}{K:V->Tr}:(C8 len sz a lo hi K).le (ob (mK len sz a lo hi) K):=by
 unfold C8;split
 ·refine km λ h hh=>km λ l hl=>bN λ e=>?_;simp only[beq_iff_eq]at e;simp only[mK,hh,hl,if_pos e,ob];exact Tr.le_refl _
 ·exact bB _
def Ht(t:TypeId)(fo sz:Nat)(agg:Bool)(a:V)(K:V->Tr):Tr:=
 match a with
 | .d (.g cs)=>match agg with
  |true=>aH (decide (fo+sz<=cs.length)) (K (.d (.g ((cs.drop fo).take sz))))
  |false=>ob cs[fo]? λ d=>PL P t d λ d=>K (.d d)
 |_ => .fail
theorem Ll{t:TypeId}{fo sz:Nat}{agg:Bool}{a:V}{K:V->Tr}:(Ht P t fo sz agg a K).le (ob (nS fo sz agg a) K):=by
 unfold Ht;split
 ·split
  ·refine bN λ h=>?_;simp only[decide_eq_true_eq]at h;simp only[nS,if_true,if_pos h,ob];exact Tr.le_refl _
  ·refine cE λ d hd=>?_;simp only[nS,hd,Option.map_some,ob,Bool.false_eq_true,if_false];exact oa P
 ·exact bB _
def M8(bt:List Nat)(op:BinOp)(a b:V)(K:V->Tr):Tr:=
 match op,a,b with
 | .quo,.d (.i k x),.d (.i j y)=>aH (k==j) (aH (decide (y≠0)) (K (.d (.i k (k.wrap (x.tdiv y))))))
 | .rem,.d (.i k x),.d (.i j y)=>aH (k==j) (aH (decide (y≠0)) (K (.d (.i k (x.tmod y)))))
 | .shl,.d (.i k x),.d (.i _ y)=>aH (decide (0<=y)) (K (.d (.i k (k.wrap (x*2^(min y.toNat k.bits))))))
 | .shr,.d (.i k x),.d (.i _ y)=>aH (decide (0<=y)) (K (.d (.i k (x.fdiv (2^(min y.toNat k.bits))))))
 | .add,.d (.s x),.d (.s y)=>aH (decide (x.length+y.length<4611686018427387904)) (K (.d (.s (x++y))))
 |op,a,b=>ob (k5 bt op a b) K
theorem M9{bt:List Nat}{op:BinOp}{a b:V}{K:V->Tr}:(M8 bt op a b K).le (ob (k5 bt op a b) K):=by
 unfold M8;split
 ·refine bN λ h1=>bN λ h2=>?_;simp only[beq_iff_eq]at h1;simp only[decide_eq_true_eq]at h2;simp only[k5,if_pos h1,M7,if_neg h2,ob];exact Tr.le_refl _
 ·refine bN λ h1=>bN λ h2=>?_;simp only[beq_iff_eq]at h1;simp only[decide_eq_true_eq]at h2;simp only[k5,if_pos h1,M7,if_neg h2,ob];exact Tr.le_refl _
 ·refine bN λ h1=>?_;simp only[decide_eq_true_eq]at h1;simp only[k5,UL,if_neg (Int.not_lt.2 h1),ob];exact Tr.le_refl _
 ·refine bN λ h1=>?_;simp only[decide_eq_true_eq]at h1;simp only[k5,UL,if_neg (Int.not_lt.2 h1),ob];exact Tr.le_refl _
 ·refine bN λ h1=>?_;simp only[decide_eq_true_eq]at h1;simp only[k5,Qt,if_pos h1,ob];exact Tr.le_refl _
 ·exact Tr.le_refl _
def Ux(ks:List Nat)(a b:V):Option Bool:=
 match a,b with
 | .d (.g xs),.d (.g ys)=>Cf ks xs ys
 |_,_=>none
def SX(bt:List Nat)(op:BinOp)(a b:V)(K:V->Tr):Tr:=
 match bt,op with
 |9::ks,.eql=>ob (Ux ks a b) λ r=>K (.d (.b r))
 |9::ks,.neq=>ob (Ux ks a b) λ r=>K (.d (.b !r))
 |bt,op=>M8 bt op a b K
theorem Jr{ks:List Nat}{a b:V}{r:Bool}(h:Ux ks a b=some r):k5 (9::ks) .eql a b=some (.d (.b r))/\k5 (9::ks) .neq a b=some (.d (.b !r)):=by
 unfold Ux at h;split at h
 ·unfold k5;constructor<;>simp only[h]
 ·cases h
theorem Qs{bt:List Nat}{op:BinOp}{a b:V}{K:V->Tr}:(SX bt op a b K).le (ob (k5 bt op a b) K):=by
 unfold SX;split
 ·cases h:Ux _ a b with
  |none=>exact bB _
  |some r=>rw[(Jr h).1];exact Tr.le_refl _
 ·cases h:Ux _ a b with
  |none=>exact bB _
  |some r=>rw[(Jr h).2];exact Tr.le_refl _
 ·exact M9
end
section
variable (P : Program) (aF : Pol)
def OP(c a b:V)(K:V->Tr):Tr:=
 match c with
 | .d (.b x)=>aM x (K a) (K b)
 |_ => .fail
theorem OQ{c a b:V}{K:V->Tr}:(OP c a b K).le (ob (yl c a b) K):=by
 unfold OP;split
 ·rename_i x;cases x<;>exact Tr.le_refl _
 ·exact bB _
def J2(vals:List V)(S:List Ob)(o:Oper)(K:V->Tr):Tr:=
 match o.op with
 | .pick c a b=>ob (ev vals c) λ c=>ob (ev vals a) λ a=>ob (ev vals b) λ b=>OP c a b K
 | .buildSlice t len parts=>ob (lp P t) λ e=>ob (bZ P e) λ sz=>
   aH (decide (parts.size=len/\len*sz<=16777216/\(fS P e).isSome=true)) (ob (jv sz 0 (parts.toList.map λ p=>(p.1,ev vals p.2))) λ xs=>K (.d (.l true xs)))
 | .load t a=>ob (mn P t) λ g=>ob (bZ P t) λ sz=>ob (ev vals a) λ a=>Oc P t g sz S a K
 | .binOp op t x y _=>ob (Na P t) λ bt=>ob (ev vals x) λ x=>ob (ev vals y) λ y=>SX bt op x y K
 | .convert s d x=>match P.underlying s,P.underlying d with
  |some (.slice e),some .string=>match P.underlying e with
   |some (.int .u8)=>ob (ev vals x) λ x=>ob (view S 1 x) λ xs=>ob (lV xs) λ b=>K (.d (.s b))
   |_ => .fail
  |some s',some d'=>ob (ev vals x) λ x=>ob (yk s' d' x) K
  |_,_ => .fail
 | .slice t x lo hi mx=>match mx with
  |some _ => .fail
  |none=>match P.underlying t with
   |some .string=>ob (ev vals x) λ x=>ob (Xw x) λ s=>ob (zq vals lo) λ lo=>ob (zq vals hi) λ hi=>C9 1 (.d (.s s)) lo hi K
   |some (.slice e)=>ob (ev vals x) λ x=>ob (Xv x) λ v=>ob (bZ P e) λ sz=>ob (zq vals lo) λ lo=>ob (zq vals hi) λ hi=>C9 sz v lo hi K
   |some (.array n e)=>ob (bZ P e) λ sz=>ob (ev vals x) λ x=>ob (zq vals lo) λ lo=>ob (zq vals hi) λ hi=>C8 n sz x lo hi K
   |_ => .fail
 | .field t x f=>match P.underlying t with
  |some (.struct fs)=>match fs[f]? with
   |some g=>ob (bZ P g.type) λ sz=>ob (mn P g.type) λ ag=>ob (ev vals x) λ x=>Ht P g.type g.offset sz ag x K
   |none => .fail
  |_ => .fail
 | .indexAddr t x i=>match P.underlying t with
  |some (.slice e)=>ob (bZ P e) λ sz=>ob (ev vals x) λ x=>ob (ev vals i) λ i=>rm sz x i K
  |some (.array n e)=>ob (bZ P e) λ sz=>ob (ev vals x) λ x=>ob (ev vals i) λ i=>iF n sz x i K
  |_ => .fail
 | .index t x i=>match P.underlying t with
  |some .string=>ob (ev vals x) λ x=>ob (ev vals i) λ i=>Hz x i K
  |_ => .fail
 | .lookup t m k ok=>match P.underlying t with
  |some (.map kt e)=>match yR P e with
   |some (.d z)=>ob (ev vals k) λ k=>ob (R5 k) λ k=>aH (gN P kt k) (ob (ev vals m) λ m=>ob (mapOf S m) λ es=>ob (oo k es) λ r=>match ok with
     |true=>PL P e (r.getD z) λ x=>K (.t [.d x,.d (.b r.isSome)])
     |false=>PL P e (r.getD z) λ x=>K (.d x))
   |_ => .fail
  |_ => .fail
 |_=>ob (dX P vals S o) K
theorem FD{vals:List V}{S:List Ob}{o:Oper}{K:V->Tr}:(J2 P vals S o K).le (ob (dX P vals S o) K):=by
 unfold J2;split
 ·rename_i c a b hop;refine cE λ c hc=>cE λ a ha=>cE λ b hb=>?_;have:dX P vals S o=yl c a b:=by simp[dX,hop,hc,ha,hb]
  rw[this];exact OQ
 ·rename_i t len parts hop;refine cE λ e he=>cE λ sz hsz=>bN λ h=>cE λ xs hxs=>?_;simp only[decide_eq_true_eq]at h;have:dX P vals S o=some (.d (.l true xs)):=by simp only[dX,hop,he,hsz,hxs,Option.bind_eq_bind,Option.bind_some,if_pos h];rfl
  rw[this];exact Tr.le_refl _
 ·rename_i t a hop;refine cE λ g hg=>cE λ sz hsz=>cE λ a ha=>?_;have:dX P vals S o=gq g sz S a:=by simp[dX,hop,hg,hsz,ha]
  rw[this];exact Od P
 ·rename_i op t x y ty hop;refine cE λ bt hbt=>cE λ x hx=>cE λ y hy=>?_;have:dX P vals S o=k5 bt op x y:=by simp[dX,hop,hbt,hx,hy]
  rw[this];exact Qs
 ·rename_i s d x hop;split
  ·rename_i e hs hd;split
   ·rename_i he;refine cE λ x hx=>cE λ xs hxs=>cE λ b hb=>?_;have:dX P vals S o=some (.d (.s b)):=by simp[dX,hop,hs,hd,he,hx,hxs,hb]
    rw[this];exact Tr.le_refl _
   ·exact bB _
  ·rename_i s' d' hne hs hd;refine cE λ x hx=>?_;have:dX P vals S o=yk s' d' x:=by simp[dX,hop,hs,hd,hx]
   rw[this];exact Tr.le_refl _
  ·exact bB _
 ·rename_i t x lo hi mx hop;split
  ·exact bB _
  ·split
   ·rename_i hu;refine cE λ x hx=>cE λ s hs=>cE λ lo hlo=>cE λ hi hhi=>?_;have:dX P vals S o=iM 1 (.d (.s s)) lo hi:=by simp[dX,hop,hu,hx,hs,hlo,hhi]
    rw[this];exact BG
   ·rename_i e hu;refine cE λ x hx=>cE λ v hv=>cE λ sz hsz=>cE λ lo hlo=>cE λ hi hhi=>?_;have:dX P vals S o=iM sz v lo hi:=by simp[dX,hop,hu,hx,hv,hsz,hlo,hhi]
    rw[this];exact BG
   ·rename_i n e hu;refine cE λ sz hsz=>cE λ x hx=>cE λ lo hlo=>cE λ hi hhi=>?_;have:dX P vals S o=mK n sz x lo hi:=by simp[dX,hop,hu,hx,hsz,hlo,hhi]
    rw[this];exact Ir
   ·exact bB _
 ·rename_i t x f hop;split
  ·rename_i fs hu;split
   ·rename_i g hg;refine cE λ sz hsz=>cE λ ag hag=>cE λ x hx=>?_;have:dX P vals S o=nS g.offset sz ag x:=by simp[dX,hop,hu,hg,hsz,hag,hx]
    rw[this];exact Ll P
   ·exact bB _
  ·exact bB _
 ·rename_i t x i hop;split
  ·rename_i e hu;refine cE λ sz hsz=>cE λ x hx=>cE λ i hi=>?_;have:dX P vals S o=hJ sz x i:=by simp[dX,hop,hu,hsz,hx,hi]
   rw[this];exact zG
  ·rename_i n e hu;refine cE λ sz hsz=>cE λ x hx=>cE λ i hi=>?_;have:dX P vals S o=gp n sz x i:=by simp[dX,hop,hu,hsz,hx,hi]
   rw[this];exact xT
  ·exact bB _
 ·rename_i t x i hop;split
  ·rename_i hu;refine cE λ x hx=>cE λ i hi=>?_;have:dX P vals S o=p8 x i:=by simp[dX,hop,hu,hx,hi]
   rw[this];exact Ls
  ·exact bB _
 ·rename_i t m k okb hop;split
  ·rename_i kt e hu;split
   ·rename_i z hz;refine cE λ k hk=>cE λ kd hkd=>bN λ hf=>cE λ m hm=>cE λ es hes=>cE λ r hr=>?_
    cases okb with
    |true=>
     have:dX P vals S o=some (.t [.d (r.getD z),.d (.b r.isSome)]):=by simp[dX,hop,hu,hz,hk,hkd,hf,hm,hes,hr]
     rw[this];exact oa P
    |false=>
     have:dX P vals S o=some (.d (r.getD z)):=by simp[dX,hop,hu,hz,hk,hkd,hf,hm,hes,hr]
     rw[this];exact oa P
   ·exact bB _
  ·exact bB _
 ·exact Tr.le_refl _
def rZ(S:List Ob)(sz by_:Nat)(fresh:Bool)(base y:V)(K:V->Tr):Tr:=
 bm base λ d=>fT d λ full xs=>ob (dn S sz y) λ zs=>aH (!fresh||full) (aH (bw sz xs) (aH (bw sz zs) (aH (full||dK zs) (aH (decide (by_<=1024)) (aH (decide (xs.length+zs.length<=4294967296)) (K (.d (.l (full&&zs.isEmpty) (xs++zs)))))))))
theorem qP{S:List Ob}{sz by_:Nat}{fresh:Bool}{base y:V}{K:V->Tr}:(rZ S sz by_ fresh base y K).le (ob (hG S sz by_ fresh base y) K):=by
 unfold rZ
 cases base with
 |d x=>cases x with
  |l full xs=>
   show (ob (dn S sz y) λ zs=>aH (!fresh||full) (aH (bw sz xs) (aH (bw sz zs) (aH (full||dK zs) (aH (decide (by_<=1024)) (aH (decide (xs.length+zs.length<=4294967296)) (K (.d (.l (full&&zs.isEmpty) (xs++zs)))))))))).le _;refine cE λ zs hzs=>bN λ h1=>bN λ h2=>bN λ h3=>bN λ h4=>bN λ h5=>bN λ h6=>?_;simp only[decide_eq_true_eq]at h5 h6;have:hG S sz by_ fresh (.d (.l full xs)) y=some (.d (.l (full&&zs.isEmpty) (xs++zs))):=by simp only[hG,hzs];rw[if_pos];refine⟨λ e=>by simpa[e]using h1,h2,h3,λ e=>by simpa[e]using h4,h5,h6⟩
   rw[this];exact Tr.le_refl _
  |_=>exact bB _
 |_=>exact bB _
def IA(S:List Ob)(agg:Bool)(sz:Nat)(fl:Fl)(tk:Option Nat)(a v:V)(K:List Ob->Tr):Tr:=
 match a with
 | .p id off=>match bT S id with
  |some (.cells cs fl0)=>match agg with
   |true=>match v with
    | .d (.g ds)=>aH (decide (ds.length=sz/\off+sz<=cs.length)&&lO none (ds.map .d) fl&&(ds.map V.d).all V.one) (K (oset S id (.cells (zH cs off (ds.map .d)) (fl0.filter (λ x=>!(off<=x.1&&x.1<off+sz))++fl.map (λ x=>(off+x.1,x.2))))))
    |_ => .fail
   |false=>aH (v.one&&sz==1&&decide (off<cs.length)&&bP (id+1) v) (K (oset S id (.cells (cs.set off v) (B5 tk off (et fl0 off)))))
  |_ => .fail
 |_ => .fail
theorem Mw{S:List Ob}{agg:Bool}{sz:Nat}{fl:Fl}{tk:Option Nat}{a v:V}{K:List Ob->Tr}:(IA S agg sz fl tk a v K).le (ob (j7 S agg sz fl tk a v) K):=by
 unfold IA;split
 ·split
  ·rename_i hob;split
   ·split
    ·refine bN λ h=>?_;simp only[Bool.and_eq_true,decide_eq_true_eq]at h;simp only[j7,hob,if_true];rw[if_pos ⟨h.1.1.1,h.1.1.2,h.1.2,h.2⟩];exact Tr.le_refl _
    ·exact bB _
   ·refine bN λ h=>?_;simp only[Bool.and_eq_true,decide_eq_true_eq,beq_iff_eq]at h;simp only[j7,hob,Bool.false_eq_true,if_false];rw[if_pos ⟨h.1.1.1,h.1.1.2,h.1.2,h.2⟩];exact Tr.le_refl _
  ·exact bB _
 ·exact bB _
def rA(S:List Ob)(m k x:V)(K:List Ob->Tr):Tr:=
 match m,k,x with
 | .mp id,.d k,.d x=>match bT S id with
  |some (.map es)=>aH (oo k es).isSome (K (oset S id (.map (E8 k x es))))
  |_ => .fail
 |_,_,_ => .fail
theorem zI{S:List Ob}{m k x:V}{K:List Ob->Tr}:(rA S m k x K).le (ob (hO S m k x) K):=by
 unfold rA;split
 ·split
  ·rename_i hob;refine bN λ h=>?_;simp only[hO,hob,if_pos h,ob];exact Tr.le_refl _
  ·exact bB _
 ·exact bB _
def Oy(S:List Ob)(a:V)(K:V->List Ob->Tr):Tr:=
 match a with
 | .it id=>match bT S id with
  |some (.iter s pos)=>aM (decide (pos<s.length))
    (K (.t [.d (.b true),.d (.i .i64 pos),.d (.i .i32 (Utf8.decode ⟨s.toArray⟩ pos).1)]) (oset S id (.iter s (pos+(Utf8.decode ⟨s.toArray⟩ pos).2))))
    (K (.t [.d (.b false)]) S)
  |_ => .fail
 |_ => .fail
theorem Oz{S:List Ob}{a:V}{K:V->List Ob->Tr}:(Oy S a K).le (ob (rG S a) λ w=>K w.1 w.2):=by
 unfold Oy;split
 ·split
  ·rename_i s pos hob;simp only[rG,hob];by_cases h:pos<s.length
   ·rw[if_pos h,decide_eq_true h];exact Tr.le_refl _
   ·rw[if_neg h,decide_eq_false h];exact Tr.le_refl _
  ·exact bB _
 ·exact bB _
def Ra(S:List Ob)(t:Nat)(fl:Fl)(cs:List V)(K:V->List Ob->Tr):Tr:=
 aH (lO (some t) cs fl&&cs.all V.one&&bG S.length cs) (K (.p S.length 0) (.cells cs fl::S))
theorem JH{S:List Ob}{t:Nat}{fl:Fl}{cs:List V}{K:V->List Ob->Tr}:(Ra S t fl cs K).le (ob (kl S t fl cs) λ w=>K w.1 w.2):=by unfold Ra;refine bN λ h=>?_;simp only[Bool.and_eq_true]at h;simp only[kl,if_pos (show _/\_/\_ from⟨h.1.1,h.1.2,h.2⟩),ob];exact Tr.le_refl _
def SZ(S:List Ob)(t:Nat)(fl:Fl)(sz:Nat)(v:V)(K:V->List Ob->Tr):Tr:=
 match v with
 | .d (.g ds)=>aH (ds.length==sz) (Ra S t fl (ds.map .d) K)
 |v=>aH (sz==1) (Ra S t fl [v] K)
theorem Qv{S:List Ob}{t:Nat}{fl:Fl}{sz:Nat}{v:V}{K:V->List Ob->Tr}:(SZ S t fl sz v K).le (ob (ou S t fl sz v) λ w=>K w.1 w.2):=by
 unfold SZ;split
 ·refine bN λ h=>?_;simp only[beq_iff_eq]at h;simp only[ou,if_pos h];exact JH
 ·rename_i hne;refine bN λ h=>?_;simp only[beq_iff_eq]at h;have:ou S t fl sz v=if sz=1 then kl S t fl [v]else none:=by
   unfold ou;split
   ·rename_i ds;exact absurd rfl (hne ds)
   ·rfl
  rw[this,if_pos h];exact JH
def HL(z:D)(n c:V)(K:V->Tr):Tr:=
 match n,c with
 | .d (.i _ n),.d (.i _ c)=>aH (decide (0<=n)) (aH (decide (n<=c)) (aH (decide (c<=4294967296)) (aH (V.d z).one (K (.d (.l false (List.replicate n.toNat z)))))))
 |_,_ => .fail
theorem LG{z:D}{n c:V}{K:V->Tr}:(HL z n c K).le (ob (sM z n c) K):=by
 unfold HL;split
 ·refine bN λ h1=>bN λ h2=>bN λ h3=>bN λ h4=>?_;simp only[decide_eq_true_eq]at h1 h2 h3;simp only[sM,if_pos (show _/\_/\_/\_ from⟨h1,h2,h3,h4⟩),ob];exact Tr.le_refl _
 ·exact bB _
def HM(S:List Ob)(z n c:V)(K:V->List Ob->Tr):Tr:=
 match n,c with
 | .d (.i _ n),.d (.i _ c)=>aH (decide (0<=n)) (aH (decide (n=c)) (aH (decide (c<=4294967296)) (aH (z.one&&bP S.length z) (K (.m S.length 0 n.toNat) (.cells (List.replicate n.toNat z) []::S)))))
 |_,_ => .fail
theorem LH{S:List Ob}{z n c:V}{K:V->List Ob->Tr}:(HM S z n c K).le (ob (nT S z n c) λ w=>K w.1 w.2):=by
 unfold HM;split
 ·refine bN λ h1=>bN λ h2=>bN λ h3=>bN λ h4=>?_;simp only[decide_eq_true_eq,Bool.and_eq_true]at h1 h2 h3 h4;simp only[nT,if_pos (show _/\_/\_/\_/\_ from⟨h1,h2,h3,h4.1,h4.2⟩),ob];exact Tr.le_refl _
 ·exact bB _
def wW(S:List Ob)(by_:Nat)(base y:V)(K:V->List Ob->Tr):Tr:=
 match base with
 | .d (.l true [])=>ob (dn S 1 y) λ zs=>aH (bw 1 zs) (aH ((zs.map V.d).all V.one) (aH (decide (by_<=1024)) (aH (decide (zs.length<=4294967296)) (K (.m S.length 0 zs.length) (.cells (zs.map .d) []::S)))))
 |_ => .fail
theorem DD{S:List Ob}{by_:Nat}{base y:V}{K:V->List Ob->Tr}:(wW S by_ base y K).le (ob (jW S by_ base y) λ w=>K w.1 w.2):=by
 unfold wW;split
 ·refine cE λ zs hzs=>bN λ h1=>bN λ h2=>bN λ h3=>bN λ h4=>?_;simp only[decide_eq_true_eq]at h3 h4;simp only[jW,hzs,if_pos (show _/\_/\_/\_ from⟨h1,h2,h3,h4⟩),ob];exact Tr.le_refl _
 ·exact bB _
def VS(o:Out)(K:List V->Tr):Tr:=
 match o with
 |(.p 0 0,[.cells cs []])=>aH (bG 0 cs) (K cs)
 |_ => .fail
def Vh(t:Option TypeId):Bool:=
 match t with
 |some t=>match P.underlying t with
  |some (.pointer _)=>true
  |_=>false
 |none=>false
def Nc(g:Nat)(args:List V)(S:List Ob)(K:V->List Ob->Tr):Tr:=
 ob P.funcs[g]? λ fn=>match aF.fresh g,lD args with
 |true,0=>match Vh P fn.resultTypes[0]? with
  |true => .call (.call g args []) λ o=>VS o λ cs=>K (.p S.length 0) (.cells cs []::S)
  |false => .call (.call g args []) λ o=>SS o λ cs len=>K (.m S.length 0 len) (.cells cs []::S)
 |false,0 => .call (.call g args []) λ o=>aH o.2.isEmpty (Kp P fn.resultTypes.toList o.1 λ v=>aH (oF v==0) (K v S))
 |_,n+1=>aH (decide (n+1<=S.length)) (.call (.call g args (oC (n+1) S)) λ o=>HW (oC (n+1) S) o.2 λ S'=>Kp P fn.resultTypes.toList o.1 λ v=>aH (decide (oF v<=n+1)) (K v (mX (n+1) S++S')))
theorem Nd{g:Nat}{args:List V}{S:List Ob}{K:V->List Ob->Tr}:(Nc P aF g args S K).le (aH (decide (lD args<=S.length)) (.call (.call g args (oC (lD args) S)) λ o=>ob (om (lD args) S o) λ w=>K w.1 w.2)):=by
 unfold Nc;refine cE λ fn _=>?_;have hl:oC 0 S=[]:=by simp[oC]
 split
 ·rename_i _ hb;rw[hb,hl];simp only[Nat.zero_le,decide_true,aH];split
  ·refine wz λ o=>?_;unfold VS;split
   ·rename_i cs;refine bN λ h=>?_;have:om 0 S (.p 0 0,[.cells cs []])=some (.p S.length 0,.cells cs []::S):=by simp[om,h,mX]
    rw[this];exact Tr.le_refl _
   ·exact bB _
  refine wz λ o=>?_;unfold SS;split
  ·rename_i len cs;refine bN λ h=>?_;have:om 0 S (.m 0 0 len,[.cells cs []])=some (.m S.length 0 len,.cells cs []::S):=by simp[om,h,mX]
   rw[this];exact Tr.le_refl _
  ·exact bB _
 ·rename_i _ hb;rw[hb,hl];simp only[Nat.zero_le,decide_true,aH];refine wz λ o=>bN λ he=>Tr.le_trans (Gu P) (bN λ h0=>?_);have he':o.2=[]:=by simpa using he
  have h0':oF o.1=0:=by simpa using h0
  have:om 0 S o=some (o.1,S):=by unfold om;rw[he'];simp[h0',mX]
  rw[this];exact Tr.le_refl _
 ·rename_i _ n hb;rw[hb];refine bN λ hn=>?_;rw[hn];simp only[aH];simp only[decide_eq_true_eq]at hn;refine wz λ o=>JR λ hlen=>Tr.le_trans (Gu P) (bN λ h0=>?_);simp only[decide_eq_true_eq]at h0;have hlow:(oC (n+1) S).length=n+1:=by simp[oC];omega
  have:om (n+1) S o=some (o.1,mX (n+1) S++o.2):=by unfold om;rw[if_pos (by rw[hlen,hlow]),if_pos h0]
  rw[this];exact Tr.le_refl _
def Cj(k r i:Nat)(ops:List Oper)(vals:List V)(fl:Fl)(S:List Ob)(o:Oper)(K:V->List Ob->Tr):Tr:=
 match o.op with
 | .store t a x=>ob (mn P t) λ g=>ob (bZ P t) λ sz=>ob (ev vals a) λ va=>ob (ev vals x) λ vx=>
   IA S g sz (aF.mh k r i) (match x,o.guard with | .tmp y,none=>tok fl y|_,_=>none) va vx λ S'=>K .u S'
 | .box t x=>ob (bZ P t) λ sz=>ob (ev vals x) λ v=>SZ S t (aF.mh k r i) sz v K
 | .next it true=>ob (ev vals it) λ v=>Oy S v K
 | .mapUpdate t m kk x=>match P.underlying t with
  |some (.map kt _)=>ob (ev vals m) λ vm=>ob (ev vals kk) λ vk=>ob (ev vals x) λ vx=>ob (R5 vk) λ kd=>aH (gN P kt kd) (rA S vm vk vx λ S'=>K .u S')
  |_ => .fail
 | .makeSlice t n c=>ob (lp P t) λ e=>ob (fS P e) λ z=>
   aH (decide (((P.info? e).map (·.bytes)).getD 5000<=1024)&&decide (bZ P e=some 1)) (match aF.app k r i,z with
   |0,[.d z]=>ob (ev vals n) λ vn=>ob (ev vals c) λ vc=>HL z vn vc λ v=>K v S
   |1,[z]=>ob (ev vals n) λ vn=>ob (ev vals c) λ vc=>HM S z vn vc K
   |_,_ => .fail)
 | .buildSlice t len parts=>ob (lp P t) λ e=>aH (decide (bZ P e=some 1/\parts.size=len/\len*1<=16777216/\(fS P e).isSome=true)) (match aF.app k r i with
   |1=>ob (jv 1 0 (parts.toList.map λ p=>(p.1,ev vals p.2))) λ xs=>aH ((xs.map V.d).all V.one) (K (.m S.length 0 xs.length) (.cells (xs.map .d) []::S))
   |_ => .fail)
 | .convert s d x=>match P.underlying s,P.underlying d with
  |some .string,some (.slice e)=>match P.underlying e with
   |some (.int .u8)=>ob (ev vals x) λ v=>bm v λ d=>eF d λ b=>aH (decide (b.length<=4294967296)&&decide (((P.info? e).map (·.bytes)).getD 5000<=1024)) (match aF.app k r i with
     |0=>K (.d (.l false (ofBytes b))) S
     |1=>K (.m S.length 0 b.length) (.cells ((ofBytes b).map .d) []::S)
     |_ => .fail)
   |_ => .fail
  |_,_ => .fail
 | .call c=>match c.callee with
  | .builtin .append=>match c.args.toList,c.argTypes[0]? with
   | [x,y],some t=>ob (lp P t) λ e=>ob (bZ P e) λ sz=>ob (ev vals x) λ bx=>ob (ev vals y) λ vy=>
    aH (Kk P c&&decide ((fS P e).map (·.length)=some sz)&&o.dst.isSome&&decide (sz<1000000)) (match aF.app k r i with
    |0=>aH (Xi (aF.mh k r i) e bx) (rZ S sz (((P.info? e).map (·.bytes)).getD 5000) true bx vy λ v=>K v S)
    |2=>ob (oL ops x) λ q=>aH (decide (tok fl q=some (uO (aF.mh k r i) sz))&&Xj (aF.mh k r i) e) (rZ S sz (((P.info? e).map (·.bytes)).getD 5000) false bx vy λ v=>K v S)
    |3=>ob (kR ops x) λ q=>ob (qJ S (vals.getD q .u)) λ w=>aH (decide (w.1=PI (aF.mh k r i) sz)&&Xh (aF.mh k r i) e) (rZ S sz (((P.info? e).map (·.bytes)).getD 5000) false bx vy λ v=>K v w.2)
    |1=>aH (sz==1) (wW S (((P.info? e).map (·.bytes)).getD 5000) bx vy K)
    |_ => .fail)
   |_,_ => .fail
  | .value f=>ob (c.args.toList.mapM (ev vals)) λ args=>ob (ev vals f) λ vf=>match vf with
   | .f g caps=>Nc P aF g (args++caps) S K
   |_ => .fail
  |_ => .fail
 |_=>(fP P aF k r i ops vals fl S o).bind λ w=>K w.1 w.2
theorem ek{α:Type}{x:Option α}{K:α->Tr}{J:Out->Tr}:(ob x K).bind J=ob x λ a=>(K a).bind J:=by cases x<;>rfl
theorem gX{c:Bool}{x:Tr}{J:Out->Tr}:(aH c x).bind J=aH c (x.bind J):=by cases c<;>rfl
theorem As{k r i:Nat}{ops:List Oper}{vals:List V}{fl:Fl}{S:List Ob}{o:Oper}{K:V->List Ob->Tr}:(Cj P aF k r i ops vals fl S o K).le ((fP P aF k r i ops vals fl S o).bind λ w=>K w.1 w.2):=by
 unfold Cj;split
 ·rename_i t a x hop;simp only[fP,hop,ek];refine eg λ g _=>eg λ sz _=>eg λ va _=>eg λ vx _=>?_;exact Mw
 ·rename_i t x hop;simp only[fP,hop,ek];refine eg λ sz _=>eg λ v _=>?_;exact Qv
 ·rename_i it hop;simp only[fP,hop,ek];refine eg λ v _=>?_;exact Oz
 ·rename_i t m kk x hop;split
  ·rename_i kt e hu;simp only[fP,hop,hu,ek,gX];refine eg λ vm _=>eg λ vk _=>eg λ vx _=>eg λ kd _=>bN λ hf=>?_;rw[hf];simp only[aH,ek,Tr.bind];exact zI
  ·exact bB _
 ·rename_i t n c hop;simp only[fP,hop,ek,gX];refine eg λ e _=>eg λ z _=>bN λ hc=>?_;rw[hc];simp only[aH];split
  ·have hm:aF.app k r i=0:=by assumption
   simp only[hm,ek,Tr.bind];exact eg λ vn _=>eg λ vc _=>LG
  ·have hm:aF.app k r i=1:=by assumption
   simp only[hm,ek,Tr.bind];exact eg λ vn _=>eg λ vc _=>LH
  ·exact bB _
 ·rename_i t len parts hop;simp only[fP,hop,ek,gX];refine eg λ e _=>bN λ hc=>?_;rw[hc];simp only[aH];split
  ·rename_i hm;simp only[hm,ek,gX];refine eg λ xs _=>bN λ h1=>?_;rw[h1];exact Tr.le_refl _
  ·exact bB _
 ·rename_i s d x hop;split
  ·rename_i e hs hd;split
   ·rename_i he;simp only[fP,hop,hs,hd,he,ek];refine eg λ v _=>tN λ d hdv=>M5 λ b hb=>?_;subst hdv;subst hb;simp only[gX];refine bN λ hc=>?_;rw[hc];simp only[aH];split
    ·rename_i hm;simp only[hm,Tr.bind];exact Tr.le_refl _
    ·rename_i hm;simp only[hm,Tr.bind];exact Tr.le_refl _
    ·exact bB _
   ·exact bB _
  ·exact bB _
 ·rename_i c hop;split
  ·rename_i hc;split
   ·rename_i x y t hargs hty;simp only[fP,hop,hc,hargs,hty,ek,gX];refine eg λ e _=>eg λ sz _=>eg λ bx _=>eg λ vy _=>bN λ hi=>?_;rw[hi];simp only[aH];split
    ·rename_i hm;simp only[hm,gX];refine bN λ hq=>?_;rw[hq];simp only[aH,ek,Tr.bind];exact qP
    ·rename_i hm;simp only[hm,ek,gX];refine eg λ q _=>bN λ hq=>?_;rw[hq];simp only[aH,ek,Tr.bind];exact qP
    ·rename_i hm;simp only[hm,ek,gX];refine eg λ q _=>eg λ w _=>bN λ hq=>?_;rw[hq];simp only[aH,ek,Tr.bind];exact qP
    ·rename_i hm;simp only[hm,ek,gX];refine bN λ hq=>?_;rw[hq];simp only[aH,ek,Tr.bind];exact DD
    ·exact bB _
   ·exact bB _
  ·rename_i f hc;simp only[fP,hop,hc,ek];refine eg λ args _=>eg λ vf _=>?_;split
   ·simp only[gX,Tr.bind,ek];exact Nd P aF
   ·exact bB _
  ·exact bB _
 ·exact Tr.le_refl _
end
section
variable (P : Program) (aF : Pol)
def V1(g:V)(want:Bool)(x y:Tr):Tr:=
 match g with
 | .d (.b c)=>aM (c==want) x y
 | .t []=>y
 |_ => .fail
def Ia(ops:List Oper)(vals:List V)(S:List Ob)(o:Oper)(K:V->Tr):Tr:=
 match o.guard with
 |none=>J2 P vals S o K
 |some (j,want)=>match (ops[j]?).bind (·.dst) with
  |some g=>V1 (vals.getD g .u) want (J2 P vals S o K) (K (.t []))
  |none => .fail
theorem L6{ops:List Oper}{vals:List V}{S:List Ob}{o:Oper}{K:V->Tr}:(Ia P ops vals S o K).le (ob (Br P ops vals S o) K):=by
 unfold Ia Br;split
 ·rename_i hg;simp only[hg];exact FD P
 ·rename_i j want hg;simp only[hg];split
  ·rename_i g hd;simp only[hd];unfold V1;split
   ·rename_i c hc;simp only[hc,gd];by_cases e:c=want
    ·rw[if_pos e];subst e;simp only[beq_self_eq_true,aM];exact FD P
    ·rw[if_neg e];have:(c==want)=false:=by simpa using e
     rw[this];exact Tr.le_refl _
   ·rename_i hc;simp only[hc,gd];exact Tr.le_refl _
   ·exact bB _
  ·exact bB _
def Ch(k r i:Nat)(ops:List Oper)(vals:List V)(fl:Fl)(S:List Ob)(o:Oper)(K:V->List Ob->Tr):Tr:=
 match o.guard with
 |none=>Cj P aF k r i ops vals fl S o K
 |some (j,want)=>match (ops[j]?).bind (·.dst) with
  |some g=>V1 (vals.getD g .u) want (Cj P aF k r i ops vals fl S o K) (K (.t []) S)
  |none => .fail
theorem G8{k r i:Nat}{ops:List Oper}{vals:List V}{fl:Fl}{S:List Ob}{o:Oper}{K:V->List Ob->Tr}:(Ch P aF k r i ops vals fl S o K).le ((oS P aF k r i ops vals fl S o).bind λ w=>K w.1 w.2):=by
 unfold Ch oS;split
 ·rename_i hg;simp only[hg];exact As P aF
 ·rename_i j want hg;simp only[hg];split
  ·rename_i g hd;simp only[hd];unfold V1;split
   ·rename_i c hc;simp only[hc,UC];by_cases e:c=want
    ·rw[if_pos e];subst e;simp only[beq_self_eq_true,aM];exact As P aF
    ·rw[if_neg e];have:(c==want)=false:=by simpa using e
     rw[this];exact Tr.le_refl _
   ·rename_i hc;simp only[hc,UC];exact Tr.le_refl _
   ·exact bB _
  ·exact bB _
def VM(ops:List Oper)(i:Nat):Bool:=ops.any λ o=>match o.guard with
 |some (j,_)=>j==i
 |none=>false
def splitB(v:V)(K:V->Tr):Tr:=
 match v with
 | .d (.b x)=>aM x (K (.d (.b true))) (K (.d (.b false)))
 |v=>K v
theorem Mq{v:V}{K:V->Tr}:(splitB v K).le (K v):=by
 unfold splitB;split
 ·rename_i x;cases x<;>exact Tr.le_refl _
 ·exact Tr.le_refl _
def sI(ops:List Oper)(i:Nat)(v:V)(K:V->Tr):Tr:=
 match VM ops i with
 |true=>splitB v K
 |false=>K v
theorem vE{ops:List Oper}{i:Nat}{v:V}{K:V->Tr}:(sI ops i v K).le (K v):=by
 unfold sI;split
 ·exact Mq
 ·exact Tr.le_refl _
def ke(k r:Nat)(ops:List Oper):List Oper->Nat->Nat->List V->Fl->List Ob->(List V->Fl->List Ob->Tr)->Tr
 | [],_,_,vals,fl,S,K=>K vals fl S
 |o::os,i,id,vals,fl,S,K=>
  match cq o with
  |true=>ke k r ops os (i+1) (id+1) (rH o.dst (qN o id) vals) (cg P aF k r i ops fl o) S K
  |false=>match lP aF k r i o with
   |false => .fail
   |true=>match fU P o with
    |false=>Ia P ops vals S o λ v=>sI ops i v λ v=>ke k r ops os (i+1) id (rH o.dst v vals) (cg P aF k r i ops fl o) S K
    |true=>Ch P aF k r i ops vals fl S o λ v S'=>sI ops i v λ v=>ke k r ops os (i+1) id (rH o.dst v vals) (cg P aF k r i ops fl o) S' K
theorem kf{k r:Nat}{ops:List Oper}{K K':List V->Fl->List Ob->Tr}(hK:∀vals fl S,(K vals fl S).le (K' vals fl S)):∀(os:List Oper) (i id:Nat) (vals:List V) (fl:Fl) (S:List Ob),(ke P aF k r ops os i id vals fl S K).le (j0 P aF k r ops os i id vals fl S K')
 | [],i,id,vals,fl,S=>by simp only[ke,j0];exact hK _ _ _
 |o::os,i,id,vals,fl,S=>by
  simp only[ke,j0]
  cases cq o with
  |true=>exact kf hK os _ _ _ _ _
  |false=>
   cases lP aF k r i o with
   |false=>exact bB _
   |true=>
    cases fU P o with
    |false=>exact Tr.le_trans (L6 P) (eg λ v _=>Tr.le_trans vE (kf hK os _ _ _ _ _))
    |true=>exact Tr.le_trans (G8 P aF) (QX λ w=>Tr.le_trans vE (kf hK os _ _ _ _ _))
def HX(fl:Fl)(ops:List Oper)(bef:List Nat)(x y:Oper)(i j:Nat):Bool:=
 (bef.getD j 0).testBit i||apart ops x y &&
  match cls P fl ops x,cls P fl ops y with
  |0,_=>true
  |_,0=>true
  |2,_=>true
  |_,2=>true
  |1,1=>true
  |_,_=>false
def Nz(fl:Fl)(ops:List Oper):Bool:=
 let bef:=gM ops []
 ops.zipIdx.all λ (y,j)=>y.after.all (λ e=>!Region.binds .any e||e.on<j) &&
  (match y.op with | .assign (.tmp t)=>ops.all λ o=>!(o.dst==some t&&(match o.op with | .assign _=>true|_=>false)) | .select ..=>false|_=>true) &&
  (!cq y||(match y.dst with|some d=>!kx fl ops d|none=>true)) &&
  (ops.take j).zipIdx.all λ (x,i)=>HX P fl ops bef x y i j
theorem L0{n1:Nat}{fl:Fl}{ops:List Oper}{vals:List V}{bef:List Nat}{x y:Oper}{i j:Nat}(h:HX P fl ops bef x y i j=true):gP P n1 fl ops vals bef x y i j=true:=by
 unfold HX at h;unfold gP;rw[Bool.or_eq_true,Bool.and_eq_true]at h⊢;rcases h with h|⟨h1,h2⟩
 ·exact .inl h
 ·refine .inr ⟨h1,?_⟩;generalize cls P fl ops x=a at h2⊢;generalize cls P fl ops y=b at h2⊢;rcases a with _|_|_|_|a<;>rcases b with _|_|_|_|b<;>first|rfl|cases h2
theorem NA{n1:Nat}{fl:Fl}{ops:List Oper}{vals:List V}(h:Nz P fl ops=true):qV P n1 fl ops vals=true:=by unfold Nz at h;unfold qV;rw[List.all_eq_true]at h⊢;intro y hy;have:=h y hy;simp only[Bool.and_eq_true]at this⊢;refine⟨this.1,?_⟩;have h2:=this.2;rw[List.all_eq_true]at h2⊢;intro x hx;exact L0 P (h2 x hx)
def Iz(k r:Nat)(ops:List Oper):Bool:=ll P aF 0 k r true ops []
theorem Mt{n k r:Nat}{ops:List Oper}{vals:List V}(h:Iz P aF k r ops=true):ll P aF n k r true ops vals=true:=by
 unfold Iz ll at h;unfold ll;rw[List.all_eq_true]at h⊢;intro y hy;have:=h y hy;revert this;unfold tp;split<;>try exact id
 split<;>try exact id
 split<;>try exact id
 split<;>try exact id
 split<;>try exact id
 split<;>simp
def oT(k r:Nat)(ops:List Oper)(vals:List V)(fl:Fl)(S:List Ob)(K:List V->Fl->List Ob->Tr):Tr:=
 ob (kQ P aF k r ops vals ops 0 S) λ S1=>match Nz P fl ops&&Iz P aF k r ops with
  |true=>ke P aF k r ops ops 0 S.length vals fl S1 K
  |false=>ke P aF k r ops ops 0 S.length vals fl S1 λ vals' fl' S'=>
   aH (qV P S1.length fl ops vals') (aH (ll P aF S.length k r true ops vals') (K vals' fl' S'))
theorem xv{k r:Nat}{ops:List Oper}{draw:Bool}{vals:List V}{fl:Fl}{S:List Ob}{K K':List V->Fl->List Ob->Tr}(hK:∀vals fl S,(K vals fl S).le (K' vals fl S)):(oT P aF k r ops vals fl S K).le (kV P aF k r ops draw vals fl S K'):=by
 unfold oT kV;refine eg λ S1 _=>?_;split
 ·rename_i h;rw[Bool.and_eq_true]at h;refine kf P aF (λ vals' fl' S'=>?_) _ _ _ _ _ _;rw[NA P h.1,Mt P aF h.2];exact hK _ _ _
 ·exact kf P aF (λ vals' fl' S'=>bN λ h1=>bN λ h2=>by rw[h1,h2];exact hK _ _ _) _ _ _ _ _ _
def S5(c:V)(x y:Tr):Tr:=
 match c with
 | .d (.b t)=>aM t x y
 |_ => .fail
theorem Qx{c:V}{x y x' y':Tr}(hx:x.le x')(hy:y.le y'):(S5 c x y).le (VX c x' y'):=by
 unfold S5 VX;split
 ·rename_i t;cases t
  ·exact hy
  ·exact hx
 ·exact bB _
def Qj(K K':ji):Prop:=∀e vals fl S,(K e vals fl S).le (K' e vals fl S)
theorem zZ{id:Nat}{K K':ji}(h:Qj K K'):Qj (ma id K) (ma id K'):=by
 intro e vals fl S;unfold ma;split
 ·split
  ·exact h _ _ _ _
  ·exact h _ _ _ _
 ·exact h _ _ _ _
def cM(fn:Func)(k n0:Nat):Code->List Bool->ji->List V->Fl->List Ob->Tr
 | .skip,_,K,vals,fl,S=>K none vals fl S
 | .region r ops draw,_,K,vals,fl,S=>oT P aF k r ops.toList vals fl S (K none)
 | .seq a b,path,K,vals,fl,S=>cM fn k n0 a (false::path) (λ e vals fl S=>
   match e with
   |some id=>K (some id) vals fl S
   |none=>match aF.cut k (true::path) with
    |some live => .call (.at_ k n0 (true::path) (ct live 0 vals) (qR live fl) (trimS n0 (ct live 0 vals) S)) .ret
    |none=>cM fn k n0 b (true::path) K vals fl S) vals fl S
 | .cond c a b,path,K,vals,fl,S=>ob (ev vals c) λ v=>S5 v (cM fn k n0 a (false::path) K vals fl S) (cM fn k n0 b (true::path) K vals fl S)
 | .block id c,path,K,vals,fl,S=>cM fn k n0 c (false::path) (ma id K) vals fl S
 | .loop _,path,_,vals,fl,S=>Cv aF k n0 path vals fl S
 | .exit id,_,K,vals,fl,S=>K (some id) vals fl S
 | .ret,_,_,vals,_,S=>fin P fn n0 vals S
 |_,_,_,_,_,_ => .fail
theorem eO{fn:Func}{k n0:Nat}:∀(c:Code) (path:List Bool) (K K':ji),Qj K K'->∀vals fl S,(cM P aF fn k n0 c path K vals fl S).le (evalCode P aF fn k n0 c path K' vals fl S)
 | .skip,path,K,K',h,vals,fl,S=>by simp only[cM,evalCode];exact h _ _ _ _
 | .region r ops draw,path,K,K',h,vals,fl,S=>by simp only[cM,evalCode];exact xv P aF λ vals fl S=>h _ _ _ _
 | .seq a b,path,K,K',h,vals,fl,S=>by
  simp only[cM,evalCode];refine eO a _ _ _ (λ e vals fl S=>?_) _ _ _;split
  ·exact h _ _ _ _
  ·cases hc:aF.cut k (true::path) with
   |some live=>exact Tr.le_refl _
   |none=>exact eO b _ _ _ h _ _ _
 | .cond c a b,path,K,K',h,vals,fl,S=>by
  simp only[cM,evalCode];exact eg λ v _=>Qx (eO a _ _ _ h _ _ _) (eO b _ _ _ h _ _ _)
 | .block id c,path,K,K',h,vals,fl,S=>by
  simp only[cM,evalCode];exact eO c _ _ _ (zZ h) _ _ _
 | .loop _,path,K,K',h,vals,fl,S=>by simp only[cM,evalCode];exact Tr.le_refl _
 | .exit id,path,K,K',h,vals,fl,S=>by simp only[cM,evalCode];exact h _ _ _ _
 | .ret,path,K,K',h,vals,fl,S=>by simp only[cM,evalCode];exact Tr.le_refl _
 | .rangeFunc ..,path,K,K',h,vals,fl,S=>by simp only[cM];exact bB _
 | .scope ..,path,K,K',h,vals,fl,S=>by simp only[cM];exact bB _
 | .label ..,path,K,K',h,vals,fl,S=>by simp only[cM];exact bB _
 | .goto ..,path,K,K',h,vals,fl,S=>by simp only[cM];exact bB _
 | .refuse ..,path,K,K',h,vals,fl,S=>by simp only[cM];exact bB _
def Pd(fn:Func)(k n0:Nat)(b:Code)(path:List Bool)(K:ji):ji:=λ e vals fl S=>
 match e with
 |some id=>K (some id) vals fl S
 |none=>match aF.cut k (true::path) with
  |some live => .call (.at_ k n0 (true::path) (ct live 0 vals) (qR live fl) (trimS n0 (ct live 0 vals) S)) .ret
  |none=>cM P aF fn k n0 b (true::path) K vals fl S
theorem Pe{fn:Func}{k n0:Nat}{b:Code}{path:List Bool}{K K':ji}(h:Qj K K'):Qj (Pd P aF fn k n0 b path K) (Pc P aF fn k n0 b path K'):=by
 intro e vals fl S;unfold Pd Pc;split
 ·exact h _ _ _ _
 ·cases hc:aF.cut k (true::path) with
  |some live=>exact Tr.le_refl _
  |none=>exact eO P aF b _ _ _ h _ _ _
theorem EZ{k n0:Nat}{path:List Bool}{K K':ji}(h:Qj K K'):Qj (sG aF k n0 path K) (sG aF k n0 path K'):=by
 intro e vals fl S;unfold sG;split
 ·exact h _ _ _ _
 ·exact Tr.le_refl _
def j6(fn:Func)(k n0:Nat):List Bool->Code->List Bool->ji->Option (Code×List Bool×ji)
 | [],c,path,K=>some (c,path,K)
 |false::p,.seq a b,path,K=>j6 fn k n0 p a (false::path) (Pd P aF fn k n0 b path K)
 |true::p,.seq _ b,path,K=>j6 fn k n0 p b (true::path) K
 |false::p,.cond _ a _,path,K=>j6 fn k n0 p a (false::path) K
 |true::p,.cond _ _ b,path,K=>j6 fn k n0 p b (true::path) K
 |false::p,.block id c,path,K=>j6 fn k n0 p c (false::path) (ma id K)
 |false::p,.loop c,path,K=>j6 fn k n0 p c (false::path) (sG aF k n0 path K)
 |_,_,_,_=>none
theorem iR{fn:Func}{k n0:Nat}:∀(p:List Bool) (c:Code) (path:List Bool) (K K':ji),Qj K K'->∀x q J,j6 P aF fn k n0 p c path K=some (x,q,J)->∃J',jV P aF fn k n0 p c path K'=some (x,q,J')/\Qj J J'
 | [],c,path,K,K',h,x,q,J,e=>by
  simp only[j6,Option.some.injEq,Prod.mk.injEq]at e;obtain⟨rfl,rfl,rfl⟩:=e;exact⟨K',rfl,h⟩
 |t::p,c,path,K,K',h,x,q,J,e=>by
  cases t<;>cases c<;>simp only[j6]at e<;>first|(cases e;done)|simp only[jV]
  ·exact iR p _ _ _ _ (Pe P aF h) _ _ _ e
  ·exact iR p _ _ _ _ h _ _ _ e
  ·exact iR p _ _ _ _ (zZ h) _ _ _ e
  ·exact iR p _ _ _ _ (EZ aF h) _ _ _ e
  ·exact iR p _ _ _ _ h _ _ _ e
  ·exact iR p _ _ _ _ h _ _ _ e
def Ps(fn:Func)(k:Nat)(args:List V)(S:List Ob):Tr:=
 ob fn.body λ c=>aH (decide (args.length<=fn.ntmps)&&bG S.length args)
  (cM P aF fn k S.length c [] (vN P fn S.length) (args++List.replicate (fn.ntmps-args.length) .u) [] S)
def Pq(fn:Func)(k n0:Nat)(path:List Bool)(vals:List V)(fl:Fl)(S:List Ob):Tr:=
 ob fn.body λ c=>ob (j6 P aF fn k n0 path.reverse c [] (vN P fn n0)) λ l=>match l with
  |(.loop b,p,K)=>cM P aF fn k n0 b (false::p) (sG aF k n0 p K) vals fl S
  |(x,p,K)=>cM P aF fn k n0 x p K vals fl S
def pG:Task->Tr
 | .call k args S=>match aF.ext k with
  |some f=>ob (f args S) .ret
  |none=>ob P.funcs[k]? λ fn=>Ps P aF fn k args S
 | .at_ k n0 path vals fl S=>yX aF k n0 path vals fl S (ob P.funcs[k]? λ fn=>Pq P aF fn k n0 path vals fl S)
theorem PE{k n0:Nat}{path:List Bool}{vals:List V}{fl:Fl}{S:List Ob}{K K':Tr}(h:K.le K'):(yX aF k n0 path vals fl S K).le (yX aF k n0 path vals fl S K'):=by
 unfold yX;split
 ·exact h
 ·split
  ·exact Tr.le_refl _
  ·exact h
theorem Pt(t:Task):(pG P aF t).le (step P aF t):=by
 cases t with
 |call k args S=>
  simp only[pG,step]
  cases he:aF.ext k with
  |some g=>exact Tr.le_refl _
  |none=>
   refine eg λ fn _=>?_;unfold Ps Pr;refine eg λ c _=>bN λ h=>?_;rw[h];exact eO P aF c _ _ _ (λ _ _ _ _=>Tr.le_refl _) _ _ _
 |at_ k n0 path vals fl S=>
  simp only[pG,step];refine PE aF ?_;refine eg λ fn _=>?_;unfold Pq Pp;refine eg λ c _=>?_;refine cE λ l hl=>?_;obtain⟨x,p,K⟩:=l;obtain⟨J',e1,e2⟩:=iR P aF _ _ _ _ _ (λ _ _ _ _=>Tr.le_refl _) _ _ _ hl;rw[e1];simp only[ob];split
  ·rename_i hx;cases hx;exact eO P aF _ _ _ _ (EZ aF e2) _ _ _
  ·rename_i hne hx;cases hx;split
   ·rename_i b' p' K'' hy;cases hy;exact(hne _ rfl).elim
   ·rename_i hy;cases hy;exact eO P aF _ _ _ _ e2 _ _ _
def Mf:Nat->Task->Option Out
 |0,_=>none
 |n+1,t=>aC (Mf n) (pG P aF t)
theorem FT:∀(n:Nat) (t:Task) (o:Out),Mf P aF n t=some o->runN P aF n t=some o
 |0,_,_,h=>by simp[Mf]at h
 |n+1,t,o,h=>Pt P aF t _ _ (iY (FT n) _ _ h)
open Classical in
noncomputable def rk(t:Task):Option Out:=if h:∃r n,Mf P aF n t=some r then some h.choose else none
end
section
variable {P : Program} {aF : Pol}
theorem FR:∀(n:Nat) (t:Task) (r:Out),Mf P aF n t=some r->Mf P aF (n+1) t=some r
 |0,_,_,e=>by simp[Mf]at e
 |n+1,t,r,e=>iY (FR n) _ r e
theorem C1{n m:Nat}(h:n<=m)(t:Task)(r:Out)(e:Mf P aF n t=some r):Mf P aF m t=some r:=by
 induction h with
 |refl=>exact e
 |step _ ih=>exact FR _ t r ih
theorem s5{t:Task}{r:Out}:rk P aF t=some r↔∃n,Mf P aF n t=some r:=by
 constructor
 ·intro h;unfold rk at h;split at h
  ·rename_i hx;obtain⟨n,hn⟩:=hx.choose_spec;injection h with h
   exact⟨n,h▸hn⟩
  ·simp at h
 ·rintro⟨n,hn⟩;have hx:∃r n,Mf P aF n t=some r:=⟨r,n,hn⟩
  unfold rk;rw[dif_pos hx];obtain⟨m,hm⟩:=hx.choose_spec;have h1:=C1 (Nat.le_max_left n m) t r hn;have h2:=C1 (Nat.le_max_right n m) t _ hm;rw[h1]at h2;exact h2.symm
theorem AS:∀(x:Tr) (r:Out),aC (rk P aF) x=some r->∃n,aC (Mf P aF n) x=some r
 | .ret _,_,e=>⟨0,e⟩
 | .fail,_,e=>by simp[aC]at e
 | .call t k,r,e=>by
  simp only[aC]at e
  cases hf:rk P aF t with
  |none=>rw[hf]at e;simp at e
  |some o=>
   rw[hf]at e;obtain⟨n,hn⟩:=s5.1 hf;obtain⟨m,hm⟩:=AS (k o) r e;refine⟨max n m,?_⟩;simp only[aC,C1 (Nat.le_max_left n m) t o hn];exact iY (λ t r h=>C1 (Nat.le_max_right n m) t r h) _ r hm
theorem Bu(t:Task):rk P aF t=aC (rk P aF) (pG P aF t):=by
 apply Option.ext;intro r;constructor
 ·intro h;obtain⟨n,hn⟩:=s5.1 h
  cases n with
  |zero=>simp[Mf]at hn
  |succ n=>exact iY (λ t r h=>s5.2 ⟨n,h⟩) _ r hn
 ·intro h;obtain⟨n,hn⟩:=AS _ r h;exact s5.2 ⟨n+1,hn⟩
theorem ic{t:Task}{o:Out}(h:rk P aF t=some o):run P aF t=some o:=by obtain⟨n,hn⟩:=s5.1 h;exact yF.2 ⟨n,FT P aF n t o hn⟩
theorem aE{t:Task}{T:Tr}(h:pG P aF t=T):rk P aF t=aC (rk P aF) T:=by rw[Bu,h]
end
def sv(n:Nat)(l:List (Nat×V)):List V:=(List.range n).map λ i=>(l.lookup i).getD .u
section
variable {f : Task → Option Out}
@[simp] theorem aD(o:Out):aC f (.ret o)=some o:=rfl
@[simp] theorem Sm:aC f .fail=none:=rfl
@[simp] theorem ca{α:Type}(x:Option α)(K:α->Tr):aC f (ob x K)=x.bind λ a=>aC f (K a):=aX f x K
@[simp] theorem aP(c:Bool)(x:Tr):aC f (aH c x)=if c=true then aC f x else none:=bI f c x
@[simp] theorem aO(c:Bool)(x y:Tr):aC f (aM c x y)=if c=true then aC f x else aC f y:=by cases c<;>rfl
@[simp] theorem aY(t:Task)(K:Out->Tr):aC f (.call t K)=(f t).bind λ o=>aC f (K o):=ft f t K
@[simp] theorem aA(t:Task):aC f (.call t .ret)=f t:=by rw[ft];cases f t<;>rfl
@[simp] theorem bH(k j:IntKind)(n:Int)(K:Int->Tr):aC f (bR k (.i j n) K)=if j=k then aC f (K n)else none:=by simp only[bR,bI,beq_iff_eq]
@[simp] theorem oJ(b:Bool)(K:Bool->Tr):fN (.b b) K=K b:=rfl
@[simp] theorem iE(b:List UInt8)(K:List UInt8->Tr):eF (.s b) K=K b:=rfl
@[simp] theorem eH(f:Bool)(xs:List D)(K:Bool->List D->Tr):fT (.l f xs) K=K f xs:=rfl
@[simp] theorem bM(d:D)(K:D->Tr):bm (.d d) K=K d:=rfl
@[simp] theorem qI(vs:List V)(K:List V->Tr):cL (.t vs) K=K vs:=rfl
@[simp] theorem jJ(b:Ob)(bs:List Ob)(K:Ob->List Ob->Tr):ee (b::bs) K=K b bs:=rfl
@[simp] theorem kI(K:Tr):iK [] K=K:=rfl
@[simp] theorem iv(cs:List V)(fl:Fl)(K:List V->Fl->Tr):dx (.cells cs fl) K=K cs fl:=rfl
@[simp] theorem V5(es:List (D×D))(K:List (D×D)->Tr):PU (.map es) K=K es:=rfl
@[simp] theorem VI(s:List UInt8)(n:Nat)(K:List UInt8->Nat->Tr):IU (.iter s n) K=K s n:=rfl
theorem HC(cs:List V)(len:Nat)(K:List V->Nat->Tr):aC f (SS (.m 0 0 len,[.cells cs []]) K)=if bG 0 cs=true then aC f (K cs len)else none:=by simp only[SS,bI]
@[simp] theorem jU(n:Nat)(cs:List D)(K:List D->Tr):aC f (jM n (.g cs) K)=if cs.length=n then aC f (K cs)else none:=by simp only[jM,bI,beq_iff_eq]
end
@[simp] theorem bQ{α:Type}(l:List α)(n:Nat):bJ l (n:Int)=l[n]?:=by simp[bJ]
@[simp] theorem pZ{α:Type}(l:List α):bJ l 0=l[0]?:=by simp[bJ]
@[simp] theorem V7(b:Bool):(D.b b).width=1:=rfl
@[simp] theorem kJ(k:IntKind)(n:Int):(D.i k n).width=1:=rfl
@[simp] theorem Wa(x:List UInt8):(D.s x).width=1:=rfl
@[simp] theorem V9(f:Bool)(xs:List D):(D.l f xs).width=1:=rfl
@[simp] theorem V8(cs:List D):(D.g cs).width=cs.length:=rfl
@[simp] theorem VT(b:Bool):(D.b b).cells=[.b b]:=rfl
@[simp] theorem kB(k:IntKind)(n:Int):(D.i k n).cells=[.i k n]:=rfl
@[simp] theorem VW(x:List UInt8):(D.s x).cells=[.s x]:=rfl
@[simp] theorem VV(f:Bool)(xs:List D):(D.l f xs).cells=[.l f xs]:=rfl
@[simp] theorem VU(cs:List D):(D.g cs).cells=cs:=rfl
@[simp] theorem cN(k:IntKind)(zs:List Int):(ints k zs).length=zs.length:=iZ k zs
@[simp] theorem eJ(k:IntKind)(zs:List Int)(i:Nat):(ints k zs)[i]?=zs[i]?.map (.i k):=by simp[ints]
@[simp] theorem eR(k:IntKind)(zs:List Int):bw 1 (ints k zs)=true:=by cases zs<;>simp[ints,bw]
@[simp] theorem Hx(n:Nat):bw n []=true:=rfl
@[simp] theorem Sk(n:Nat)(x:D)(xs:List D):bw n (x::xs)=(x.width==n):=rfl
theorem AT(k:IntKind)(z:Int)(zs:List Int):ints k (z::zs) = .i k z::ints k zs:=rfl
theorem ja(k:IntKind)(a:List Int)(z:Int):ints k a++[.i k z]=ints k (a++[z]):=by simp[ints]
theorem mT(k:IntKind)(a:List Int)(n:Nat):(ints k a).take n=ints k (a.take n):=by simp[ints]
@[simp] theorem Sw(k:IntKind)(zs:List Int):dK (ints k zs)=true:=by simp[dK,ints,D.cells,V.one]
@[simp] theorem TZ:dK []=true:=rfl
@[simp] theorem Sv(x:D)(xs:List D):dK (x::xs)=((x.cells.all λ c=>(V.d c).one)&&dK xs):=by simp[dK]
@[simp] theorem XK(b:Bool):(V.d (.b b)).one=true:=rfl
@[simp] theorem XL(k:IntKind)(n:Int):(V.d (.i k n)).one=true:=rfl
@[simp] theorem XN(x:List UInt8):(V.d (.s x)).one=true:=rfl
@[simp] theorem XM(f:Bool)(xs:List D):(V.d (.l f xs)).one=true:=rfl
theorem wrap_i64{n:Int}(h1:-9223372036854775808<=n)(h2:n<=9223372036854775807):i64.wrap n=n:=by
 have e:((2:Int)^i64.bits)=18446744073709551616:=by decide
 have e2:((2:Int)^(i64.bits-1))=9223372036854775808:=by decide
 simp only[IntKind.wrap,IntKind.signed,Bool.true_and,decide_eq_true_eq,e,e2];split<;>omega
theorem wrap_u8{n:Int}(h1:0<=n)(h2:n<256):u8.wrap n=n:=by
 have e:((2:Int)^u8.bits)=256:=by decide
 simp only[IntKind.wrap,IntKind.signed,Bool.false_and,e];simp;omega
section
variable {f : Task → Option Out}
theorem cp{t:Task}{o:Out}{K:Out->Tr}(h:f t=some o):aC f (.call t K)=aC f (K o):=by rw[ft,h];rfl
theorem aK{t:Task}{o:Out}(h:f t=some o):aC f (.call t .ret)=some o:=by rw[cp h];rfl
theorem dH{t:Task}{b:Bool}{K:Bool->Tr}(h:f t=some (.d (.b b),[])):
  aC f (.call t λ o=>aH o.snd.isEmpty (bm o.fst λ d=>fN d λ x=>K x))=aC f (K b):=cp h
theorem fh{t:Task}{s:List UInt8}{K:List UInt8->Tr}(h:f t=some (.d (.s s),[])):
  aC f (.call t λ o=>aH o.snd.isEmpty (bm o.fst λ d=>eF d λ x=>K x))=aC f (K s):=cp h
theorem eE{t:Task}{b:Bool}{l:List D}{K:Bool->List D->Tr}(h:f t=some (.d (.l b l),[])):
  aC f (.call t λ o=>aH o.snd.isEmpty (bm o.fst λ d=>fT d λ x y=>K x y))=aC f (K b l):=cp h
theorem ed{t:Task}{k:IntKind}{n:Int}{K:Int->Tr}(h:f t=some (.d (.i k n),[])):
  aC f (.call t λ o=>aH o.snd.isEmpty (bm o.fst λ d=>bR k d λ x=>K x))=aC f (K n):=by
 rw[cp h];show aC f (bR k (.i k n) K)=_;rw[bH,if_pos rfl]
theorem vQ{t:Task}{k j:IntKind}{n m:Int}{e e':V}{K:Int->Int->Tr}(h:f t=some (.t [.d (.i k n),.d (.i j m)],[])):
  aC f (.call t λ o=>aH o.snd.isEmpty (cL o.fst λ l=>aH (l.length==2) (bm (l.getD 0 e) λ d=>bR k d λ x=>bm (l.getD 1 e') λ d'=>bR j d' λ y=>K x y)))=aC f (K n m):=by
 rw[cp h];show aC f (bR k (.i k n) λ x=>bR j (.i j m) λ y=>K x y)=_;rw[bH,if_pos rfl,bH,if_pos rfl]
theorem BH{t:Task}{k:IntKind}{n:Int}{b:Bool}{e e':V}{K:Int->Bool->Tr}(h:f t=some (.t [.d (.i k n),.d (.b b)],[])):
  aC f (.call t λ o=>aH o.snd.isEmpty (cL o.fst λ l=>aH (l.length==2) (bm (l.getD 0 e) λ d=>bR k d λ x=>bm (l.getD 1 e') λ d'=>fN d' λ y=>K x y)))=aC f (K n b):=by
 rw[cp h];show aC f (bR k (.i k n) λ x=>fN (.b b) λ y=>K x y)=_;rw[bH,if_pos rfl];rfl
theorem aJ{c:Prop}[Decidable c]{X:Tr}(h:c:=by omega):aC f (aH (decide c) X)=aC f X:=by rw[aP,decide_eq_true h,if_pos rfl]
theorem aN{X:Tr}:aC f (aH true X)=aC f X:=by rw[aP,if_pos rfl]
theorem bz{c:Prop}[Decidable c]{X Y:Tr}(h:c:=by omega):aC f (aM (decide c) X Y)=aC f X:=by rw[aO,decide_eq_true h,if_pos rfl]
theorem bn{c:Prop}[Decidable c]{X Y:Tr}(h:¬c:=by omega):aC f (aM (decide c) X Y)=aC f Y:=by rw[aO,decide_eq_false h,if_neg (by decide)]
theorem dz{b:Bool}{X Y:Tr}(h:b=true):aC f (aM b X Y)=aC f X:=by rw[aO,h,if_pos rfl]
theorem cF{b:Bool}{X Y:Tr}(h:b=false):aC f (aM b X Y)=aC f Y:=by rw[aO,h,if_neg (by decide)]
theorem bF{X Y:Tr}:aC f (aM true X Y)=aC f X:=rfl
theorem bo{X Y:Tr}:aC f (aM false X Y)=aC f Y:=rfl
theorem jF{X Y:Tr}:aC f (aM (!true) X Y)=aC f Y:=rfl
theorem iI{X Y:Tr}:aC f (aM (!false) X Y)=aC f X:=rfl
theorem bK{n m:Int}{X Y:Tr}(h:n=m:=by omega):aC f (aM (n==m) X Y)=aC f X:=dz (beq_iff_eq.2 h)
theorem bu{n m:Int}{X Y:Tr}(h:n≠m:=by omega):aC f (aM (n==m) X Y)=aC f Y:=cF (beq_eq_false_iff_ne.2 h)
theorem ep{n m:Int}{X Y:Tr}(h:n≠m):aC f (aM (n != m) X Y)=aC f X:=dz (bne_iff_ne.2 h)
theorem dN{n m:Int}{X Y:Tr}(h:n=m):aC f (aM (n != m) X Y)=aC f Y:=cF (by rw[h];exact bne_self_eq_false m)
theorem aR{α:Type}{x:Option α}{a:α}{K:α->Tr}(h:x=some a):aC f (ob x K)=aC f (K a):=by rw[ca,h];rfl
end
section
variable {f : Task → Option Out}
theorem bS{k:IntKind}{n:Int}{K:Int->Tr}:aC f (bR k (.i k n) K)=aC f (K n):=by rw[bH,if_pos rfl]
theorem di{t:Task}{k:IntKind}{n:Int}{cs:List V}{fl fl':Fl}{m:Nat}{K:List V->Int->Tr}(h:f t=some (.d (.i k n),[.cells cs fl]))(hm:cs.length=m)(hf:(fl==fl')=true):
  aC f (.call t λ o=>ee o.snd λ x l2=>dx x λ c g=>aH (c.length==m) (aH (g==fl') (iK l2 (bm o.fst λ d=>bR k d λ y=>K c y))))=aC f (K cs n):=by
 rw[cp h];show aC f (aH (cs.length==m) (aH (fl==fl') (bR k (.i k n) λ y=>K cs y)))=_;rw[hm,beq_self_eq_true,aN,hf,aN,bH,if_pos rfl]
theorem dr{t:Task}{b:Bool}{cs:List V}{fl fl':Fl}{m:Nat}{K:List V->Bool->Tr}(h:f t=some (.d (.b b),[.cells cs fl]))(hm:cs.length=m)(hf:(fl==fl')=true):
  aC f (.call t λ o=>ee o.snd λ x l2=>dx x λ c g=>aH (c.length==m) (aH (g==fl') (iK l2 (bm o.fst λ d=>fN d λ y=>K c y))))=aC f (K cs b):=by
 rw[cp h];show aC f (aH (cs.length==m) (aH (fl==fl') (K cs b)))=_;rw[hm,beq_self_eq_true,aN,hf,aN]
theorem cr{t:Task}{cs:List V}{fl fl':Fl}{m:Nat}{K:List V->Tr}(h:f t=some (.t [],[.cells cs fl]))(hm:cs.length=m)(hf:(fl==fl')=true):
  aC f (.call t λ o=>ee o.snd λ x l2=>dx x λ c g=>aH (c.length==m) (aH (g==fl') (iK l2 (cL o.fst λ v=>aH (v.length==0) (K c)))))=aC f (K cs):=by
 rw[cp h];show aC f (aH (cs.length==m) (aH (fl==fl') (aH true (K cs))))=_;rw[hm,beq_self_eq_true,aN,hf,aN,aN]
end
abbrev vi(n:Int):V := .d (.i .i64 n)
abbrev vu(n:Int):V := .d (.i .u64 n)
abbrev vs(s:List UInt8):V := .d (.s s)
abbrev vl(b:Bool)(l:List D):V := .d (.l b l)
abbrev vb(b:Bool):V := .d (.b b)
abbrev gD(w k:Nat)(d:D)(j:Nat):D:=(List.take w (List.drop k d.cells)).getD j (D.b false)
abbrev eL(l:List D)(n:Int)(w:Nat)(K:D->Tr):Tr:=ob (bJ l n) λ d=>aH (d.width==w) (ob l[n.toNat]? λ e=>aH (decide (w<=e.width)) (K e))
abbrev eC(l:List D)(n:Int)(w j:Nat)(K:D->Tr):Tr:=ob (bJ l n) λ d=>aH (d.width==w) (ob l[n.toNat]? λ e=>ob e.cells[j]? K)
abbrev cV(t:Task)(K:V->Tr):Tr := .call t λ o=>aH o.snd.isEmpty (K o.fst)
abbrev aS(v:V)(K:List UInt8->Tr):Tr:=bm v λ d=>eF d K
abbrev aB(v:V)(K:Bool->Tr):Tr:=bm v λ d=>fN d K
abbrev aI(v:V)(K:Int->Tr):Tr:=bm v λ d=>bR .i64 d K
abbrev aU(v:V)(K:Int->Tr):Tr:=bm v λ d=>bR .u64 d K
abbrev aL(v:V)(K:Bool->List D->Tr):Tr:=bm v λ d=>fT d K
abbrev c1(t:Task)(n:Nat)(fl:Fl)(K:V->List V->Tr):Tr := .call t λ o=>ee o.snd λ x l=>dx x λ c g=>aH (c.length==n) (aH (g==fl) (iK l (K o.fst c)))
abbrev c2(t:Task)(n:Nat)(fl:Fl)(m:Nat)(fm:Fl)(K:V->List V->List V->Tr):Tr:=
 .call t λ o=>ee o.snd λ x l=>dx x λ c g=>aH (c.length==n) (aH (g==fl) (ee l λ y k=>dx y λ d h=>aH (d.length==m) (aH (h==fm) (iK k (K o.fst c d)))))
def Tc:Loc->Loc
 | .obj 1 => .obj 0
 |_ => .ext
def zf:Loc->Loc
 | .obj _ => .obj 1
 | .cell _ off => .cell 1 off
 |ℓ=>ℓ
def jm(G:Sg):Sg:=⟨G.F,λ b=>(G.own b).map Tc⟩
open Classical in
noncomputable def Qf(G A:Sg):Sg:=⟨A.F,λ b=>if (jm G).own b=some .ext then G.own b else(A.own b).map zf⟩
section
variable {P : Program} {aF : Pol}
theorem oQ{G:Sg}{b id:Nat}:(jm G).own b=some (.obj id)↔G.own b=some (.obj 1)/\id=0:=by
 simp only[jm]
 cases h:G.own b with
 |none=>simp
 |some ℓ=>
  cases ℓ with
  |obj i=>
   by_cases hi:i=1
   ·subst hi;simp[Tc];exact eq_comm
   ·have:Tc (.obj i) = .ext:=by
     unfold Tc;split
     ·rename_i e;injection e with e;exact absurd e hi
     ·rfl
    simp[this,hi]
  |_=>simp[Tc]
theorem G3{G:Sg}{b:Nat}{ℓ:Loc}(h:G.own b=some ℓ)(hn:ℓ ≠ .obj 1):(jm G).own b=some .ext:=by
 simp only[jm,h,Option.map_some];congr 1;unfold Tc;split
 ·exact absurd rfl hn
 ·rfl
theorem Jl{G:Sg}{b:Nat}{ℓ:Loc}(h:(jm G).own b=some ℓ):∃ℓ',G.own b=some ℓ':=by
 simp only[jm]at h
 cases h':G.own b with
 |none=>rw[h']at h;simp at h
 |some ℓ'=>exact⟨_,rfl⟩
theorem Ny{G:Sg}{b:Nat}{ℓ:Loc}(h:(jm G).own b=some ℓ):ℓ = .ext\/ℓ = .obj 0:=by
 simp only[jm]at h;obtain⟨ℓ',_,rfl⟩:=Option.map_eq_some_iff.1 h;unfold Tc;split
 ·exact .inr rfl
 ·exact .inl rfl
theorem cf.up{k:Nat}{args:List V}{cs cs':List V}{v:V}{x:Ob}(h:cf P k (.p 0 0::args) [.cells cs []] (v,[.cells cs' []]))(ha:bG 0 args=true)(hc:bG 0 cs=true)(hc':bG 0 cs'=true)(hv:bP 0 v=true):
  cf P k (.p 1 0::args) [.cells cs [],x] (v,[.cells cs' [],x]):=by
 intro w G vs hI hr hsl;have hIA:Inv w (jm G) [.cells cs []]:=by
  refine⟨hI.fz,λ b id h=>?_,λ b b' id h h'=>?_,λ b ℓ h=>?_,λ b id o h=>?_,λ id cs0 fl h=>?_,hI.tb_of λ b _ h0=>⟨rfl,by simp[jm,h0]⟩⟩
  ·obtain⟨hg,e0⟩:=oQ.1 h;subst e0;obtain⟨h1,o,go,h2,h3,h4⟩:=hI.ob b 1 hg;have:o = .cells cs []:=by simpa[bT]using h2.symm
   subst this;refine⟨h1,_,go,rfl,h3,?_⟩;cases go<;>simp only[gI]at h4⊢;obtain⟨p1,p2,p3⟩:=h4;refine⟨p1,λ o c hcc=>?_,λ o sz hm=>by simp at hm⟩;obtain⟨y,hy,hry,hf,ho⟩:=p2 o c hcc;exact⟨y,hy,RV.lift (A:=G) (B:=jm G) (n:=0) (λ _ _ _ h=>h) (λ b i hi _=>by omega) c y (da.1 hc c (List.mem_of_getElem? hcc)) hry,hf,ho⟩
  ·exact hI.inj _ _ _ (oQ.1 h).1 (oQ.1 h').1
  ·obtain⟨ℓ',h'⟩:=Jl h;exact hI.tk _ _ h'
  ·rcases Ny h with e|e<;>cases e
  ·have:id=0:=by have:=du h;simpa using this
   subst this;simp[bT]at h;obtain⟨rfl,rfl⟩:=h;exact dh (by omega) _ hc
 have hrA:dJ (jm G) (.p 0 0::args) vs.toList:=by simp only[dJ]at hr⊢;obtain⟨y,r,e,h1,h2⟩:=hr;refine⟨y,r,e,?_,dJ.lift (A:=G) (B:=jm G) (n:=0) (λ _ _ _ h=>h) (λ b i hi _=>by omega) _ _ ha h2⟩;simp only[RV]at h1⊢;obtain⟨blk,ho,e⟩:=h1;exact⟨blk,oQ.2 ⟨ho,rfl⟩,e⟩
 refine(h w (jm G) vs hIA hrA λ b q h=>by rcases Ny h with e|e<;>cases e).mono ?_;rintro y w' ⟨A,hy,hA,hE⟩;have hidK:∀b,(jm G).own b=some .ext->A.own b=some .ext/\w'.heap[b]?=w.heap[b]?/\(∀o,A.F b o=G.F b o)/\(Qf G A).own b=G.own b:=by intro b hb;obtain⟨ℓ,hℓ⟩:=Jl hb;obtain⟨h1,h2,h3⟩:=hE.keep b (hI.tk _ _ hℓ) (.inr hb);exact⟨by rw[h1];exact hb,h2,h3,by simp only[Qf];rw[if_pos hb]⟩
 have seen:∀b,(jm G).own b≠some .ext->(Qf G A).own b=(A.own b).map zf:=by intro b hb;simp only[Qf];rw[if_neg hb]
 have seen':∀b ℓ,A.own b=some ℓ->ℓ ≠ .ext->(Qf G A).own b=some (zf ℓ):=by intro b ℓ h1 h2;rw[seen b λ hb=>h2 (by have:=(hidK b hb).1;rw[h1]at this;exact Option.some.inj this),h1];rfl
 have hobj:∀b id,(Qf G A).own b=some (.obj id)->((jm G).own b=some .ext/\G.own b=some (.obj id)/\id=0)\/(A.own b=some (.obj 0)/\id=1/\(jm G).own b≠some .ext):=by
  intro b id h;by_cases hb:(jm G).own b=some .ext
  ·rw[(hidK b hb).2.2.2]at h;obtain⟨_,o,_,ho,_⟩:=hI.ob _ _ h;have hlt:=du ho;simp only[List.length_cons,List.length_nil]at hlt;have:id≠1:=by rintro rfl;rw[oQ.2 ⟨h,rfl⟩]at hb;cases hb
   exact .inl ⟨hb,h,by omega⟩
  ·rw[seen b hb]at h;obtain⟨ℓ,h1,h2⟩:=Option.map_eq_some_iff.1 h
   cases ℓ with
   |obj i=>
    simp only[zf]at h2;injection h2 with h2
    obtain⟨_,o,_,ho,_⟩:=hA.ob _ _ h1;have hlt:=du ho;simp only[List.length_cons,List.length_nil]at hlt;have:i=0:=by omega
    subst this;exact .inr ⟨h1,h2.symm,hb⟩
   |cell i o=>simp only[zf]at h2;cases h2
   |slot q=>simp only[zf]at h2;cases h2
   |ext=>simp only[zf]at h2;cases h2
 have hle:Le G (Qf G A):=by
  refine⟨hE.F,λ b id h=>?_⟩;by_cases hid:id=1
  ·subst hid;rw[seen' b _ (hE.obj _ _ (oQ.2 ⟨h,rfl⟩)) (by simp)];rfl
  ·rw[(hidK b (G3 h (by simp[hid]))).2.2.2];exact h
 have hlift:∀z u,bP 0 z=true->RV A z u->RV (Qf G A) z u:=λ z u hz hu=>RV.lift (A:=A) (B:=Qf G A) (n:=0) (λ _ _ _ h=>h) (λ b i hi _=>by omega) z u hz hu;refine⟨Qf G A,hlift _ _ hv hy,⟨hA.fz,λ b id h=>?_,λ b b' id h h'=>?_,λ b ℓ h=>?_,λ b id o h=>?_,λ id cs0 fl h=>?_,λ b arr hb=>⟨(hA.tb b arr hb).1,?_⟩⟩,⟨hE.os,hE.tape,hE.output,hE.size,hE.F,hle.obj,λ b hb h=>?_,λ b id h hid=>?_,λ id hid hn=>?_,Nat.le_refl _⟩⟩
 ·rcases hobj b id h with⟨h1,h2,rfl⟩|⟨h1,rfl,_⟩
  ·obtain⟨k1,k2,k3,k4⟩:=hidK b h1;obtain⟨p1,o,go,p2,p3,p4⟩:=hI.ob _ _ h2;refine⟨λ o=>(k3 o).trans (p1 o),o,go,p2,by rw[k2];exact p3,p4.same hle λ off blk hk=>?_⟩;obtain⟨j1,j2,j3,j4⟩:=hidK blk (G3 hk (by simp));exact⟨by rw[j4];exact hk,j2,j3⟩
  ·obtain⟨p1,o,go,p2,p3,p4⟩:=hA.ob _ _ h1;have:o = .cells cs' []:=by simpa[bT]using p2.symm
   subst this;refine⟨p1,_,go,rfl,p3,?_⟩;cases go<;>simp only[gI]at p4⊢;obtain⟨q1,q2,q3⟩:=p4;refine⟨q1,λ o c hcc=>?_,λ o sz hm=>by simp at hm⟩;obtain⟨u,hu,hru,hf,ho⟩:=q2 o c hcc;exact⟨u,hu,hlift c u (da.1 hc' c (List.mem_of_getElem? hcc)) hru,hf,ho⟩
 ·rcases hobj b id h with⟨h1,h2,h3⟩|⟨h1,h2,_⟩<;>rcases hobj b' id h' with⟨k1,k2,k3⟩|⟨k1,k2,_⟩
  ·exact hI.inj _ _ _ h2 k2
  ·omega
  ·omega
  ·exact hA.inj _ _ _ h1 k1
 ·by_cases hb:(jm G).own b=some .ext
  ·rw[(hidK b hb).2.2.2]at h;exact Nat.lt_of_lt_of_le (hI.tk _ _ h) hE.size
  ·rw[seen b hb]at h;obtain⟨ℓ',h1,_⟩:=Option.map_eq_some_iff.1 h;exact hA.tk _ _ h1
 ·by_cases hb:(jm G).own b=some .ext
  ·rw[(hidK b hb).2.2.2]at h;exact hI.cl _ _ _ h
  ·rw[seen b hb]at h;obtain⟨ℓ',h1,h2⟩:=Option.map_eq_some_iff.1 h
   cases ℓ' with
   |obj i=>simp only[zf]at h2;cases h2
   |cell i o'=>simp only[zf]at h2;injection h2 with h2 _;subst h2;simp
   |slot q=>simp only[zf]at h2;cases h2
   |ext=>simp only[zf]at h2;cases h2
 ·have hlt:=du h;simp only[List.length_cons,List.length_nil]at hlt;rcases(by omega:id=0\/id=1)with rfl|rfl
  ·exact hI.rf 0 cs0 fl (by simpa[bT]using h)
  ·simp[bT]at h;obtain⟨rfl,rfl⟩:=h;exact dh (by omega) _ hc'
 ·have h0:=hI.tb b arr hb;have h1:=hA.tb b arr hb;rw[seen b (by simp[jm,h0.2]),h1.2];rfl
 ·rcases h with h|h
  ·have hd:(jm G).own b=none:=by simp[jm,h]
   obtain⟨k1,k2,k3⟩:=hE.keep b hb (.inl hd);exact⟨by rw[seen b (by rw[hd];simp),k1,hd,h];rfl,k2,k3⟩
  ·have hd:=G3 h (by simp)
   obtain⟨k1,k2,k3,k4⟩:=hidK b hd;exact⟨k4,k2,k3⟩
 ·rcases hobj b id h with⟨h1,h2,_⟩|⟨h1,rfl,_⟩
  ·exact h2
  ·exact(oQ.1 (hE.newo b 0 h1 (by simp))).1
 ·simp only[List.length_cons,List.length_nil]at hid;rcases(by omega:id=0\/id=1)with rfl|rfl
  ·simp[bT]
  ·have:=hE.ph 0 (by simp) λ b hb=>hn b (oQ.1 hb).1
   simpa[bT]using this
noncomputable def lA(P:Program)(aF:Pol)(k:Nat)(args:List V)(S:List Ob):Option Out:=
 match args,S with
 | .p 1 0::as,[.cells cs [],x]=>if bG 0 as=true/\bG 0 cs=true then
   (match run P aF (.call k (.p 0 0::as) [.cells cs []]) with
   |some (v,[.cells cs' []])=>if bG 0 cs'=true/\bP 0 v=true then some (v,[.cells cs' [],x])else none
   |_=>none)else none
 |as,S=>run P aF (.call k as S)
theorem oc(hg:kP P (run P aF)){k:Nat}{args:List V}{S:List Ob}{o:Out}(h:lA P aF k args S=some o):cf P k args S o:=by
 unfold lA at h;split at h
 ·rename_i as cs x;split at h
  ·rename_i hc;split at h
   ·rename_i v cs' hr;split at h
    ·rename_i hc2;injection h with h;subst h
     exact(hg _ _ _ _ hr).up hc.1 hc.2 hc2.1 hc2.2
    ·cases h
   ·cases h
  ·cases h
 ·exact hg _ _ _ _ h
theorem PW{k:Nat}{as cs cs':List V}{v:V}{x:Ob}(h:run P aF (.call k (.p 0 0::as) [.cells cs []])=some (v,[.cells cs' []]))(ha:bG 0 as=true)(hc:bG 0 cs=true)(hc':bG 0 cs'=true)(hv:bP 0 v=true):
  lA P aF k (.p 1 0::as) [.cells cs [],x]=some (v,[.cells cs' [],x]):=by
 simp only[lA,if_pos (And.intro ha hc),h,if_pos (And.intro hc' hv)]
end
end Go.Dn
namespace Go.Dn
open Go.IntKind (i64 u64 u8 u16 i32 u32)
def Uy:Nat->Nat->List Bool->List Bool
 |0,_,a=>a
 |f+1,n,a=>if n<=1 then a else Uy f (n / 2) ((n%2==1)::a)
@[irreducible] def fw(n:Nat):List Bool:=Uy 60 n []
abbrev pb(l:List D)(n:Nat):D:=l.getD n (.b false)
abbrev Ul(l:List V)(n:Nat):V:=l.getD n (vb false)
theorem UM{α:Type}{c:Prop}[Decidable c]{a b:α}(h:¬c:=by omega):(if c then a else b)=b:=if_neg h
abbrev mP:=List UInt8
abbrev Uk:Fl:=[(1,21000001),(73,2000000)]
abbrev JG(x0:List UInt8)(x1 x2:Bool)(x3:List D)(x4 x5:Int):List V:=sv 100 [(0,.p 0 0),(2,vs x0),(3,vb x1),(9,vl x2 x3),(10,vi x4),(11,vi x5),(12,.p 1 0)]
abbrev BK(x0:List UInt8)(x1:Bool)(x2:List D):List V:=sv 83 [(0,.p 0 0),(1,vs x0),(5,vl x1 x2),(6,.p 1 0)]
abbrev NF(x0:Bool)(x1:List D)(x2:Bool)(x3:List D)(x4:Int)(x5:Bool)(x6:List D)(x7 x8:Int):List V:=sv 56 [(1,vl x0 x1),(5,vl x2 x3),(6,vu x4),(20,vl x5 x6),(21,vi x7),(22,vi x8)]
abbrev TA(x0:List UInt8)(x1 x2:Int):List V:=sv 72 [(0,.p 0 0),(1,vs x0),(5,.p 1 0),(6,.p 2 0),(7,.p 3 0),(8,vi x1),(9,vi x2),(10,.p 4 0)]
abbrev T7(x0:Int)(x1:Bool)(x2:List UInt8)(x3 x4:Int)(x5:Bool)(x6:Int)(x7:Bool)(x8:List D)(x9 x10:Int)(x11:Bool):List V:=sv 172 [(1,vi x0),(8,vb x1),(9,vs x2),(10,vu x3),(11,vu x4),(12,vb x5),(17,vu x6),(99,vl x7 x8),(100,vi x9),(101,vi x10),(159,vb x11)]
abbrev RX(x0:Int)(x1:List UInt8)(x2:Int):List V:=sv 68 [(0,.p 0 0),(1,vi x0),(4,.p 1 0),(5,.p 2 0),(6,vs x1),(7,vi x2)]
abbrev IB:List V:=sv 79 [(0,.p 0 0),(2,.p 1 0),(4,.p 2 0)]
abbrev TB(x0:List UInt8)(x1 x2:Bool)(x3:List D)(x4 x5:Int)(x6:Bool):List V:=sv 100 [(0,.p 0 0),(2,vs x0),(3,vb x1),(9,vl x2 x3),(10,vi x4),(11,vi x5),(12,.p 1 0),(83,vb x6)]
abbrev JB(x0:Bool)(x1:List D)(x2:Bool)(x3:List D)(x4:V)(x5:Bool)(x6:List D)(x7:Int):List V:=sv 64 [(0,vl x0 x1),(1,vl x2 x3),(4,x4),(5,vl x5 x6),(7,vi x7)]
abbrev RZ(x0:List UInt8)(x1:Int)(x2:Bool)(x3:List D)(x4:Bool)(x5:Int)(x6:Bool):List V:=sv 133 [(0,vs x0),(4,vu x1),(5,vl x2 x3),(6,vb x4),(7,vi x5),(55,vb x6)]
abbrev qT(x0:List UInt8):List V:=sv 37 [(1,.p 0 0),(3,vs x0)]
abbrev uK(x0:List UInt8)(x1:Int)(x2:Bool)(x3:List D)(x4:Bool)(x5:Int):List V:=sv 133 [(0,vs x0),(4,vu x1),(5,vl x2 x3),(6,vb x4),(7,vi x5)]
abbrev tP(x0:Bool)(x1:List D)(x2:Bool)(x3:List D)(x4:V)(x5:Bool)(x6:List D)(x7:Int):List V:=sv 60 [(0,vl x0 x1),(1,vl x2 x3),(7,x4),(8,vl x5 x6),(9,vi x7)]
abbrev H3(x0 x1:Int)(x2:Bool):List V:=sv 84 [(0,.p 0 0),(2,.p 1 0),(3,.p 2 0),(4,vi x0),(5,vu x1),(46,vb x2)]
abbrev ub:List V:=sv 79 [(2,.p 0 0),(8,.p 1 0),(9,.p 2 0)]
abbrev xM(x0:Int):List V:=sv 242 [(0,.p 0 0),(2,.p 1 0),(6,.p 2 0),(7,vi x0)]
abbrev BL(x0:Int)(x1 x2:Bool):List V:=sv 242 [(0,.p 0 0),(2,.p 1 0),(3,vi x0),(4,vb x1),(140,vb x2)]
abbrev NK(x0:Int)(x1:Bool)(x2:List UInt8)(x3 x4:Int)(x5:Bool)(x6:Int)(x7:Bool)(x8:List D)(x9 x10:Int):List V:=sv 172 [(1,vi x0),(8,vb x1),(9,vs x2),(10,vu x3),(11,vu x4),(12,vb x5),(13,vu x6),(99,vl x7 x8),(100,vi x9),(101,vi x10)]
abbrev H4(x0:Int)(x1:List UInt8)(x2:Int)(x3:Bool):List V:=sv 110 [(0,.p 0 0),(2,.p 1 0),(3,vi x0),(4,vs x1),(5,vi x2),(103,vb x3)]
abbrev BM(x0:Int)(x1 x2:Bool):List V:=sv 242 [(0,.p 0 0),(2,.p 1 0),(3,vi x0),(4,vb x1),(97,vb x2)]
abbrev yK(x0:Int)(x1:Bool):List V:=sv 110 [(0,.p 0 0),(2,.p 1 0),(3,vi x0),(55,vb x1)]
abbrev Og(x0:Bool)(x1:List D)(x2:V)(x3:Int)(x4:V)(x5:Int)(x6:Bool)(x7:List D)(x8 x9:Int)(x10:Bool)(x11:List D)(x12 x13:Int):List V:=sv 68 [(1,vl x0 x1),(5,x2),(6,vi x3),(7,x4),(8,vu x5),(18,vl x6 x7),(19,vi x8),(20,vi x9),(25,vl x10 x11),(26,vi x12),(27,vi x13)]
abbrev BN(x0:List UInt8)(x1 x2:Int)(x3:Bool):List V:=sv 67 [(0,.p 0 0),(1,vs x0),(2,vi x1),(7,vi x2),(33,vb x3)]
abbrev K9(x0:List UInt8)(x1 x2:Bool)(x3:List D)(x4 x5:Int)(x6:Bool):List V:=sv 100 [(0,.p 0 0),(2,vs x0),(3,vb x1),(9,vl x2 x3),(10,vi x4),(11,vi x5),(26,vb x6)]
abbrev H5(x0:Int)(x1:Bool)(x2:List D)(x3 x4:Int)(x5:Bool)(x6:List D)(x7:Int):List V:=sv 133 [(4,vu x0),(5,vl x1 x2),(7,vi x3),(8,vi x4),(11,vl x5 x6),(12,vi x7)]
abbrev R7(x0:Int)(x1:Bool)(x2:List UInt8)(x3 x4:Int)(x5:Bool)(x6:Int)(x7:V)(x8:Bool)(x9:List D)(x10 x11:Int)(x12:Bool):List V:=sv 172 [(1,vi x0),(8,vb x1),(9,vs x2),(10,vu x3),(11,vu x4),(12,vb x5),(13,vu x6),(15,x7),(99,vl x8 x9),(100,vi x10),(101,vi x11),(106,vb x12)]
abbrev Sc(x0:Int)(x1:Bool)(x2:List UInt8)(x3 x4:Int)(x5:Bool)(x6:Int)(x7:V)(x8:Bool)(x9:List D)(x10 x11:Int)(x12:Bool):List V:=sv 172 [(1,vi x0),(8,vb x1),(9,vs x2),(10,vu x3),(11,vu x4),(12,vb x5),(13,vu x6),(15,x7),(99,vl x8 x9),(100,vi x10),(101,vi x11),(112,vb x12)]
abbrev Sl(x0:Int)(x1:Bool)(x2:List UInt8)(x3 x4:Int)(x5:Bool)(x6:Int)(x7:V)(x8:Bool)(x9:List D)(x10 x11:Int)(x12:Bool):List V:=sv 172 [(1,vi x0),(8,vb x1),(9,vs x2),(10,vu x3),(11,vu x4),(12,vb x5),(13,vu x6),(15,x7),(99,vl x8 x9),(100,vi x10),(101,vi x11),(121,vb x12)]
abbrev yP(x0:List UInt8)(x1:Bool)(x2:List D)(x3:Bool):List V:=sv 83 [(0,.p 0 0),(1,vs x0),(5,vl x1 x2),(38,vb x3)]
abbrev H6(x0 x1:List UInt8)(x2:Bool):List V:=sv 61 [(0,.p 0 0),(2,vs x0),(6,.p 1 0),(7,vs x1),(8,vb x2)]
abbrev Io:List V:=sv 83 [(0,.p 0 0),(3,.p 1 0),(7,.p 2 0),(8,.p 3 0)]
abbrev Ou(x0:List UInt8)(x1 x2:Int):List V:=sv 72 [(0,.p 0 0),(1,vs x0),(5,.p 1 0),(6,.p 2 0),(7,.p 3 0),(8,vi x1),(9,vi x2)]
abbrev yQ(x0:List UInt8)(x1:Bool)(x2:List D)(x3:Bool)(x4:List D)(x5:Int):List V:=sv 147 [(3,vs x0),(6,vl x1 x2),(7,vl x3 x4),(8,vi x5)]
abbrev Ov(x0:Int)(x1:List UInt8)(x2:Int)(x3:Bool):List V:=sv 68 [(0,.p 0 0),(1,vi x0),(4,.p 1 0),(5,.p 2 0),(6,vs x1),(7,vi x2),(37,vb x3)]
abbrev y6(x0:List UInt8)(x1:Int)(x2:List UInt8)(x3:Int):List V:=sv 34 [(0,vs x0),(3,vi x1),(4,vs x2),(5,vi x3)]
abbrev y9(x0:Bool):List V:=sv 28 [(0,.p 0 0),(3,.p 1 0),(21,vb x0)]
abbrev zj(x0:Bool)(x1:List D)(x2:Bool)(x3:List D)(x4 x5:V)(x6:Int):List V:=sv 133 [(1,vl x0 x1),(2,vl x2 x3),(7,x4),(8,x5),(9,vi x6)]
abbrev Lf(x0 x1:Int):List V:=sv 84 [(0,.p 0 0),(2,.p 1 0),(3,.p 2 0),(4,vi x0),(5,vu x1)]
abbrev zW(x0:Bool)(x1:List D):List V:=sv 65 [(0,.p 0 0),(3,vl x0 x1),(4,.p 1 0)]
abbrev Iq(x0:Int)(x1:Bool):List V:=sv 117 [(0,.p 1 0),(3,.p 2 0),(11,vi x0),(54,vb x1)]
abbrev Lg(x0 x1:Int):List V:=sv 84 [(0,.p 0 0),(2,.p 1 0),(3,.p 2 0),(5,vu x0),(6,vi x1)]
abbrev Lh(x0:List UInt8)(x1 x2:Int)(x3:Bool)(x4:List UInt8)(x5:Bool):List V:=sv 172 [(0,vs x0),(1,vi x1),(2,vi x2),(8,vb x3),(9,vs x4),(83,vb x5)]
abbrev Iv(x0:Bool)(x1:List D)(x2:Bool)(x3:List D)(x4 x5:V)(x6:Int)(x7:Bool):List V:=sv 133 [(1,vl x0 x1),(2,vl x2 x3),(7,x4),(8,x5),(9,vi x6),(35,vb x7)]
abbrev Li(x0:Bool)(x1:List D)(x2:Bool)(x3:List D)(x4:Bool)(x5:List D)(x6 x7:Int)(x8:Bool):List V:=sv 42 [(0,vl x0 x1),(1,vl x2 x3),(5,vl x4 x5),(6,vu x6),(7,vi x7),(21,vb x8)]
abbrev Lt(x0:Int)(x1:List UInt8)(x2:Int):List V:=sv 110 [(0,.p 0 0),(2,.p 1 0),(3,vi x0),(4,vs x1),(5,vi x2)]
abbrev LX(x0 x1:Int)(x2:Bool):List V:=sv 78 [(0,.p 0 0),(1,vi x0),(5,.p 1 0),(6,vi x1),(37,vb x2)]
abbrev AM(x0:List UInt8)(x1:Int):List V:=sv 100 [(1,.p 0 0),(4,vs x0),(5,vi x1)]
abbrev AU(x0:List UInt8)(x1:Int):List V:=sv 100 [(1,.p 0 0),(6,vs x0),(7,vi x1)]
abbrev Bh(x0:List UInt8)(x1:Int):List V:=sv 125 [(1,.p 0 0),(4,vs x0),(5,vi x1)]
abbrev OA(x0:Int)(x1 x2 x3:Bool):List V:=sv 242 [(0,.p 0 0),(2,.p 1 0),(3,vi x0),(4,vb x1),(5,vb x2),(186,vb x3)]
abbrev Bi(x0:List UInt8)(x1:Bool)(x2:List D):List V:=sv 83 [(0,.p 0 0),(1,vs x0),(5,vl x1 x2)]
abbrev OF(x0 x1:V)(x2 x3 x4 x5 x6 x7:Int):List V:=sv 55 [(0,x0),(1,x1),(6,vu x2),(7,vi x3),(8,vu x4),(9,vu x5),(19,vi x6),(20,vi x7)]
abbrev Bq(x0:Int)(x1:Bool)(x2:List D)(x3:Bool)(x4:List D):List V:=sv 133 [(4,vu x0),(11,vl x1 x2),(13,vl x3 x4)]
abbrev L1(x0:Bool):List V:=sv 55 [(0,.p 0 0),(4,.p 1 0),(6,.p 2 0),(47,vb x0)]
abbrev OG(x0:List UInt8)(x1 x2:Bool)(x3:List D)(x4 x5:Int):List V:=sv 100 [(0,.p 0 0),(2,vs x0),(3,vb x1),(9,vl x2 x3),(10,vi x4),(11,vi x5)]
abbrev BA(x0:List UInt8)(x1 x2:Int):List V:=sv 147 [(3,vs x0),(8,vi x1),(14,vu x2)]
abbrev OS(x0:Int)(x1:V)(x2:Int)(x3:Bool):List V:=sv 194 [(0,.p 0 0),(2,.p 1 0),(3,vi x0),(4,x1),(6,vi x2),(152,vb x3)]
abbrev Me(x0:Int)(x1:Bool):List V:=sv 194 [(0,.p 0 0),(2,.p 1 0),(3,vi x0),(115,vb x1)]
abbrev Mk(x0:List UInt8)(x1:Int)(x2:Bool)(x3:List D)(x4:Int)(x5:Bool):List V:=sv 133 [(0,vs x0),(4,vu x1),(5,vl x2 x3),(7,vi x4),(79,vb x5)]
abbrev Mn(x0 x1:V)(x2 x3 x4 x5:Int):List V:=sv 55 [(0,x0),(1,x1),(7,vi x2),(8,vu x3),(19,vi x4),(20,vi x5)]
abbrev Cc(x0:Bool)(x1:List D)(x2:Bool):List V:=sv 65 [(0,.p 0 0),(3,vl x0 x1),(29,vb x2)]
abbrev O3(x0:Int)(x1:Bool):List V:=sv 73 [(0,.p 0 0),(1,vi x0),(4,.p 1 0),(5,.p 2 0),(41,vb x1)]
abbrev O9(x0 x1:Int):List V:=sv 83 [(0,.p 0 0),(3,.p 1 0),(4,vi x0),(5,vi x1),(6,.p 2 0)]
abbrev BE(x0:Bool)(x1:List D)(x2:Bool)(x3:List D)(x4:Int):List V:=sv 49 [(0,vl x0 x1),(1,vl x2 x3),(5,vi x4)]
abbrev IC(x0 x1:V)(x2 x3 x4:Int):List V:=sv 55 [(0,x0),(1,x1),(6,vu x2),(19,vi x3),(20,vi x4)]
abbrev Pl(x0:Int)(x1:Bool)(x2:List D)(x3:Int)(x4:Bool)(x5:List D)(x6 x7:Int):List V:=sv 65 [(1,vi x0),(5,vl x1 x2),(6,vu x3),(38,vl x4 x5),(39,vi x6),(40,vi x7)]
abbrev IH(x0:Int):List V:=sv 110 [(0,.p 0 0),(2,.p 1 0),(3,vi x0)]
abbrev BF(x0:Bool)(x1:List D)(x2:List UInt8)(x3:Int):List V:=sv 23 [(0,vl x0 x1),(3,vs x2),(4,vi x3)]
abbrev Mo(x0:Int)(x1:Bool):List V:=sv 78 [(0,.p 0 0),(1,vi x0),(5,.p 1 0),(20,vb x1)]
abbrev Pm(x0:Int)(x1:List UInt8):List V:=sv 68 [(0,.p 0 0),(1,vi x0),(4,.p 1 0),(5,.p 2 0),(6,vs x1)]
abbrev Py(x0:Bool)(x1:List D)(x2 x3:Int):List V:=sv 55 [(1,.p 0 0),(3,.p 1 0),(13,vl x0 x1),(14,vi x2),(15,vi x3)]
abbrev PH(x0:Bool)(x1:List D)(x2 x3:Int):List V:=sv 55 [(1,.p 0 0),(3,.p 1 0),(26,vl x0 x1),(27,vi x2),(28,vi x3)]
abbrev SF(x0:Int)(x1:List UInt8)(x2:Int)(x3:Bool):List V:=sv 68 [(0,.p 0 0),(1,vi x0),(4,.p 1 0),(5,.p 2 0),(6,vs x1),(7,vi x2),(29,vb x3)]
abbrev Qk(x0:List UInt8)(x1 x2:Int)(x3:Bool)(x4:List UInt8)(x5:Int):List V:=sv 172 [(0,vs x0),(1,vi x1),(2,vi x2),(8,vb x3),(9,vs x4),(10,vu x5)]
abbrev Mr(x0:Int)(x1:Bool):List V:=sv 33 [(0,.p 0 0),(3,.p 1 0),(7,vi x0),(8,vb x1)]
abbrev uL(x0:V)(x1:Int)(x2:Bool):List V:=sv 22 [(0,x0),(3,vi x1),(15,vb x2)]
abbrev IJ(x0:Bool)(x1:List D)(x2 x3 x4:Int):List V:=sv 23 [(0,vl x0 x1),(3,vu x2),(7,vi x3),(8,vi x4)]
abbrev I2(x0:List UInt8)(x1:Bool)(x2 x3:Int):List V:=sv 56 [(0,vs x0),(4,vb x1),(5,vu x2),(6,vi x3)]
abbrev Jj(x0:Bool):List V:=sv 93 [(0,.p 1 0),(1,.p 2 0),(40,vb x0)]
abbrev QR(x0 x1:List UInt8)(x2:Bool):List V:=sv 61 [(0,.p 0 0),(2,vs x0),(6,.p 1 0),(7,vs x1),(29,vb x2)]
abbrev QU(x0:Int)(x1 x2:V)(x3:Bool):List V:=sv 194 [(0,.p 0 0),(2,.p 1 0),(3,vi x0),(4,x1),(5,x2),(72,vb x3)]
abbrev QV(x0:Int)(x1 x2:Bool):List V:=sv 242 [(0,.p 0 0),(2,.p 1 0),(3,vi x0),(4,vb x1),(5,vb x2)]
abbrev Q0(x0:List UInt8)(x1:Bool)(x2:List D)(x3:Int)(x4:Bool)(x5:List D)(x6 x7:Int):List V:=sv 50 [(0,vs x0),(3,vl x1 x2),(4,vi x3),(6,vl x4 x5),(7,vi x6),(8,vi x7)]
abbrev Rd:List V:=sv 79 [(2,.p 0 0),(8,.p 1 0),(9,.p 2 0),(10,.p 3 0)]
abbrev Re(x0:V)(x1:Bool)(x2:List D)(x3:Int)(x4:Bool)(x5:List D)(x6 x7:Int):List V:=sv 40 [(1,x0),(5,vl x1 x2),(6,vu x3),(13,vl x4 x5),(14,vi x6),(15,vi x7)]
abbrev My(x0:Bool)(x1:List D)(x2:Bool)(x3:List D)(x4:Bool)(x5:List D)(x6:V)(x7:Int):List V:=sv 133 [(1,vl x0 x1),(2,vl x2 x3),(7,vl x4 x5),(8,x6),(9,vi x7)]
abbrev MU(x0:List UInt8)(x1 x2:Int):List V:=sv 67 [(0,.p 0 0),(1,vs x0),(2,vi x1),(7,vi x2)]
abbrev MV(x0:List UInt8)(x1:Int)(x2:Bool)(x3:List D)(x4:Bool):List V:=sv 147 [(3,vs x0),(8,vi x1),(10,vl x2 x3),(104,vb x4)]
abbrev Rf(x0:List UInt8)(x1:Int)(x2 x3:List UInt8)(x4:Bool):List V:=sv 147 [(3,vs x0),(8,vi x1),(15,vs x2),(16,vs x3),(130,vb x4)]
abbrev Jm(x0:Bool)(x1:List D)(x2:Bool):List V:=sv 66 [(0,.p 0 0),(3,vl x0 x1),(29,vb x2)]
abbrev Rh(x0:List UInt8)(x1:Bool)(x2:List D)(x3 x4:Int):List V:=sv 31 [(0,.p 0 0),(1,vs x0),(5,vl x1 x2),(6,vi x3),(7,vi x4)]
abbrev Ri(x0:Bool)(x1:List D)(x2:Bool)(x3:List D)(x4:V)(x5 x6 x7:Int):List V:=sv 68 [(0,vl x0 x1),(1,vl x2 x3),(5,x4),(6,vi x5),(7,vu x6),(8,vi x7)]
abbrev Ro(x0:Bool):List V:=sv 79 [(2,.p 0 0),(8,.p 1 0),(9,.p 2 0),(38,vb x0)]
abbrev Rp(x0:Bool):List V:=sv 79 [(2,.p 0 0),(8,.p 1 0),(9,.p 2 0),(46,vb x0)]
abbrev Rt(x0:List UInt8):List V:=sv 68 [(0,.p 0 0),(4,.p 1 0),(5,.p 2 0),(6,vs x0)]
abbrev RM(x0:Bool)(x1:List D)(x2 x3:Int):List V:=sv 117 [(0,.p 1 0),(104,vl x0 x1),(105,vi x2),(106,vi x3)]
abbrev BI(x0:Bool)(x1:List D):List V:=sv 66 [(0,.p 0 0),(3,vl x0 x1)]
abbrev BJ(x0:Bool)(x1:List D):List V:=sv 65 [(0,.p 0 0),(3,vl x0 x1)]
abbrev NC(x0:Bool)(x1:List D)(x2:Bool)(x3:List D)(x4:Bool)(x5:List D)(x6:Bool):List V:=sv 38 [(0,vl x0 x1),(1,vl x2 x3),(2,vl x4 x5),(19,vb x6)]
abbrev RT(x0:List UInt8)(x1 x2:Int)(x3:Bool)(x4:List UInt8):List V:=sv 172 [(0,vs x0),(1,vi x1),(2,vi x2),(8,vb x3),(9,vs x4)]
abbrev CT(x0:Int)(x1 x2:List UInt8)(x3:Int)(x4:Bool):List V:=sv 32 [(0,vi x0),(2,vs x1),(3,vs x2),(9,vi x3),(13,vb x4)]
abbrev Dl(x0:Int)(x1:Bool):List V:=sv 242 [(0,.p 0 0),(2,.p 1 0),(3,vi x0),(38,vb x1)]
abbrev uR(x0:List UInt8)(x1:Bool)(x2:List D)(x3:Bool)(x4:List D)(x5:Int):List V:=sv 76 [(3,vs x0),(4,vl x1 x2),(5,vl x3 x4),(6,vi x5)]
abbrev vh(x0:List UInt8)(x1:Bool)(x2 x3:Int):List V:=sv 75 [(0,vs x0),(5,vb x1),(6,vi x2),(7,vi x3)]
abbrev vR(x0:Bool):List V:=sv 93 [(0,.p 1 0),(1,.p 2 0),(18,vb x0)]
abbrev qt(x0:V)(x1:Int):List V:=sv 22 [(0,x0),(3,vi x1)]
abbrev DG(x0:Int)(x1:Bool):List V:=sv 73 [(0,.p 0 0),(1,vi x0),(4,.p 1 0),(60,vb x1)]
abbrev DW(x0 x1:Int):List V:=sv 83 [(0,.p 0 0),(3,.p 1 0),(4,vi x0),(5,vi x1)]
abbrev vS(x0:Bool)(x1:List D):List V:=sv 66 [(0,.p 0 0),(3,vl x0 x1),(4,.p 1 0)]
abbrev Eg(x0:Bool)(x1:List D)(x2 x3:Int):List V:=sv 117 [(0,.p 1 0),(41,vl x0 x1),(42,vi x2),(43,vi x3)]
abbrev Eh(x0:Bool)(x1:List D)(x2 x3:Int):List V:=sv 117 [(0,.p 1 0),(70,vl x0 x1),(71,vi x2),(72,vi x3)]
abbrev ug(x0:V)(x1:Bool):List V:=sv 146 [(0,.p 0 0),(2,x0),(30,vb x1)]
abbrev uv(x0:Bool)(x1:List D)(x2:Int)(x3:Bool):List V:=sv 22 [(0,vl x0 x1),(3,vi x2),(15,vb x3)]
abbrev tq(x0:Int):List V:=sv 146 [(0,.p 0 0),(3,vi x0)]
abbrev Es(x0:Bool)(x1:List D)(x2 x3:Int):List V:=sv 55 [(3,.p 1 0),(41,vl x0 x1),(42,vi x2),(43,vi x3)]
abbrev Et(x0:Bool)(x1:List D)(x2:V)(x3:Bool)(x4:List D)(x5 x6:Int):List V:=sv 68 [(1,vl x0 x1),(5,x2),(18,vl x3 x4),(19,vi x5),(20,vi x6)]
abbrev uG(x0:Bool)(x1:List D)(x2:Bool)(x3:List D)(x4:Int):List V:=sv 69 [(0,vl x0 x1),(1,vl x2 x3),(6,vi x4)]
abbrev JN(x0 x1:Int)(x2:Bool):List V:=sv 194 [(0,.p 0 0),(2,.p 1 0),(3,vi x0),(6,vi x1),(170,vb x2)]
abbrev EL(x0:Bool)(x1:List D)(x2 x3:Int):List V:=sv 18 [(0,.p 1 0),(6,vl x0 x1),(7,vi x2),(8,vi x3)]
abbrev ra:List V:=sv 146 [(0,.p 0 0)]
abbrev EP(x0:Int)(x1 x2:List UInt8):List V:=sv 78 [(0,.p 0 0),(6,vi x0),(7,vs x1),(8,vs x2)]
abbrev JO(x0:Int)(x1 x2:V)(x3:Bool):List V:=sv 194 [(0,.p 0 0),(2,.p 1 0),(3,vi x0),(4,x1),(5,x2),(83,vb x3)]
abbrev vU(x0:Bool)(x1:List D)(x2:Int)(x3:V)(x4:Int):List V:=sv 53 [(0,vl x0 x1),(1,vi x2),(5,x3),(6,vi x4)]
abbrev rn(x0:Bool)(x1:List D)(x2:Int):List V:=sv 22 [(0,vl x0 x1),(3,vi x2)]
abbrev Fa(x0:List UInt8)(x1:Int)(x2 x3:List UInt8):List V:=sv 147 [(3,vs x0),(8,vi x1),(15,vs x2),(16,vs x3)]
abbrev Ff:List V:=sv 93 [(0,.p 1 0),(1,.p 2 0),(5,.p 3 0)]
abbrev JQ(x0:Int)(x1:V)(x2:Bool):List V:=sv 194 [(0,.p 0 0),(2,.p 1 0),(3,vi x0),(4,x1),(118,vb x2)]
abbrev Fh(x0:List UInt8)(x1:Int)(x2 x3:List UInt8):List V:=sv 76 [(3,vs x0),(6,vi x1),(7,vs x2),(8,vs x3)]
abbrev JV(x0:Int)(x1:V)(x2:Int):List V:=sv 194 [(0,.p 0 0),(2,.p 1 0),(3,vi x0),(4,x1),(6,vi x2)]
abbrev Kc(x0:Int)(x1:V)(x2:Int):List V:=sv 194 [(0,.p 0 0),(2,.p 1 0),(3,vi x0),(4,x1),(7,vi x2)]
abbrev Kj(x0:Bool):List V:=sv 93 [(0,.p 1 0),(1,.p 2 0),(4,.p 3 0),(55,vb x0)]
abbrev wN(x0:Int)(x1:Bool)(x2:List D)(x3:Bool):List V:=sv 69 [(6,vi x0),(9,vl x1 x2),(59,vb x3)]
abbrev wS(x0:List UInt8)(x1 x2:Bool):List V:=sv 75 [(0,vs x0),(5,vb x1),(33,vb x2)]
abbrev Kw(x0:Int)(x1:Bool):List V:=sv 242 [(0,.p 0 0),(2,.p 1 0),(3,vi x0),(62,vb x1)]
abbrev xi:List V:=sv 93 [(0,.p 1 0),(1,.p 2 0)]
abbrev Ky(x0:Bool)(x1:List D)(x2:Bool):List V:=sv 66 [(0,.p 0 0),(3,vl x0 x1),(4,.p 1 0),(47,vb x2)]
abbrev KL(x0:Int)(x1 x2:V):List V:=sv 194 [(0,.p 0 0),(2,.p 1 0),(3,vi x0),(4,x1),(5,x2)]
abbrev Fi(x0:List UInt8)(x1:Int):List V:=sv 125 [(1,.p 0 0),(4,vs x0),(6,vi x1)]
abbrev Fw(x0:List UInt8)(x1:Int):List V:=sv 125 [(1,.p 0 0),(4,vs x0),(7,vi x1)]
abbrev FX(x0:List UInt8)(x1:Int):List V:=sv 64 [(1,.p 0 0),(3,vs x0),(4,vi x1)]
abbrev FY(x0:List UInt8)(x1:Int):List V:=sv 64 [(1,.p 0 0),(3,vs x0),(5,vi x1)]
abbrev F4(x0:List UInt8)(x1:Int):List V:=sv 64 [(1,.p 0 0),(3,vs x0),(6,vi x1)]
abbrev F5(x0:Bool)(x1:List D)(x2:Int):List V:=sv 18 [(0,.p 0 0),(3,vl x0 x1),(4,vi x2)]
abbrev uI(x0:List UInt8)(x1:Bool):List V:=sv 39 [(0,vs x0),(20,vb x1)]
abbrev Gd(x0:List UInt8)(x1:Int)(x2:Bool):List V:=sv 133 [(0,vs x0),(4,vu x1),(28,vb x2)]
abbrev xt(x0:Bool)(x1:List D):List V:=sv 52 [(5,.p 0 0),(6,vl x0 x1)]
abbrev Ge(x0:List UInt8)(x1 x2:Int):List V:=sv 147 [(3,vs x0),(4,vi x1),(5,vu x2)]
abbrev Gf:List V:=sv 117 [(0,.p 1 0),(3,.p 2 0)]
abbrev Gg:List V:=sv 35 [(0,.p 1 0),(3,.p 2 0)]
abbrev xB(x0:Bool)(x1:List D)(x2:Bool):List V:=sv 36 [(5,vl x0 x1),(31,vb x2)]
abbrev KX(x0:Int)(x1:Bool):List V:=sv 43 [(0,.p 0 0),(3,vi x0),(29,vb x1)]
abbrev Gh(x0:Int):List V:=sv 100 [(1,.p 0 0),(3,vi x0)]
abbrev Gj(x0:List UInt8):List V:=sv 125 [(1,.p 0 0),(4,vs x0)]
abbrev GR(x0:Int):List V:=sv 43 [(0,.p 0 0),(3,vi x0)]
abbrev Hg(x0:List UInt8):List V:=sv 35 [(1,.p 0 0),(3,vs x0)]
abbrev HE(x0 x1:Int):List V:=sv 34 [(4,vu x0),(5,vi x1)]
abbrev HR(x0 x1:Int):List V:=sv 24 [(0,vu x0),(1,vi x1)]
abbrev KY(x0:Bool):List V:=sv 146 [(0,.p 0 0),(20,vb x0)]
abbrev KZ(x0:Bool):List V:=sv 146 [(0,.p 0 0),(52,vb x0)]
abbrev K5(x0:Bool):List V:=sv 146 [(0,.p 0 0),(87,vb x0)]
abbrev HS:List V:=sv 20 [(0,.p 1 0)]
abbrev HT:List V:=sv 35 [(0,.p 1 0)]
abbrev nY(x0:Int)(x1 x2:List UInt8)(x3 x4 x5:Int)(x6:List UInt8)(x7:Bool)(x8:List D)(x9:Bool)(x10:List D)(x11:Bool)(x12:List D)(x13:List UInt8)(x14:Bool)(x15:List D):List V:=[vi x0,vs x1,vs x2,vi x3,vi x4,vu x5,vs x6,vl x7 x8,vl x9 x10,vl x11 x12,vs x13,vl x14 x15]
abbrev nE(x0:Int)(x1:List UInt8)(x2 x3 x4:Int):List V:=[vi x0,vs x1,vi x2,vu x3,vi x4]
abbrev pT(x0:Bool)(x1 x2:Int)(x3 x4:List UInt8)(x5:Bool)(x6 x7 x8:Int)(x9:List UInt8)(x10:Bool)(x11:List D):List V:=[vb x0,vi x1,vi x2,vs x3,vs x4,vb x5,vi x6,vi x7,vu x8,vs x9,vl x10 x11]
abbrev ng(x0:List UInt8)(x1 x2 x3:Int):List V:=[vs x0,vi x1,vi x2,vi x3]
abbrev pd(x0 x1 x2:Int)(x3:List UInt8)(x4:Bool)(x5:List D):List V:=[vi x0,vi x1,vu x2,vs x3,vl x4 x5]
abbrev pH(x0:Bool)(x1:List D)(x2 x3 x4:Int):List V:=[vl x0 x1,vi x2,vi x3,vi x4]
abbrev pB(x0:Bool)(x1:List D)(x2:Bool)(x3:List D)(x4:Bool)(x5:List D):List V:=[vl x0 x1,vl x2 x3,vl x4 x5]
abbrev tF(x0:List UInt8)(x1:Bool)(x2:List UInt8)(x3:Bool)(x4:List D)(x5:Bool)(x6:List D):List V:=[vs x0,vb x1,vs x2,vl x3 x4,vl x5 x6]
end Go.Dn
namespace Go.Dn
open Go.IntKind (i64 u64 u8 u16 i32 u32)
theorem Ww{n:Int}(h1:-9223372036854775808<=n:=by omega)(h2:n<=9223372036854775807:=by omega):i64.wrap n=n:=wrap_i64 h1 h2
theorem U5{n m:Int}(h1:-9223372036854775808<=n:=by omega)(h2:n<=9223372036854775807:=by omega)(h:n=m:=by first|rfl|omega):i64.wrap n=m:=(wrap_i64 h1 h2).trans h
theorem Wv(n:Nat)(h:(n:Int)+1<=9223372036854775807:=by omega):i64.wrap ((n:Int)+1)=((n+1:Nat):Int):=by rw[wrap_i64]<;>omega
end Go.Dn
namespace Go
open Go.IntKind (i64 u64 u8 u16 i32 u32)
theorem VC{α:Type}{a c:Option α}{b:α}(h:a=some b)(k:some b=c:=by kernel_rfl):a=c:=h.trans k
end Go
