/- The evaluator again, in the form in which it is read: what is behind an operation stands inside, values bear their kinds; it answers less often, and never otherwise. -/
import Derived.KernelRfl
import Derived.Test.YtbjllhjbhdjfjaaGreatDoorP1
import Derived.Test.YtbjllhjbhdjfjaaGreatDoorP3
set_option linter.unusedVariables false
set_option linter.unusedSimpArgs false
set_option linter.unusedSectionVars false
namespace Go.Dn
open Go.IntKind (i64 u64 u8 u16 i32 u32)
def Tr.le(a b:Tr):Prop:=∀(f:Task->Option Out) (o:Out),aD f a=some o->aD f b=some o
theorem Tr.le_refl(a:Tr):a.le a:=λ _ _ h=>h
theorem Tr.le_trans{a b c:Tr}(h:a.le b)(k:b.le c):a.le c:=λ f o e=>k f o (h f o e)
theorem bL(a:Tr):Tr.fail.le a:=λ f o h=>by simp[aD]at h
theorem gi{α:Type}{x:Option α}{K K':α->Tr}(h:∀a,x=some a->(K a).le (K' a)):(ob x K).le (ob x K'):=by
 cases x with
 |none=>exact Tr.le_refl _
 |some a=>exact h a rfl
theorem bY{c:Bool}{x y:Tr}(h:c=true->x.le y):(aO c x).le y:=by
 cases c with
 |false=>exact bL _
 |true=>exact h rfl
theorem wk{t:Task}{K K':Out->Tr}(h:∀o,(K o).le (K' o)):(Tr.call t K).le (.call t K'):=by
 intro f o e;simp only[aD]at e⊢
 cases hf:f t with
 |none=>rw[hf]at e;cases e
 |some r=>rw[hf]at e;exact h r f o e
theorem Uq{a:Tr}{K K':Out->Tr}(h:∀o,(K o).le (K' o)):(a.bind K).le (a.bind K'):=by
 intro f o e;rw[pE]at e⊢
 cases hf:aD f a with
 |none=>rw[hf]at e;cases e
 |some r=>rw[hf]at e;exact h r f o e
def bW{α:Type}(x:List α)(n:Int):Option α:=if 0<=n then x[n.toNat]? else none
def aV(c:Bool)(x y:Tr):Tr:=
 match c with
 |true=>x
 |false=>y
def cf(k:IntKind)(d:D)(K:Int->Tr):Tr:=
 match d with
 | .i j n=>aO (j==k) (K n)
 |_ => .fail
def jz(d:D)(K:Bool->Tr):Tr:=
 match d with
 | .b x=>K x
 |_ => .fail
def fJ(d:D)(K:List UInt8->Tr):Tr:=
 match d with
 | .s x=>K x
 |_ => .fail
def gX(d:D)(K:Bool->List D->Tr):Tr:=
 match d with
 | .l f xs=>K f xs
 |_ => .fail
def Qd{α:Type}[Inhabited α](n:Nat)(cs:List α):List α:=(List.range n).map λ i=>cs.getD i default
theorem CG{α:Type}[Inhabited α]{n:Nat}{cs:List α}(h:cs.length=n):Qd n cs=cs:=by
 subst h;apply List.ext_getElem?;intro i;unfold Qd;by_cases hi:i<cs.length
 ·simp[hi]
 ·rw[abN (by simp;omega),abN (by omega)]
def j5(n:Nat)(d:D)(K:List D->Tr):Tr:=
 match d with
 | .g cs=>aO (cs.length==n) (K cs)
 |_ => .fail
def bG(v:V)(K:D->Tr):Tr:=
 match v with
 | .d x=>K x
 |_ => .fail
def eE(l:List Ob)(K:Ob->List Ob->Tr):Tr:=
 match l with
 |b::bs=>K b bs
 | [] => .fail
def iY(l:List Ob)(K:Tr):Tr:=
 match l with
 | []=>K
 |_ => .fail
def dA(b:Ob)(K:List V->Fl->Tr):Tr:=
 match b with
 | .cells cs fl=>K cs fl
 |_ => .fail
def obK(a b:Ob)(K:Ob->Tr):Tr:=
 match a with
 | .cells cs fl=>dA b λ cs' fl'=>aO (cs'.length==cs.length) (aO (fl'==fl) (K (.cells cs' fl)))
 | .dead => .fail
def H2:List Ob->List Ob->(List Ob->Tr)->Tr
 | [],l,K=>iY l (K [])
 |a::as,l,K=>eE l λ b bs=>obK a b λ b'=>H2 as bs λ bs'=>K (b'::bs')
theorem XP{a b:Ob}{K:Ob->Tr}{X:Tr}(h:(K b).le X):(obK a b K).le X:=by
 unfold obK;split
 ·cases b<;>simp only[dA]<;>first|exact bL _|skip
  refine bY λ _=>bY λ e=>?_;simp only[beq_iff_eq]at e;subst e;exact h
 ·exact bL _
theorem JV:∀{A B:List Ob} {K:List Ob->Tr} {X:Tr},(B.length=A.length->(K B).le X)->(H2 A B K).le X
 | [],B,K,X,h=>by
  cases B with
  |nil=>simp only[H2,iY];exact h rfl
  |cons b bs=>simp only[H2,iY];exact bL _
 |a::A,B,K,X,h=>by
  cases B with
  |nil=>simp only[H2,eE];exact bL _
  |cons b bs=>
   simp only[H2,eE];exact XP (JV λ e=>h (by simp[e]))
def WR(o:Out)(K:List V->Nat->Tr):Tr:=
 match o with
 |(.m 0 0 len,[.cells cs []])=>aO (bI 0 cs) (K cs len)
 |_ => .fail
section
variable (P : Program) (aK : Pol)
def VT(t:TypeId)(d:D)(K:D->Tr):Tr:=
 match P.underlying t with
 |some (.int k)=>cf k d λ n=>K (.i k n)
 |some .bool=>jz d λ b=>K (.b b)
 |some .string=>fJ d λ s=>K (.s s)
 |some (.slice _)=>gX d λ f xs=>K (.l f xs)
 |some (.struct _)=>ob (cq P t) λ n=>j5 n d λ cs=>K (.g (Qd n cs))
 |_=>K d
def Z2(t:TypeId)(v:V)(K:V->Tr):Tr:=
 match P.underlying t with
 |some (.int _)=>bG v λ d=>VT P t d λ d=>K (.d d)
 |some .bool=>bG v λ d=>VT P t d λ d=>K (.d d)
 |some .string=>bG v λ d=>VT P t d λ d=>K (.d d)
 |some (.struct _)=>bG v λ d=>VT P t d λ d=>K (.d d)
 |_=>K v
def Z1(t:TypeId)(v:V)(K:V->Tr):Tr:=
 match P.underlying t with
 |some (.slice _)=>bG v λ d=>VT P t d λ d=>K (.d d)
 |_=>Z2 P t v K
def On:List TypeId->List V->(List V->Tr)->Tr
 | [],[],K=>K []
 |t::ts,v::vs,K=>Z1 P t v λ v=>On ts vs λ vs=>K (v::vs)
 |_,_,_ => .fail
def dI(v:V)(K:List V->Tr):Tr:=
 match v with
 | .t vs=>K vs
 |_ => .fail
def L0(ts:List TypeId)(v:V)(K:V->Tr):Tr:=
 match ts with
 | [t]=>Z1 P t v K
 |ts=>dI v λ vs=>aO (vs.length==ts.length) (On P ts (Qd ts.length vs) λ vs=>K (.t vs))
theorem WO{k:IntKind}{d:D}{K:Int->Tr}{X:Tr}(h:∀n,d = .i k n->(K n).le X):(cf k d K).le X:=by
 cases d<;>simp only[cf]<;>first|exact bL _|skip
 refine bY λ e=>h _ ?_;simp only[beq_iff_eq]at e;rw[e]
theorem WL{d:D}{K:Bool->Tr}{X:Tr}(h:∀n,d = .b n->(K n).le X):(jz d K).le X:=by cases d<;>simp only[jz]<;>first|exact bL _|exact h _ rfl
theorem WT{d:D}{K:List UInt8->Tr}{X:Tr}(h:∀n,d = .s n->(K n).le X):(fJ d K).le X:=by cases d<;>simp only[fJ]<;>first|exact bL _|exact h _ rfl
theorem WQ{d:D}{K:Bool->List D->Tr}{X:Tr}(h:∀f n,d = .l f n->(K f n).le X):(gX d K).le X:=by cases d<;>simp only[gX]<;>first|exact bL _|exact h _ _ rfl
theorem WN{n:Nat}{d:D}{K:List D->Tr}{X:Tr}(h:∀cs,d = .g cs->cs.length=n->(K cs).le X):(j5 n d K).le X:=by
 cases d<;>simp only[j5]<;>first|exact bL _|skip
 refine bY λ e=>?_;simp only[beq_iff_eq]at e;exact h _ rfl e
theorem wQ{v:V}{K:D->Tr}{X:Tr}(h:∀d,v = .d d->(K d).le X):(bG v K).le X:=by cases v<;>simp only[bG]<;>first|exact bL _|exact h _ rfl
theorem dy{α:Type}{x:Option α}{K:α->Tr}{X:Tr}(h:∀a,x=some a->(K a).le X):(ob x K).le X:=by
 cases x with
 |none=>exact bL _
 |some a=>exact h a rfl
theorem rY{t:TypeId}{d:D}{K:D->Tr}:(VT P t d K).le (K d):=by
 unfold VT;split
 ·exact WO λ n e=>by rw[e];exact Tr.le_refl _
 ·exact WL λ n e=>by rw[e];exact Tr.le_refl _
 ·exact WT λ n e=>by rw[e];exact Tr.le_refl _
 ·exact WQ λ f n e=>by rw[e];exact Tr.le_refl _
 ·exact dy λ n _=>WN λ cs e hl=>by rw[e,CG hl];exact Tr.le_refl _
 ·exact Tr.le_refl _
theorem S3{t:TypeId}{v:V}{K:V->Tr}:(Z2 P t v K).le (K v):=by
 unfold Z2;split
 ·exact wQ λ d e=>by rw[e];exact rY P
 ·exact wQ λ d e=>by rw[e];exact rY P
 ·exact wQ λ d e=>by rw[e];exact rY P
 ·exact wQ λ d e=>by rw[e];exact rY P
 ·exact Tr.le_refl _
theorem SZ{t:TypeId}{v:V}{K:V->Tr}:(Z1 P t v K).le (K v):=by
 unfold Z1;split
 ·exact wQ λ d e=>by rw[e];exact rY P
 ·exact S3 P
theorem L1:∀{ts:List TypeId} {vs:List V} {K:List V->Tr},(On P ts vs K).le (K vs)
 | [],[],K=>Tr.le_refl _
 |t::ts,v::vs,K=>by
  simp only[On];exact Tr.le_trans (SZ P) L1
 | [],_::_,K=>by simp only[On];exact bL _
 |_::_,[],K=>by simp only[On];exact bL _
theorem Gr{ts:List TypeId}{v:V}{K:V->Tr}:(L0 P ts v K).le (K v):=by
 unfold L0;split
 ·exact SZ P
 ·cases v<;>simp only[dI]<;>first|exact bL _|skip
  refine bY λ e=>?_;simp only[beq_iff_eq]at e;rw[CG e];exact L1 P
def HI(a i:V)(K:V->Tr):Tr:=
 match a,i with
 | .d (.s x),.d (.i _ n)=>ob (bW x n) λ c=>K (.d (.i .u8 c.toNat))
 |_,_ => .fail
theorem MT{a i:V}{K:V->Tr}:(HI a i K).le (ob (qA a i) K):=by
 unfold HI;split
 ·unfold bW;refine dy λ c hc=>?_;split at hc
  ·rename_i h0;simp only[qA,aaR h0,hc,Option.map_some,ob];exact Tr.le_refl _
  ·cases hc
 ·exact bL _
def rI(sz:Nat)(a i:V)(K:V->Tr):Tr:=
 match a,i with
 | .d (.l _ xs),.d (.i _ n)=>ob (bW xs n) λ x=>aO (x.width==sz) (K (.e xs n.toNat 0))
 | .m id off len,.d (.i _ n)=>aO (sz==1) (aO (decide (0<=n/\n<(len:Int))) (K (.p id (off+n.toNat))))
 |_,_ => .fail
theorem zE{sz:Nat}{a i:V}{K:V->Tr}:(rI sz a i K).le (ob (iw sz a i) K):=by
 unfold rI;split
 ·unfold bW;refine dy λ c hc=>?_;split at hc
  ·rename_i h0;refine bY λ hw=>?_;simp only[beq_iff_eq]at hw;simp only[iw,aaR h0,hc,aaR hw,ob];exact Tr.le_refl _
  ·cases hc
 ·refine bY λ h1=>bY λ h2=>?_;simp only[beq_iff_eq]at h1;simp only[decide_eq_true_eq]at h2;simp only[iw,aaR (show sz=1/\_/\_ from⟨h1,h2⟩),ob];exact Tr.le_refl _
 ·exact bL _
def Qe(t:TypeId)(agg:Bool)(sz:Nat)(S:List Ob)(a:V)(K:V->Tr):Tr:=
 match a with
 | .e xs i off=>ob xs[i]? λ x=>match agg with
  |true=>aO (decide (off+sz<=x.width)) (K (.d (.g (Qd sz ((x.cells.drop off).take sz)))))
  |false=>ob x.cells[off]? λ d=>VT P t d λ d=>K (.d d)
 | .p id off=>match bV S id with
  |some (.cells cs _)=>match agg with
   |true=>aO (decide (off+sz<=cs.length)) (ob (y5 ((cs.drop off).take sz)) λ ds=>K (.d (.g ds)))
   |false=>ob cs[off]? λ v=>Z2 P t v K
  |_ => .fail
 |_ => .fail
theorem Mm(x:D):x.cells.length=x.width:=by cases x<;>rfl
theorem Qf{t:TypeId}{agg:Bool}{sz:Nat}{S:List Ob}{a:V}{K:V->Tr}:(Qe P t agg sz S a K).le (ob (gQ agg sz S a) K):=by
 unfold Qe;split
 ·refine dy λ x hx=>?_;split
  ·refine bY λ h=>?_;simp only[decide_eq_true_eq]at h;simp only[gQ,hx,if_true,aaR h,ob];rw[CG (by simp[Mm];omega)];exact Tr.le_refl _
  ·refine dy λ d hd=>?_;simp only[gQ,hx,hd,Option.map_some,ob,Bool.false_eq_true,if_false];exact rY P
 ·split
  ·rename_i hob;split
   ·refine bY λ h=>?_;simp only[decide_eq_true_eq]at h;refine dy λ ds hds=>?_;simp only[gQ,hob,if_true,aaR h,hds,Option.map_some,ob];exact Tr.le_refl _
   ·refine dy λ v hv=>?_;simp only[gQ,hob,hv,ob,Bool.false_eq_true,if_false];exact S3 P
  ·exact bL _
 ·exact bL _
def vF(v:Option V)(dflt most:Nat)(K:Nat->Tr):Tr:=
 match v with
 |none=>K dflt
 |some (.d (.i _ n))=>aO (decide (0<=n/\n<=(most:Int))) (K n.toNat)
 |_ => .fail
theorem nq{v:Option V}{dflt most:Nat}{K:Nat->Tr}{X:Tr}(h:∀n,pS v dflt most=some n->(K n).le X):(vF v dflt most K).le X:=by
 unfold vF;split
 ·exact h _ rfl
 ·refine bY λ h1=>h _ ?_;simp only[decide_eq_true_eq]at h1;simp only[pS,aaR h1]
 ·exact bL _
def C5(sz:Nat)(a:V)(lo hi:Option V)(K:V->Tr):Tr:=
 match a with
 | .d (.s x)=>vF hi x.length x.length λ h=>vF lo 0 h λ l=>K (.d (.s ((x.drop l).take (h-l))))
 | .d (.l _ xs)=>vF hi xs.length xs.length λ h=>vF lo 0 h λ l=>aO (bA sz xs) (K (.d (.l false ((xs.drop l).take (h-l)))))
 | .m id off len=>vF hi len len λ h=>vF lo 0 h λ l=>aO (sz==1) (K (.m id (off+l) (h-l)))
 |_ => .fail
theorem BA{sz:Nat}{a:V}{lo hi:Option V}{K:V->Tr}:(C5 sz a lo hi K).le (ob (ja sz a lo hi) K):=by
 unfold C5;split
 ·refine nq λ h hh=>nq λ l hl=>?_;simp only[ja,hh,hl,ob];exact Tr.le_refl _
 ·refine nq λ h hh=>nq λ l hl=>bY λ e=>?_;simp only[ja,hh,hl,aaR e,ob];exact Tr.le_refl _
 ·refine nq λ h hh=>nq λ l hl=>bY λ e=>?_;simp only[beq_iff_eq]at e;simp only[ja,hh,hl,aaR e,ob];exact Tr.le_refl _
 ·exact bL _
def HC(t:TypeId)(fo sz:Nat)(agg:Bool)(a:V)(K:V->Tr):Tr:=
 match a with
 | .d (.g cs)=>match agg with
  |true=>aO (decide (fo+sz<=cs.length)) (K (.d (.g ((cs.drop fo).take sz))))
  |false=>ob cs[fo]? λ d=>VT P t d λ d=>K (.d d)
 |_ => .fail
theorem ML{t:TypeId}{fo sz:Nat}{agg:Bool}{a:V}{K:V->Tr}:(HC P t fo sz agg a K).le (ob (oq fo sz agg a) K):=by
 unfold HC;split
 ·split
  ·refine bY λ h=>?_;simp only[decide_eq_true_eq]at h;simp only[oq,if_true,aaR h,ob];exact Tr.le_refl _
  ·refine dy λ d hd=>?_;simp only[oq,hd,Option.map_some,ob,Bool.false_eq_true,if_false];exact rY P
 ·exact bL _
def OU(bt:List Nat)(op:BinOp)(a b:V)(K:V->Tr):Tr:=
 match op,a,b with
 | .quo,.d (.i k x),.d (.i j y)=>aO (k==j) (aO (decide (y≠0)) (K (.d (.i k (k.wrap (x.tdiv y))))))
 | .rem,.d (.i k x),.d (.i j y)=>aO (k==j) (aO (decide (y≠0)) (K (.d (.i k (x.tmod y)))))
 | .shl,.d (.i k x),.d (.i _ y)=>aO (decide (0<=y)) (K (.d (.i k (k.wrap (x*2^(min y.toNat k.bits))))))
 | .shr,.d (.i k x),.d (.i _ y)=>aO (decide (0<=y)) (K (.d (.i k (x.fdiv (2^(min y.toNat k.bits))))))
 | .add,.d (.s x),.d (.s y)=>aO (decide (x.length+y.length<4611686018427387904)) (K (.d (.s (x++y))))
 |op,a,b=>ob (lK bt op a b) K
theorem OV{bt:List Nat}{op:BinOp}{a b:V}{K:V->Tr}:(OU bt op a b K).le (ob (lK bt op a b) K):=by
 unfold OU;split
 ·refine bY λ h1=>bY λ h2=>?_;simp only[beq_iff_eq]at h1;simp only[decide_eq_true_eq]at h2;simp only[lK,aaR h1,OT,aaN h2,ob];exact Tr.le_refl _
 ·refine bY λ h1=>bY λ h2=>?_;simp only[beq_iff_eq]at h1;simp only[decide_eq_true_eq]at h2;simp only[lK,aaR h1,OT,aaN h2,ob];exact Tr.le_refl _
 ·refine bY λ h1=>?_;simp only[decide_eq_true_eq]at h1;simp only[lK,Yy,aaN (Int.not_lt.2 h1),ob];exact Tr.le_refl _
 ·refine bY λ h1=>?_;simp only[decide_eq_true_eq]at h1;simp only[lK,Yy,aaN (Int.not_lt.2 h1),ob];exact Tr.le_refl _
 ·refine bY λ h1=>?_;simp only[decide_eq_true_eq]at h1;simp only[lK,TQ,aaR h1,ob];exact Tr.le_refl _
 ·exact Tr.le_refl _
def TA(ks:List Nat)(a b:V):Option Bool:=
 match a,b with
 | .d (.g xs),.d (.g ys)=>xk ks xs ys
 |_,_=>none
def WX(bt:List Nat)(op:BinOp)(a b:V)(K:V->Tr):Tr:=
 match bt,op with
 |9::ks,.eql=>ob (TA ks a b) λ r=>K (.d (.b r))
 |9::ks,.neq=>ob (TA ks a b) λ r=>K (.d (.b !r))
 |bt,op=>OU bt op a b K
theorem Ju{ks:List Nat}{a b:V}{r:Bool}(h:TA ks a b=some r):lK (9::ks) .eql a b=some (.d (.b r))/\lK (9::ks) .neq a b=some (.d (.b !r)):=by
 unfold TA at h;split at h
 ·unfold lK;constructor<;>simp only[h]
 ·cases h
theorem TP{bt:List Nat}{op:BinOp}{a b:V}{K:V->Tr}:(WX bt op a b K).le (ob (lK bt op a b) K):=by
 unfold WX;split
 ·cases h:TA _ a b with
  |none=>exact bL _
  |some r=>rw[(Ju h).1];exact Tr.le_refl _
 ·cases h:TA _ a b with
  |none=>exact bL _
  |some r=>rw[(Ju h).2];exact Tr.le_refl _
 ·exact OV
end
section
variable (P : Program) (aK : Pol)
def QE(c a b:V)(K:V->Tr):Tr:=
 match c with
 | .d (.b x)=>aV x (K a) (K b)
 |_ => .fail
theorem QF{c a b:V}{K:V->Tr}:(QE c a b K).le (ob (x9 c a b) K):=by
 unfold QE;split
 ·rename_i x;cases x<;>exact Tr.le_refl _
 ·exact bL _
def J9(vals:List V)(S:List Ob)(o:Oper)(K:V->Tr):Tr:=
 match o.op with
 | .pick c a b=>ob (ev vals c) λ c=>ob (ev vals a) λ a=>ob (ev vals b) λ b=>QE c a b K
 | .buildSlice t len parts=>ob (mu P t) λ e=>ob (cq P e) λ sz=>
   aO (decide (parts.size=len/\len*sz<=16777216/\(ie P e).isSome=true)) (ob (jN sz 0 (parts.toList.map λ p=>(p.1,ev vals p.2))) λ xs=>K (.d (.l true xs)))
 | .load t a=>ob (mP P t) λ g=>ob (cq P t) λ sz=>ob (ev vals a) λ a=>Qe P t g sz S a K
 | .binOp op t x y _=>ob (OW P t) λ bt=>ob (ev vals x) λ x=>ob (ev vals y) λ y=>WX bt op x y K
 | .convert s d x=>match P.underlying s,P.underlying d with
  |some (.slice e),some .string=>match P.underlying e with
   |some (.int .u8)=>ob (ev vals x) λ x=>ob (view S 1 x) λ xs=>ob (my xs) λ b=>K (.d (.s b))
   |_ => .fail
  |some s',some d'=>ob (ev vals x) λ x=>ob (x8 s' d' x) K
  |_,_ => .fail
 | .slice t x lo hi mx=>match mx with
  |some _ => .fail
  |none=>match P.underlying t with
   |some .string=>ob (ev vals x) λ x=>ob (unS x) λ s=>ob (Dr vals lo) λ lo=>ob (Dr vals hi) λ hi=>C5 1 (.d (.s s)) lo hi K
   |some (.slice e)=>ob (ev vals x) λ x=>ob (unL x) λ v=>ob (cq P e) λ sz=>ob (Dr vals lo) λ lo=>ob (Dr vals hi) λ hi=>C5 sz v lo hi K
   |_ => .fail
 | .field t x f=>match P.underlying t with
  |some (.struct fs)=>match fs[f]? with
   |some g=>ob (cq P g.type) λ sz=>ob (mP P g.type) λ ag=>ob (ev vals x) λ x=>HC P g.type g.offset sz ag x K
   |none => .fail
  |_ => .fail
 | .indexAddr t x i=>match P.underlying t with
  |some (.slice e)=>ob (cq P e) λ sz=>ob (ev vals x) λ x=>ob (ev vals i) λ i=>rI sz x i K
  |_ => .fail
 | .index t x i=>match P.underlying t with
  |some .string=>ob (ev vals x) λ x=>ob (ev vals i) λ i=>HI x i K
  |_ => .fail
 |_=>ob (fA P vals S o) K
theorem FA{vals:List V}{S:List Ob}{o:Oper}{K:V->Tr}:(J9 P vals S o K).le (ob (fA P vals S o) K):=by
 unfold J9;split
 ·rename_i c a b hop;refine dy λ c hc=>dy λ a ha=>dy λ b hb=>?_;have:fA P vals S o=x9 c a b:=by simp[fA,hop,hc,ha,hb]
  rw[this];exact QF
 ·rename_i t len parts hop;refine dy λ e he=>dy λ sz hsz=>bY λ h=>dy λ xs hxs=>?_;simp only[decide_eq_true_eq]at h;have:fA P vals S o=some (.d (.l true xs)):=by simp only[fA,hop,he,hsz,hxs,Option.bind_eq_bind,Option.bind_some,aaR h];rfl
  rw[this];exact Tr.le_refl _
 ·rename_i t a hop;refine dy λ g hg=>dy λ sz hsz=>dy λ a ha=>?_;have:fA P vals S o=gQ g sz S a:=by simp[fA,hop,hg,hsz,ha]
  rw[this];exact Qf P
 ·rename_i op t x y ty hop;refine dy λ bt hbt=>dy λ x hx=>dy λ y hy=>?_;have:fA P vals S o=lK bt op x y:=by simp[fA,hop,hbt,hx,hy]
  rw[this];exact TP
 ·rename_i s d x hop;split
  ·rename_i e hs hd;split
   ·rename_i he;refine dy λ x hx=>dy λ xs hxs=>dy λ b hb=>?_;have:fA P vals S o=some (.d (.s b)):=by simp[fA,hop,hs,hd,he,hx,hxs,hb]
    rw[this];exact Tr.le_refl _
   ·exact bL _
  ·rename_i s' d' hne hs hd;refine dy λ x hx=>?_;have:fA P vals S o=x8 s' d' x:=by simp[fA,hop,hs,hd,hx]
   rw[this];exact Tr.le_refl _
  ·exact bL _
 ·rename_i t x lo hi mx hop;split
  ·exact bL _
  ·split
   ·rename_i hu;refine dy λ x hx=>dy λ s hs=>dy λ lo hlo=>dy λ hi hhi=>?_;have:fA P vals S o=ja 1 (.d (.s s)) lo hi:=by simp[fA,hop,hu,hx,hs,hlo,hhi]
    rw[this];exact BA
   ·rename_i e hu;refine dy λ x hx=>dy λ v hv=>dy λ sz hsz=>dy λ lo hlo=>dy λ hi hhi=>?_;have:fA P vals S o=ja sz v lo hi:=by simp[fA,hop,hu,hx,hv,hsz,hlo,hhi]
    rw[this];exact BA
   ·exact bL _
 ·rename_i t x f hop;split
  ·rename_i fs hu;split
   ·rename_i g hg;refine dy λ sz hsz=>dy λ ag hag=>dy λ x hx=>?_;have:fA P vals S o=oq g.offset sz ag x:=by simp[fA,hop,hu,hg,hsz,hag,hx]
    rw[this];exact ML P
   ·exact bL _
  ·exact bL _
 ·rename_i t x i hop;split
  ·rename_i e hu;refine dy λ sz hsz=>dy λ x hx=>dy λ i hi=>?_;have:fA P vals S o=iw sz x i:=by simp[fA,hop,hu,hsz,hx,hi]
   rw[this];exact zE
  ·exact bL _
 ·rename_i t x i hop;split
  ·rename_i hu;refine dy λ x hx=>dy λ i hi=>?_;have:fA P vals S o=qA x i:=by simp[fA,hop,hu,hx,hi]
   rw[this];exact MT
  ·exact bL _
 ·exact Tr.le_refl _
def sj(S:List Ob)(sz by_:Nat)(fresh:Bool)(base y:V)(K:V->Tr):Tr:=
 bG base λ d=>gX d λ full xs=>ob (dK S sz y) λ zs=>aO (!fresh||full) (aO (bA sz xs) (aO (bA sz zs) (aO (full||dV zs) (aO (decide (by_<=1024)) (aO (decide (xs.length+zs.length<=4294967296)) (K (.d (.l (full&&zs.isEmpty) (xs++zs)))))))))
theorem rj{S:List Ob}{sz by_:Nat}{fresh:Bool}{base y:V}{K:V->Tr}:(sj S sz by_ fresh base y K).le (ob (iv S sz by_ fresh base y) K):=by
 unfold sj
 cases base with
 |d x=>cases x with
  |l full xs=>
   show (ob (dK S sz y) λ zs=>aO (!fresh||full) (aO (bA sz xs) (aO (bA sz zs) (aO (full||dV zs) (aO (decide (by_<=1024)) (aO (decide (xs.length+zs.length<=4294967296)) (K (.d (.l (full&&zs.isEmpty) (xs++zs)))))))))).le _;refine dy λ zs hzs=>bY λ h1=>bY λ h2=>bY λ h3=>bY λ h4=>bY λ h5=>bY λ h6=>?_;simp only[decide_eq_true_eq]at h5 h6;have:iv S sz by_ fresh (.d (.l full xs)) y=some (.d (.l (full&&zs.isEmpty) (xs++zs))):=by simp only[iv,hzs];rw[aaR];refine⟨λ e=>by simpa[e]using h1,h2,h3,λ e=>by simpa[e]using h4,h5,h6⟩
   rw[this];exact Tr.le_refl _
  |_=>exact bL _
 |_=>exact bL _
def IH(S:List Ob)(agg:Bool)(sz:Nat)(fl:Fl)(tk:Option Nat)(a v:V)(K:List Ob->Tr):Tr:=
 match a with
 | .p id off=>match bV S id with
  |some (.cells cs fl0)=>match agg with
   |true=>match v with
    | .d (.g ds)=>aO (decide (ds.length=sz/\off+sz<=cs.length)&&oH none (ds.map .d) fl&&(ds.map V.d).all V.one) (K (oset S id (.cells (zF cs off (ds.map .d)) (fl0.filter (λ x=>!(off<=x.1&&x.1<off+sz))++fl.map (λ x=>(off+x.1,x.2))))))
    |_ => .fail
   |false=>aO (v.one&&sz==1&&decide (off<cs.length)&&cj (id+1) v) (K (oset S id (.cells (cs.set off v) (B2 tk off (eV fl0 off)))))
  |_ => .fail
 |_ => .fail
theorem NR{S:List Ob}{agg:Bool}{sz:Nat}{fl:Fl}{tk:Option Nat}{a v:V}{K:List Ob->Tr}:(IH S agg sz fl tk a v K).le (ob (kr S agg sz fl tk a v) K):=by
 unfold IH;split
 ·split
  ·rename_i hob;split
   ·split
    ·refine bY λ h=>?_;simp only[Bool.and_eq_true,decide_eq_true_eq]at h;simp only[kr,hob,if_true];rw[aaR ⟨h.1.1.1,h.1.1.2,h.1.2,h.2⟩];exact Tr.le_refl _
    ·exact bL _
   ·refine bY λ h=>?_;simp only[Bool.and_eq_true,decide_eq_true_eq,beq_iff_eq]at h;simp only[kr,hob,Bool.false_eq_true,if_false];rw[aaR ⟨h.1.1.1,h.1.1.2,h.1.2,h.2⟩];exact Tr.le_refl _
  ·exact bL _
 ·exact bL _
def UD(S:List Ob)(t:Nat)(fl:Fl)(cs:List V)(K:V->List Ob->Tr):Tr:=
 aO (oH (some t) cs fl&&cs.all V.one&&bI S.length cs) (K (.p S.length 0) (.cells cs fl::S))
theorem JL{S:List Ob}{t:Nat}{fl:Fl}{cs:List V}{K:V->List Ob->Tr}:(UD S t fl cs K).le (ob (kI S t fl cs) λ w=>K w.1 w.2):=by unfold UD;refine bY λ h=>?_;simp only[Bool.and_eq_true]at h;simp only[kI,aaR (show _/\_/\_ from⟨h.1.1,h.1.2,h.2⟩),ob];exact Tr.le_refl _
def WZ(S:List Ob)(t:Nat)(fl:Fl)(sz:Nat)(v:V)(K:V->List Ob->Tr):Tr:=
 match v with
 | .d (.g ds)=>aO (ds.length==sz) (UD S t fl (ds.map .d) K)
 |v=>aO (sz==1) (UD S t fl [v] K)
theorem TS{S:List Ob}{t:Nat}{fl:Fl}{sz:Nat}{v:V}{K:V->List Ob->Tr}:(WZ S t fl sz v K).le (ob (oL S t fl sz v) λ w=>K w.1 w.2):=by
 unfold WZ;split
 ·refine bY λ h=>?_;simp only[beq_iff_eq]at h;simp only[oL,aaR h];exact JL
 ·rename_i hne;refine bY λ h=>?_;simp only[beq_iff_eq]at h;have:oL S t fl sz v=if sz=1 then kI S t fl [v]else none:=by
   unfold oL;split
   ·rename_i ds;exact absurd rfl (hne ds)
   ·rfl
  rw[this,aaR h];exact JL
def aaK(z:D)(n c:V)(K:V->Tr):Tr:=
 match n,c with
 | .d (.i _ n),.d (.i _ c)=>aO (decide (0<=n)) (aO (decide (n<=c)) (aO (decide (c<=4294967296)) (aO (V.d z).one (K (.d (.l false (List.replicate n.toNat z)))))))
 |_,_ => .fail
theorem aaL{z:D}{n c:V}{K:V->Tr}:(aaK z n c K).le (ob (Zz z n c) K):=by
 unfold aaK;split
 ·refine bY λ h1=>bY λ h2=>bY λ h3=>bY λ h4=>?_;simp only[decide_eq_true_eq]at h1 h2 h3;simp only[Zz,aaR (show _/\_/\_/\_ from⟨h1,h2,h3,h4⟩),ob];exact Tr.le_refl _
 ·exact bL _
def HR(S:List Ob)(z n c:V)(K:V->List Ob->Tr):Tr:=
 match n,c with
 | .d (.i _ n),.d (.i _ c)=>aO (decide (0<=n)) (aO (decide (n=c)) (aO (decide (c<=4294967296)) (aO (z.one&&cj S.length z) (K (.m S.length 0 n.toNat) (.cells (List.replicate n.toNat z) []::S)))))
 |_,_ => .fail
theorem M6{S:List Ob}{z n c:V}{K:V->List Ob->Tr}:(HR S z n c K).le (ob (ou S z n c) λ w=>K w.1 w.2):=by
 unfold HR;split
 ·refine bY λ h1=>bY λ h2=>bY λ h3=>bY λ h4=>?_;simp only[decide_eq_true_eq,Bool.and_eq_true]at h1 h2 h3 h4;simp only[ou,aaR (show _/\_/\_/\_/\_ from⟨h1,h2,h3,h4.1,h4.2⟩),ob];exact Tr.le_refl _
 ·exact bL _
def aao(S:List Ob)(by_:Nat)(base y:V)(K:V->List Ob->Tr):Tr:=
 match base with
 | .d (.l true [])=>ob (dK S 1 y) λ zs=>aO (bA 1 zs) (aO ((zs.map V.d).all V.one) (aO (decide (by_<=1024)) (aO (decide (zs.length<=4294967296)) (K (.m S.length 0 zs.length) (.cells (zs.map .d) []::S)))))
 |_ => .fail
theorem aaz{S:List Ob}{by_:Nat}{base y:V}{K:V->List Ob->Tr}:(aao S by_ base y K).le (ob (Yz S by_ base y) λ w=>K w.1 w.2):=by
 unfold aao;split
 ·refine dy λ zs hzs=>bY λ h1=>bY λ h2=>bY λ h3=>bY λ h4=>?_;simp only[decide_eq_true_eq]at h3 h4;simp only[Yz,hzs,aaR (show _/\_/\_/\_ from⟨h1,h2,h3,h4⟩),ob];exact Tr.le_refl _
 ·exact bL _
def ZR(o:Out)(K:List V->Tr):Tr:=
 match o with
 |(.p 0 0,[.cells cs []])=>aO (bI 0 cs) (K cs)
 |_ => .fail
def Y8(t:Option TypeId):Bool:=
 match t with
 |some t=>match P.underlying t with
  |some (.pointer _)=>true
  |_=>false
 |none=>false
def OZ(g:Nat)(args:List V)(S:List Ob)(K:V->List Ob->Tr):Tr:=
 ob P.funcs[g]? λ fn=>match aK.fresh g,mG args with
 |true,0=>match Y8 P fn.resultTypes[0]? with
  |true => .call (.call g args []) λ o=>ZR o λ cs=>K (.p S.length 0) (.cells cs []::S)
  |false => .call (.call g args []) λ o=>WR o λ cs len=>K (.m S.length 0 len) (.cells cs []::S)
 |false,0 => .call (.call g args []) λ o=>aO o.2.isEmpty (L0 P fn.resultTypes.toList o.1 λ v=>aO (v8 v==0) (K v S))
 |_,n+1=>aO (decide (n+1<=S.length)) (.call (.call g args (oR (n+1) S)) λ o=>H2 (oR (n+1) S) o.2 λ S'=>L0 P fn.resultTypes.toList o.1 λ v=>aO (decide (v8 v<=n+1)) (K v (nB (n+1) S++S')))
theorem O0{g:Nat}{args:List V}{S:List Ob}{K:V->List Ob->Tr}:(OZ P aK g args S K).le (aO (decide (mG args<=S.length)) (.call (.call g args (oR (mG args) S)) λ o=>ob (oJ (mG args) S o) λ w=>K w.1 w.2)):=by
 unfold OZ;refine dy λ fn _=>?_;have hl:oR 0 S=[]:=by simp[oR]
 split
 ·rename_i _ hb;rw[hb,hl];simp only[Nat.zero_le,decide_true,aO];split
  ·refine wk λ o=>?_;unfold ZR;split
   ·rename_i cs;refine bY λ h=>?_;have:oJ 0 S (.p 0 0,[.cells cs []])=some (.p S.length 0,.cells cs []::S):=by simp[oJ,h,nB]
    rw[this];exact Tr.le_refl _
   ·exact bL _
  refine wk λ o=>?_;unfold WR;split
  ·rename_i len cs;refine bY λ h=>?_;have:oJ 0 S (.m 0 0 len,[.cells cs []])=some (.m S.length 0 len,.cells cs []::S):=by simp[oJ,h,nB]
   rw[this];exact Tr.le_refl _
  ·exact bL _
 ·rename_i _ hb;rw[hb,hl];simp only[Nat.zero_le,decide_true,aO];refine wk λ o=>bY λ he=>Tr.le_trans (Gr P) (bY λ h0=>?_);have he':o.2=[]:=by simpa using he
  have h0':v8 o.1=0:=by simpa using h0
  have:oJ 0 S o=some (o.1,S):=by unfold oJ;rw[he'];simp[h0',nB]
  rw[this];exact Tr.le_refl _
 ·rename_i _ n hb;rw[hb];refine bY λ hn=>?_;rw[hn];simp only[aO];simp only[decide_eq_true_eq]at hn;refine wk λ o=>JV λ hlen=>Tr.le_trans (Gr P) (bY λ h0=>?_);simp only[decide_eq_true_eq]at h0;have hlow:(oR (n+1) S).length=n+1:=by simp[oR];omega
  have:oJ (n+1) S o=some (o.1,nB (n+1) S++o.2):=by unfold oJ;rw[aaR (by rw[hlen,hlow]),aaR h0]
  rw[this];exact Tr.le_refl _
def Cj(k r i:Nat)(ops:List Oper)(vals:List V)(fl:Fl)(S:List Ob)(o:Oper)(K:V->List Ob->Tr):Tr:=
 match o.op with
 | .store t a x=>ob (mP P t) λ g=>ob (cq P t) λ sz=>ob (ev vals a) λ va=>ob (ev vals x) λ vx=>
   IH S g sz (aK.mR k r i) (match x,o.guard with | .tmp y,none=>tok fl y|_,_=>none) va vx λ S'=>K .u S'
 | .box t x=>ob (cq P t) λ sz=>ob (ev vals x) λ v=>WZ S t (aK.mR k r i) sz v K
 | .makeSlice t n c=>ob (mu P t) λ e=>ob (ie P e) λ z=>
   aO (decide (((P.info? e).map (·.bytes)).getD 5000<=1024)&&decide (cq P e=some 1)) (match aK.app k r i,z with
   |0,[.d z]=>ob (ev vals n) λ vn=>ob (ev vals c) λ vc=>aaK z vn vc λ v=>K v S
   |1,[z]=>ob (ev vals n) λ vn=>ob (ev vals c) λ vc=>HR S z vn vc K
   |_,_ => .fail)
 | .buildSlice t len parts=>ob (mu P t) λ e=>aO (decide (cq P e=some 1/\parts.size=len/\len*1<=16777216/\(ie P e).isSome=true)) (match aK.app k r i with
   |1=>ob (jN 1 0 (parts.toList.map λ p=>(p.1,ev vals p.2))) λ xs=>aO ((xs.map V.d).all V.one) (K (.m S.length 0 xs.length) (.cells (xs.map .d) []::S))
   |_ => .fail)
 | .call c=>match c.callee with
  | .builtin .append=>match c.args.toList,c.argTypes[0]? with
   | [x,y],some t=>ob (mu P t) λ e=>ob (cq P e) λ sz=>ob (ev vals x) λ bx=>ob (ev vals y) λ vy=>
    aO (Kr P c&&decide ((ie P e).map (·.length)=some sz)&&o.dst.isSome&&decide (sz<1000000)) (match aK.app k r i with
    |0=>aO (tsB (aK.mR k r i) e bx) (sj S sz (((P.info? e).map (·.bytes)).getD 5000) true bx vy λ v=>K v S)
    |2=>ob (oZ ops x) λ q=>aO (decide (tok fl q=some (uQ (aK.mR k r i) sz))&&tsT (aK.mR k r i) e) (sj S sz (((P.info? e).map (·.bytes)).getD 5000) false bx vy λ v=>K v S)
    |3=>ob (lB ops x) λ q=>ob (re S (vals.getD q .u)) λ w=>aO (decide (w.1=RB (aK.mR k r i) sz)&&tkT (aK.mR k r i) e) (sj S sz (((P.info? e).map (·.bytes)).getD 5000) false bx vy λ v=>K v w.2)
    |1=>aO (sz==1) (aao S (((P.info? e).map (·.bytes)).getD 5000) bx vy K)
    |_ => .fail)
   |_,_ => .fail
  | .value f=>ob (c.args.toList.mapM (ev vals)) λ args=>ob (ev vals f) λ vf=>match vf with
   | .f g=>OZ P aK g args S K
   |_ => .fail
  |_ => .fail
 |_=>(gU P aK k r i ops vals fl S o).bind λ w=>K w.1 w.2
theorem ia{α:Type}{x:Option α}{K:α->Tr}{J:Out->Tr}:(ob x K).bind J=ob x λ a=>(K a).bind J:=by cases x<;>rfl
theorem kF{c:Bool}{x:Tr}{J:Out->Tr}:(aO c x).bind J=aO c (x.bind J):=by cases c<;>rfl
theorem Ao{k r i:Nat}{ops:List Oper}{vals:List V}{fl:Fl}{S:List Ob}{o:Oper}{K:V->List Ob->Tr}:(Cj P aK k r i ops vals fl S o K).le ((gU P aK k r i ops vals fl S o).bind λ w=>K w.1 w.2):=by
 unfold Cj;split
 ·rename_i t a x hop;simp only[gU,hop,ia];refine gi λ g _=>gi λ sz _=>gi λ va _=>gi λ vx _=>?_;exact NR
 ·rename_i t x hop;simp only[gU,hop,ia];refine gi λ sz _=>gi λ v _=>?_;exact TS
 ·rename_i t n c hop;simp only[gU,hop,ia,kF];refine gi λ e _=>gi λ z _=>bY λ hc=>?_;rw[hc];simp only[aO];split
  ·have hm:aK.app k r i=0:=by assumption
   simp only[hm,ia,Tr.bind];exact gi λ vn _=>gi λ vc _=>aaL
  ·have hm:aK.app k r i=1:=by assumption
   simp only[hm,ia,Tr.bind];exact gi λ vn _=>gi λ vc _=>M6
  ·exact bL _
 ·rename_i t len parts hop;simp only[gU,hop,ia,kF];refine gi λ e _=>bY λ hc=>?_;rw[hc];simp only[aO];split
  ·rename_i hm;simp only[hm,ia,kF];refine gi λ xs _=>bY λ h1=>?_;rw[h1];exact Tr.le_refl _
  ·exact bL _
 ·rename_i c hop;split
  ·rename_i hc;split
   ·rename_i x y t hargs hty;simp only[gU,hop,hc,hargs,hty,ia,kF];refine gi λ e _=>gi λ sz _=>gi λ bx _=>gi λ vy _=>bY λ hi=>?_;rw[hi];simp only[aO];split
    ·rename_i hm;simp only[hm,kF];refine bY λ hq=>?_;rw[hq];simp only[aO,ia,Tr.bind];exact rj
    ·rename_i hm;simp only[hm,ia,kF];refine gi λ q _=>bY λ hq=>?_;rw[hq];simp only[aO,ia,Tr.bind];exact rj
    ·rename_i hm;simp only[hm,ia,kF];refine gi λ q _=>gi λ w _=>bY λ hq=>?_;rw[hq];simp only[aO,ia,Tr.bind];exact rj
    ·rename_i hm;simp only[hm,ia,kF];refine bY λ hq=>?_;rw[hq];simp only[aO,ia,Tr.bind];exact aaz
    ·exact bL _
   ·exact bL _
  ·rename_i f hc;simp only[gU,hop,hc,ia];refine gi λ args _=>gi λ vf _=>?_;split
   ·simp only[kF,Tr.bind,ia];exact O0 P aK
   ·exact bL _
  ·exact bL _
 ·exact Tr.le_refl _
end
section
variable (P : Program) (aK : Pol)
def ZY(g:V)(want:Bool)(x y:Tr):Tr:=
 match g with
 | .d (.b c)=>aV (c==want) x y
 | .t []=>y
 |_ => .fail
def Ij(ops:List Oper)(vals:List V)(S:List Ob)(o:Oper)(K:V->Tr):Tr:=
 match o.guard with
 |none=>J9 P vals S o K
 |some (j,want)=>match (ops[j]?).bind (·.dst) with
  |some g=>ZY (vals.getD g .u) want (J9 P vals S o K) (K (.t []))
  |none => .fail
theorem Nu{ops:List Oper}{vals:List V}{S:List Ob}{o:Oper}{K:V->Tr}:(Ij P ops vals S o K).le (ob (Bm P ops vals S o) K):=by
 unfold Ij Bm;split
 ·rename_i hg;simp only[hg];exact FA P
 ·rename_i j want hg;simp only[hg];split
  ·rename_i g hd;simp only[hd];unfold ZY;split
   ·rename_i c hc;simp only[hc,gd];by_cases e:c=want
    ·rw[aaR e];subst e;simp only[abq,aV];exact FA P
    ·rw[aaN e];have:(c==want)=false:=by simpa using e
     rw[this];exact Tr.le_refl _
   ·rename_i hc;simp only[hc,gd];exact Tr.le_refl _
   ·exact bL _
  ·exact bL _
def Ch(k r i:Nat)(ops:List Oper)(vals:List V)(fl:Fl)(S:List Ob)(o:Oper)(K:V->List Ob->Tr):Tr:=
 match o.guard with
 |none=>Cj P aK k r i ops vals fl S o K
 |some (j,want)=>match (ops[j]?).bind (·.dst) with
  |some g=>ZY (vals.getD g .u) want (Cj P aK k r i ops vals fl S o K) (K (.t []) S)
  |none => .fail
theorem Hi{k r i:Nat}{ops:List Oper}{vals:List V}{fl:Fl}{S:List Ob}{o:Oper}{K:V->List Ob->Tr}:(Ch P aK k r i ops vals fl S o K).le ((pg P aK k r i ops vals fl S o).bind λ w=>K w.1 w.2):=by
 unfold Ch pg;split
 ·rename_i hg;simp only[hg];exact Ao P aK
 ·rename_i j want hg;simp only[hg];split
  ·rename_i g hd;simp only[hd];unfold ZY;split
   ·rename_i c hc;simp only[hc,Yr];by_cases e:c=want
    ·rw[aaR e];subst e;simp only[abq,aV];exact Ao P aK
    ·rw[aaN e];have:(c==want)=false:=by simpa using e
     rw[this];exact Tr.le_refl _
   ·rename_i hc;simp only[hc,Yr];exact Tr.le_refl _
   ·exact bL _
  ·exact bL _
def ZL(ops:List Oper)(i:Nat):Bool:=ops.any λ o=>match o.guard with
 |some (j,_)=>j==i
 |none=>false
def splitB(v:V)(K:V->Tr):Tr:=
 match v with
 | .d (.b x)=>aV x (K (.d (.b true))) (K (.d (.b false)))
 |v=>K v
theorem NN{v:V}{K:V->Tr}:(splitB v K).le (K v):=by
 unfold splitB;split
 ·rename_i x;cases x<;>exact Tr.le_refl _
 ·exact Tr.le_refl _
def sP(ops:List Oper)(i:Nat)(v:V)(K:V->Tr):Tr:=
 match ZL ops i with
 |true=>splitB v K
 |false=>K v
theorem vA{ops:List Oper}{i:Nat}{v:V}{K:V->Tr}:(sP ops i v K).le (K v):=by
 unfold sP;split
 ·exact NN
 ·exact Tr.le_refl _
def kB(k r:Nat)(ops:List Oper):List Oper->Nat->Nat->List V->Fl->List Ob->(List V->Fl->List Ob->Tr)->Tr
 | [],_,_,vals,fl,S,K=>K vals fl S
 |o::os,i,id,vals,fl,S,K=>
  match cy o with
  |true=>kB k r ops os (i+1) (id+1) (rU o.dst (ua o id) vals) (cv P aK k r i ops fl o) S K
  |false=>match mm o with
   |false => .fail
   |true=>match gM o with
    |false=>Ij P ops vals S o λ v=>sP ops i v λ v=>kB k r ops os (i+1) id (rU o.dst v vals) (cv P aK k r i ops fl o) S K
    |true=>Ch P aK k r i ops vals fl S o λ v S'=>sP ops i v λ v=>kB k r ops os (i+1) id (rU o.dst v vals) (cv P aK k r i ops fl o) S' K
theorem kC{k r:Nat}{ops:List Oper}{K K':List V->Fl->List Ob->Tr}(hK:∀vals fl S,(K vals fl S).le (K' vals fl S)):∀(os:List Oper) (i id:Nat) (vals:List V) (fl:Fl) (S:List Ob),(kB P aK k r ops os i id vals fl S K).le (km P aK k r ops os i id vals fl S K')
 | [],i,id,vals,fl,S=>by simp only[kB,km];exact hK _ _ _
 |o::os,i,id,vals,fl,S=>by
  simp only[kB,km]
  cases cy o with
  |true=>exact kC hK os _ _ _ _ _
  |false=>
   cases mm o with
   |false=>exact bL _
   |true=>
    cases gM o with
    |false=>exact Tr.le_trans (Nu P) (gi λ v _=>Tr.le_trans vA (kC hK os _ _ _ _ _))
    |true=>exact Tr.le_trans (Hi P aK) (Uq λ w=>Tr.le_trans vA (kC hK os _ _ _ _ _))
def H4(fl:Fl)(ops:List Oper)(bef:List Nat)(x y:Oper)(i j:Nat):Bool:=
 (bef.getD j 0).testBit i||apart ops x y &&
  match cls P fl ops x,cls P fl ops y with
  |0,_=>true
  |_,0=>true
  |2,_=>true
  |_,2=>true
  |1,1=>true
  |_,_=>false
def Po(fl:Fl)(ops:List Oper):Bool:=
 let bef:=gZ ops []
 ops.zipIdx.all λ (y,j)=>y.after.all (λ e=>!Region.binds .any e||e.on<j) &&
  (match y.op with | .assign (.tmp t)=>ops.all λ o=>!(o.dst==some t&&(match o.op with | .assign _=>true|_=>false)) | .select ..=>false|_=>true) &&
  (!cy y||(match y.dst with|some d=>!kU fl ops d|none=>true)) &&
  (ops.take j).zipIdx.all λ (x,i)=>H4 P fl ops bef x y i j
theorem No{n1:Nat}{fl:Fl}{ops:List Oper}{vals:List V}{bef:List Nat}{x y:Oper}{i j:Nat}(h:H4 P fl ops bef x y i j=true):ic P n1 fl ops vals bef x y i j=true:=by
 unfold H4 at h;unfold ic;rw[Bool.or_eq_true,Bool.and_eq_true]at h⊢;rcases h with h|⟨h1,h2⟩
 ·exact .inl h
 ·refine .inr ⟨h1,?_⟩;generalize cls P fl ops x=a at h2⊢;generalize cls P fl ops y=b at h2⊢;rcases a with _|_|_|_|a<;>rcases b with _|_|_|_|b<;>first|rfl|cases h2
theorem Pp{n1:Nat}{fl:Fl}{ops:List Oper}{vals:List V}(h:Po P fl ops=true):ru P n1 fl ops vals=true:=by unfold Po at h;unfold ru;rw[abu]at h⊢;intro y hy;have:=h y hy;simp only[Bool.and_eq_true]at this⊢;refine⟨this.1,?_⟩;have h2:=this.2;rw[abu]at h2⊢;intro x hx;exact No P (h2 x hx)
def IG(k r:Nat)(ops:List Oper):Bool:=lT P aK 0 k r true ops []
theorem NP{n k r:Nat}{ops:List Oper}{vals:List V}(h:IG P aK k r ops=true):lT P aK n k r true ops vals=true:=by
 unfold IG lT at h;unfold lT;rw[abu]at h⊢;intro y hy;have:=h y hy;revert this;unfold tK;split<;>try exact id
 split<;>try exact id
 split<;>try exact id
 split<;>try exact id
 split<;>try exact id
 split<;>simp
def pj(k r:Nat)(ops:List Oper)(vals:List V)(fl:Fl)(S:List Ob)(K:List V->Fl->List Ob->Tr):Tr:=
 ob (mC P aK k r ops vals ops 0 S) λ S1=>match Po P fl ops&&IG P aK k r ops with
  |true=>kB P aK k r ops ops 0 S.length vals fl S1 K
  |false=>kB P aK k r ops ops 0 S.length vals fl S1 λ vals' fl' S'=>
   aO (ru P S1.length fl ops vals') (aO (lT P aK S.length k r true ops vals') (K vals' fl' S'))
theorem xl{k r:Nat}{ops:List Oper}{draw:Bool}{vals:List V}{fl:Fl}{S:List Ob}{K K':List V->Fl->List Ob->Tr}(hK:∀vals fl S,(K vals fl S).le (K' vals fl S)):(pj P aK k r ops vals fl S K).le (lF P aK k r ops draw vals fl S K'):=by
 unfold pj lF;refine gi λ S1 _=>?_;split
 ·rename_i h;rw[Bool.and_eq_true]at h;refine kC P aK (λ vals' fl' S'=>?_) _ _ _ _ _ _;rw[Pp P h.1,NP P aK h.2];exact hK _ _ _
 ·exact kC P aK (λ vals' fl' S'=>bY λ h1=>bY λ h2=>by rw[h1,h2];exact hK _ _ _) _ _ _ _ _ _
def W2(c:V)(x y:Tr):Tr:=
 match c with
 | .d (.b t)=>aV t x y
 |_ => .fail
theorem TV{c:V}{x y x' y':Tr}(hx:x.le x')(hy:y.le y'):(W2 c x y).le (ZW c x' y'):=by
 unfold W2 ZW;split
 ·rename_i t;cases t
  ·exact hy
  ·exact hx
 ·exact bL _
def TF(K K':jA):Prop:=∀e vals fl S,(K e vals fl S).le (K' e vals fl S)
theorem zV{id:Nat}{K K':jA}(h:TF K K'):TF (mE id K) (mE id K'):=by
 intro e vals fl S;unfold mE;split
 ·split
  ·exact h _ _ _ _
  ·exact h _ _ _ _
 ·exact h _ _ _ _
def cK(fn:Func)(k n0:Nat):Code->List Bool->jA->List V->Fl->List Ob->Tr
 | .skip,_,K,vals,fl,S=>K none vals fl S
 | .region r ops draw,_,K,vals,fl,S=>pj P aK k r ops.toList vals fl S (K none)
 | .seq a b,path,K,vals,fl,S=>cK fn k n0 a (false::path) (λ e vals fl S=>
   match e with
   |some id=>K (some id) vals fl S
   |none=>match aK.cut k (true::path) with
    |some live => .call (.at_ k n0 (true::path) (cw live 0 vals) (rn live fl) (trimS n0 (cw live 0 vals) S)) .ret
    |none=>cK fn k n0 b (true::path) K vals fl S) vals fl S
 | .cond c a b,path,K,vals,fl,S=>ob (ev vals c) λ v=>W2 v (cK fn k n0 a (false::path) K vals fl S) (cK fn k n0 b (true::path) K vals fl S)
 | .block id c,path,K,vals,fl,S=>cK fn k n0 c (false::path) (mE id K) vals fl S
 | .loop _,path,_,vals,fl,S=>Cx aK k n0 path vals fl S
 | .exit id,_,K,vals,fl,S=>K (some id) vals fl S
 | .ret,_,_,vals,_,S=>fin P fn n0 vals S
 |_,_,_,_,_,_ => .fail
theorem fe{fn:Func}{k n0:Nat}:∀(c:Code) (path:List Bool) (K K':jA),TF K K'->∀vals fl S,(cK P aK fn k n0 c path K vals fl S).le (evalCode P aK fn k n0 c path K' vals fl S)
 | .skip,path,K,K',h,vals,fl,S=>by simp only[cK,evalCode];exact h _ _ _ _
 | .region r ops draw,path,K,K',h,vals,fl,S=>by simp only[cK,evalCode];exact xl P aK λ vals fl S=>h _ _ _ _
 | .seq a b,path,K,K',h,vals,fl,S=>by
  simp only[cK,evalCode];refine fe a _ _ _ (λ e vals fl S=>?_) _ _ _;split
  ·exact h _ _ _ _
  ·cases hc:aK.cut k (true::path) with
   |some live=>exact Tr.le_refl _
   |none=>exact fe b _ _ _ h _ _ _
 | .cond c a b,path,K,K',h,vals,fl,S=>by
  simp only[cK,evalCode];exact gi λ v _=>TV (fe a _ _ _ h _ _ _) (fe b _ _ _ h _ _ _)
 | .block id c,path,K,K',h,vals,fl,S=>by
  simp only[cK,evalCode];exact fe c _ _ _ (zV h) _ _ _
 | .loop _,path,K,K',h,vals,fl,S=>by simp only[cK,evalCode];exact Tr.le_refl _
 | .exit id,path,K,K',h,vals,fl,S=>by simp only[cK,evalCode];exact h _ _ _ _
 | .ret,path,K,K',h,vals,fl,S=>by simp only[cK,evalCode];exact Tr.le_refl _
 | .rangeFunc ..,path,K,K',h,vals,fl,S=>by simp only[cK];exact bL _
 | .scope ..,path,K,K',h,vals,fl,S=>by simp only[cK];exact bL _
 | .label ..,path,K,K',h,vals,fl,S=>by simp only[cK];exact bL _
 | .goto ..,path,K,K',h,vals,fl,S=>by simp only[cK];exact bL _
 | .refuse ..,path,K,K',h,vals,fl,S=>by simp only[cK];exact bL _
def Q6(fn:Func)(k n0:Nat)(b:Code)(path:List Bool)(K:jA):jA:=λ e vals fl S=>
 match e with
 |some id=>K (some id) vals fl S
 |none=>match aK.cut k (true::path) with
  |some live => .call (.at_ k n0 (true::path) (cw live 0 vals) (rn live fl) (trimS n0 (cw live 0 vals) S)) .ret
  |none=>cK P aK fn k n0 b (true::path) K vals fl S
theorem Q7{fn:Func}{k n0:Nat}{b:Code}{path:List Bool}{K K':jA}(h:TF K K'):TF (Q6 P aK fn k n0 b path K) (Q5 P aK fn k n0 b path K'):=by
 intro e vals fl S;unfold Q6 Q5;split
 ·exact h _ _ _ _
 ·cases hc:aK.cut k (true::path) with
  |some live=>exact Tr.le_refl _
  |none=>exact fe P aK b _ _ _ h _ _ _
theorem EZ{k n0:Nat}{path:List Bool}{K K':jA}(h:TF K K'):TF (sN aK k n0 path K) (sN aK k n0 path K'):=by
 intro e vals fl S;unfold sN;split
 ·exact h _ _ _ _
 ·exact Tr.le_refl _
def kq(fn:Func)(k n0:Nat):List Bool->Code->List Bool->jA->Option (Code×List Bool×jA)
 | [],c,path,K=>some (c,path,K)
 |false::p,.seq a b,path,K=>kq fn k n0 p a (false::path) (Q6 P aK fn k n0 b path K)
 |true::p,.seq _ b,path,K=>kq fn k n0 p b (true::path) K
 |false::p,.cond _ a _,path,K=>kq fn k n0 p a (false::path) K
 |true::p,.cond _ _ b,path,K=>kq fn k n0 p b (true::path) K
 |false::p,.block id c,path,K=>kq fn k n0 p c (false::path) (mE id K)
 |false::p,.loop c,path,K=>kq fn k n0 p c (false::path) (sN aK k n0 path K)
 |_,_,_,_=>none
theorem jd{fn:Func}{k n0:Nat}:∀(p:List Bool) (c:Code) (path:List Bool) (K K':jA),TF K K'->∀x q J,kq P aK fn k n0 p c path K=some (x,q,J)->∃J',kf P aK fn k n0 p c path K'=some (x,q,J')/\TF J J'
 | [],c,path,K,K',h,x,q,J,e=>by
  simp only[kq,Option.some.injEq,Prod.mk.injEq]at e;obtain⟨rfl,rfl,rfl⟩:=e;exact⟨K',rfl,h⟩
 |t::p,c,path,K,K',h,x,q,J,e=>by
  cases t<;>cases c<;>simp only[kq]at e<;>first|(cases e;done)|simp only[kf]
  ·exact jd p _ _ _ _ (Q7 P aK h) _ _ _ e
  ·exact jd p _ _ _ _ h _ _ _ e
  ·exact jd p _ _ _ _ (zV h) _ _ _ e
  ·exact jd p _ _ _ _ (EZ aK h) _ _ _ e
  ·exact jd p _ _ _ _ h _ _ _ e
  ·exact jd p _ _ _ _ h _ _ _ e
def Rn(fn:Func)(k:Nat)(args:List V)(S:List Ob):Tr:=
 ob fn.body λ c=>aO (decide (args.length<=fn.ntmps)&&bI S.length args)
  (cK P aK fn k S.length c [] (vL P fn S.length) (args++List.replicate (fn.ntmps-args.length) .u) [] S)
def Rl(fn:Func)(k n0:Nat)(path:List Bool)(vals:List V)(fl:Fl)(S:List Ob):Tr:=
 ob fn.body λ c=>ob (kq P aK fn k n0 path.reverse c [] (vL P fn n0)) λ l=>match l with
  |(.loop b,p,K)=>cK P aK fn k n0 b (false::p) (sN aK k n0 p K) vals fl S
  |(x,p,K)=>cK P aK fn k n0 x p K vals fl S
def oN:Task->Tr
 | .call k args S=>match aK.ext k with
  |some f=>ob (f args S) .ret
  |none=>ob P.funcs[k]? λ fn=>Rn P aK fn k args S
 | .at_ k n0 path vals fl S=>yS aK k n0 path vals fl S (ob P.funcs[k]? λ fn=>Rl P aK fn k n0 path vals fl S)
theorem Ry{k n0:Nat}{path:List Bool}{vals:List V}{fl:Fl}{S:List Ob}{K K':Tr}(h:K.le K'):(yS aK k n0 path vals fl S K).le (yS aK k n0 path vals fl S K'):=by
 unfold yS;split
 ·exact h
 ·split
  ·exact Tr.le_refl _
  ·exact h
theorem Rp(t:Task):(oN P aK t).le (step P aK t):=by
 cases t with
 |call k args S=>
  simp only[oN,step]
  cases he:aK.ext k with
  |some g=>exact Tr.le_refl _
  |none=>
   refine gi λ fn _=>?_;unfold Rn Rm;refine gi λ c _=>bY λ h=>?_;rw[h];exact fe P aK c _ _ _ (λ _ _ _ _=>Tr.le_refl _) _ _ _
 |at_ k n0 path vals fl S=>
  simp only[oN,step];refine Ry aK ?_;refine gi λ fn _=>?_;unfold Rl Rk;refine gi λ c _=>?_;refine dy λ l hl=>?_;obtain⟨x,p,K⟩:=l;obtain⟨J',e1,e2⟩:=jd P aK _ _ _ _ _ (λ _ _ _ _=>Tr.le_refl _) _ _ _ hl;rw[e1];simp only[ob];split
  ·rename_i hx;cases hx;exact fe P aK _ _ _ _ (EZ aK e2) _ _ _
  ·rename_i hne hx;cases hx;split
   ·rename_i b' p' K'' hy;cases hy;exact(hne _ rfl).elim
   ·rename_i hy;cases hy;exact fe P aK _ _ _ _ e2 _ _ _
def NF:Nat->Task->Option Out
 |0,_=>none
 |n+1,t=>aD (NF n) (oN P aK t)
theorem FO:∀(n:Nat) (t:Task) (o:Out),NF P aK n t=some o->runN P aK n t=some o
 |0,_,_,h=>by simp[NF]at h
 |n+1,t,o,h=>Rp P aK t _ _ (jn (FO n) _ _ h)
open Classical in
noncomputable def rk(t:Task):Option Out:=if h:∃r n,NF P aK n t=some r then some h.choose else none
end
section
variable {P : Program} {aK : Pol}
theorem FN:∀(n:Nat) (t:Task) (r:Out),NF P aK n t=some r->NF P aK (n+1) t=some r
 |0,_,_,e=>by simp[NF]at e
 |n+1,t,r,e=>jn (FN n) _ r e
theorem CX{n m:Nat}(h:n<=m)(t:Task)(r:Out)(e:NF P aK n t=some r):NF P aK m t=some r:=by
 induction h with
 |refl=>exact e
 |step _ ih=>exact FN _ t r ih
theorem tu{t:Task}{r:Out}:rk P aK t=some r↔∃n,NF P aK n t=some r:=by
 constructor
 ·intro h;unfold rk at h;split at h
  ·rename_i hx;obtain⟨n,hn⟩:=hx.choose_spec;injection h with h
   exact⟨n,h▸hn⟩
  ·simp at h
 ·rintro⟨n,hn⟩;have hx:∃r n,NF P aK n t=some r:=⟨r,n,hn⟩
  unfold rk;rw[dif_pos hx];obtain⟨m,hm⟩:=hx.choose_spec;have h1:=CX (Nat.le_max_left n m) t r hn;have h2:=CX (Nat.le_max_right n m) t _ hm;rw[h1]at h2;exact h2.symm
theorem AP:∀(x:Tr) (r:Out),aD (rk P aK) x=some r->∃n,aD (NF P aK n) x=some r
 | .ret _,_,e=>⟨0,e⟩
 | .fail,_,e=>by simp[aD]at e
 | .call t k,r,e=>by
  simp only[aD]at e
  cases hf:rk P aK t with
  |none=>rw[hf]at e;simp at e
  |some o=>
   rw[hf]at e;obtain⟨n,hn⟩:=tu.1 hf;obtain⟨m,hm⟩:=AP (k o) r e;refine⟨max n m,?_⟩;simp only[aD,CX (Nat.le_max_left n m) t o hn];exact jn (λ t r h=>CX (Nat.le_max_right n m) t r h) _ r hm
theorem Bp(t:Task):rk P aK t=aD (rk P aK) (oN P aK t):=by
 apply Option.ext;intro r;constructor
 ·intro h;obtain⟨n,hn⟩:=tu.1 h
  cases n with
  |zero=>simp[NF]at hn
  |succ n=>exact jn (λ t r h=>tu.2 ⟨n,h⟩) _ r hn
 ·intro h;obtain⟨n,hn⟩:=AP _ r h;exact tu.2 ⟨n+1,hn⟩
theorem iL{t:Task}{o:Out}(h:rk P aK t=some o):run P aK t=some o:=by obtain⟨n,hn⟩:=tu.1 h;exact yx.2 ⟨n,FO P aK n t o hn⟩
theorem QZ{t:Task}{T:Tr}(h:oN P aK t=T):rk P aK t=aD (rk P aK) T:=by rw[Bp,h]
end
def sv(n:Nat)(l:List (Nat×V)):List V:=(List.range n).map λ i=>(l.lookup i).getD .u
section
variable {f : Task → Option Out}
@[simp] theorem aG(o:Out):aD f (.ret o)=some o:=rfl
@[simp] theorem V8:aD f .fail=none:=rfl
@[simp] theorem cQ{α:Type}(x:Option α)(K:α->Tr):aD f (ob x K)=x.bind λ a=>aD f (K a):=bE f x K
@[simp] theorem bn(c:Bool)(x:Tr):aD f (aO c x)=if c=true then aD f x else none:=bS f c x
@[simp] theorem bo(c:Bool)(x y:Tr):aD f (aV c x y)=if c=true then aD f x else aD f y:=by cases c<;>rfl
@[simp] theorem bK(t:Task)(K:Out->Tr):aD f (.call t K)=(f t).bind λ o=>aD f (K o):=fP f t K
@[simp] theorem aA(t:Task):aD f (.call t .ret)=f t:=by rw[fP];cases f t<;>rfl
@[simp] theorem bO(k j:IntKind)(n:Int)(K:Int->Tr):aD f (cf k (.i j n) K)=if j=k then aD f (K n)else none:=by simp only[cf,bS,beq_iff_eq]
@[simp] theorem wP(b:Bool)(K:Bool->Tr):jz (.b b) K=K b:=rfl
@[simp] theorem sn(b:List UInt8)(K:List UInt8->Tr):fJ (.s b) K=K b:=rfl
@[simp] theorem iP(f:Bool)(xs:List D)(K:Bool->List D->Tr):gX (.l f xs) K=K f xs:=rfl
@[simp] theorem dN(d:D)(K:D->Tr):bG (.d d) K=K d:=rfl
@[simp] theorem S8(vs:List V)(K:List V->Tr):dI (.t vs) K=K vs:=rfl
@[simp] theorem jW(b:Ob)(bs:List Ob)(K:Ob->List Ob->Tr):eE (b::bs) K=K b bs:=rfl
@[simp] theorem lf(K:Tr):iY [] K=K:=rfl
@[simp] theorem iI(cs:List V)(fl:Fl)(K:List V->Fl->Tr):dA (.cells cs fl) K=K cs fl:=rfl
theorem HK(cs:List V)(len:Nat)(K:List V->Nat->Tr):aD f (WR (.m 0 0 len,[.cells cs []]) K)=if bI 0 cs=true then aD f (K cs len)else none:=by simp only[WR,bS]
@[simp] theorem lH(n:Nat)(cs:List D)(K:List D->Tr):aD f (j5 n (.g cs) K)=if cs.length=n then aD f (K cs)else none:=by simp only[j5,bS,beq_iff_eq]
end
@[simp] theorem ct{α:Type}(l:List α)(n:Nat):bW l (n:Int)=l[n]?:=by simp[bW]
@[simp] theorem Ys{α:Type}(l:List α):bW l 0=l[0]?:=by simp[bW]
@[simp] theorem Z4(b:Bool):(D.b b).width=1:=rfl
@[simp] theorem lg(k:IntKind)(n:Int):(D.i k n).width=1:=rfl
@[simp] theorem Z7(x:List UInt8):(D.s x).width=1:=rfl
@[simp] theorem Z6(f:Bool)(xs:List D):(D.l f xs).width=1:=rfl
@[simp] theorem Z5(cs:List D):(D.g cs).width=cs.length:=rfl
@[simp] theorem ZS(b:Bool):(D.b b).cells=[.b b]:=rfl
@[simp] theorem kZ(k:IntKind)(n:Int):(D.i k n).cells=[.i k n]:=rfl
@[simp] theorem ZV(x:List UInt8):(D.s x).cells=[.s x]:=rfl
@[simp] theorem ZU(f:Bool)(xs:List D):(D.l f xs).cells=[.l f xs]:=rfl
@[simp] theorem ZT(cs:List D):(D.g cs).cells=cs:=rfl
@[simp] theorem cL(k:IntKind)(zs:List Int):(ints k zs).length=zs.length:=jo k zs
@[simp] theorem eW(k:IntKind)(zs:List Int)(i:Nat):(ints k zs)[i]?=zs[i]?.map (.i k):=by simp[ints]
@[simp] theorem fw(k:IntKind)(zs:List Int):bA 1 (ints k zs)=true:=by cases zs<;>simp[ints,bA]
@[simp] theorem HH(n:Nat):bA n []=true:=rfl
@[simp] theorem V7(n:Nat)(x:D)(xs:List D):bA n (x::xs)=(x.width==n):=rfl
theorem AQ(k:IntKind)(z:Int)(zs:List Int):ints k (z::zs) = .i k z::ints k zs:=rfl
theorem jq(k:IntKind)(a:List Int)(z:Int):ints k a++[.i k z]=ints k (a++[z]):=by simp[ints]
theorem nz(k:IntKind)(a:List Int)(n:Nat):(ints k a).take n=ints k (a.take n):=by simp[ints]
@[simp] theorem Wf(k:IntKind)(zs:List Int):dV (ints k zs)=true:=by simp[dV,ints,D.cells,V.one]
@[simp] theorem XQ:dV []=true:=rfl
@[simp] theorem We(x:D)(xs:List D):dV (x::xs)=((x.cells.all λ c=>(V.d c).one)&&dV xs):=by simp[dV]
@[simp] theorem abh(b:Bool):(V.d (.b b)).one=true:=rfl
@[simp] theorem abi(k:IntKind)(n:Int):(V.d (.i k n)).one=true:=rfl
@[simp] theorem abk(x:List UInt8):(V.d (.s x)).one=true:=rfl
@[simp] theorem abj(f:Bool)(xs:List D):(V.d (.l f xs)).one=true:=rfl
theorem wrap_i64{n:Int}(h1:-9223372036854775808<=n)(h2:n<=9223372036854775807):i64.wrap n=n:=by
 have e:((2:Int)^i64.bits)=18446744073709551616:=by decide
 have e2:((2:Int)^(i64.bits-1))=9223372036854775808:=by decide
 simp only[IntKind.wrap,IntKind.signed,Bool.true_and,decide_eq_true_eq,e,e2];split<;>omega
theorem wrap_u8{n:Int}(h1:0<=n)(h2:n<256):u8.wrap n=n:=by
 have e:((2:Int)^u8.bits)=256:=by decide
 simp only[IntKind.wrap,IntKind.signed,Bool.false_and,e];simp;omega
section
variable {f : Task → Option Out}
theorem cr{t:Task}{o:Out}{K:Out->Tr}(h:f t=some o):aD f (.call t K)=aD f (K o):=by rw[fP,h];rfl
theorem aM{t:Task}{o:Out}(h:f t=some o):aD f (.call t .ret)=some o:=by rw[cr h];rfl
theorem gJ{t:Task}{b:Bool}{K:Bool->Tr}(h:f t=some (.d (.b b),[])):
  aD f (.call t λ o=>aO o.snd.isEmpty (bG o.fst λ d=>jz d λ x=>K x))=aD f (K b):=cr h
theorem gG{t:Task}{s:List UInt8}{K:List UInt8->Tr}(h:f t=some (.d (.s s),[])):
  aD f (.call t λ o=>aO o.snd.isEmpty (bG o.fst λ d=>fJ d λ x=>K x))=aD f (K s):=cr h
theorem eR{t:Task}{b:Bool}{l:List D}{K:Bool->List D->Tr}(h:f t=some (.d (.l b l),[])):
  aD f (.call t λ o=>aO o.snd.isEmpty (bG o.fst λ d=>gX d λ x y=>K x y))=aD f (K b l):=cr h
theorem gF{t:Task}{k:IntKind}{n:Int}{K:Int->Tr}(h:f t=some (.d (.i k n),[])):
  aD f (.call t λ o=>aO o.snd.isEmpty (bG o.fst λ d=>cf k d λ x=>K x))=aD f (K n):=by
 rw[cr h];show aD f (cf k (.i k n) K)=_;rw[bO,aaR rfl]
theorem BB{t:Task}{k j:IntKind}{n m:Int}{e e':V}{K:Int->Int->Tr}(h:f t=some (.t [.d (.i k n),.d (.i j m)],[])):
  aD f (.call t λ o=>aO o.snd.isEmpty (dI o.fst λ l=>aO (l.length==2) (bG (l.getD 0 e) λ d=>cf k d λ x=>bG (l.getD 1 e') λ d'=>cf j d' λ y=>K x y)))=aD f (K n m):=by
 rw[cr h];show aD f (cf k (.i k n) λ x=>cf j (.i j m) λ y=>K x y)=_;rw[bO,aaR rfl,bO,aaR rfl]
theorem Ko{t:Task}{k:IntKind}{n:Int}{b:Bool}{e e':V}{K:Int->Bool->Tr}(h:f t=some (.t [.d (.i k n),.d (.b b)],[])):
  aD f (.call t λ o=>aO o.snd.isEmpty (dI o.fst λ l=>aO (l.length==2) (bG (l.getD 0 e) λ d=>cf k d λ x=>bG (l.getD 1 e') λ d'=>jz d' λ y=>K x y)))=aD f (K n b):=by
 rw[cr h];show aD f (cf k (.i k n) λ x=>jz (.b b) λ y=>K x y)=_;rw[bO,aaR rfl];rfl
theorem aN{c:Prop}[Decidable c]{X:Tr}(h:c:=by omega):aD f (aO (decide c) X)=aD f X:=by rw[bn,aa3 h,aaR rfl]
theorem aQ{X:Tr}:aD f (aO true X)=aD f X:=by rw[bn,aaR rfl]
theorem bC{c:Prop}[Decidable c]{X Y:Tr}(h:c:=by omega):aD f (aV (decide c) X Y)=aD f X:=by rw[bo,aa3 h,aaR rfl]
theorem bB{c:Prop}[Decidable c]{X Y:Tr}(h:¬c:=by omega):aD f (aV (decide c) X Y)=aD f Y:=by rw[bo,abf h,aaN (by decide)]
theorem eH{b:Bool}{X Y:Tr}(h:b=true):aD f (aV b X Y)=aD f X:=by rw[bo,h,aaR rfl]
theorem cX{b:Bool}{X Y:Tr}(h:b=false):aD f (aV b X Y)=aD f Y:=by rw[bo,h,aaN (by decide)]
theorem bQ{X Y:Tr}:aD f (aV true X Y)=aD f X:=rfl
theorem bH{X Y:Tr}:aD f (aV false X Y)=aD f Y:=rfl
theorem mr{X Y:Tr}:aD f (aV (!true) X Y)=aD f Y:=rfl
theorem kX{X Y:Tr}:aD f (aV (!false) X Y)=aD f X:=rfl
theorem bM{n m:Int}{X Y:Tr}(h:n=m:=by omega):aD f (aV (n==m) X Y)=aD f X:=eH (beq_iff_eq.2 h)
theorem bp{n m:Int}{X Y:Tr}(h:n≠m:=by omega):aD f (aV (n==m) X Y)=aD f Y:=cX (abr.2 h)
theorem fj{n m:Int}{X Y:Tr}(h:n≠m):aD f (aV (n != m) X Y)=aD f X:=eH (bne_iff_ne.2 h)
theorem eN{n m:Int}{X Y:Tr}(h:n=m):aD f (aV (n != m) X Y)=aD f Y:=cX (by rw[h];exact bne_self_eq_false m)
theorem bz{α:Type}{x:Option α}{a:α}{K:α->Tr}(h:x=some a):aD f (ob x K)=aD f (K a):=by rw[cQ,h];rfl
end
section
variable {f : Task → Option Out}
theorem cT{k:IntKind}{n:Int}{K:Int->Tr}:aD f (cf k (.i k n) K)=aD f (K n):=by rw[bO,aaR rfl]
theorem gu{t:Task}{k:IntKind}{n:Int}{cs:List V}{fl fl':Fl}{m:Nat}{K:List V->Int->Tr}(h:f t=some (.d (.i k n),[.cells cs fl]))(hm:cs.length=m:=by rfl)(hf:(fl==fl')=true:=by rfl):
  aD f (.call t λ o=>eE o.snd λ x l2=>dA x λ c g=>aO (c.length==m) (aO (g==fl') (iY l2 (bG o.fst λ d=>cf k d λ y=>K c y))))=aD f (K cs n):=by
 rw[cr h];show aD f (aO (cs.length==m) (aO (fl==fl') (cf k (.i k n) λ y=>K cs y)))=_;rw[hm,abq,aQ,hf,aQ,bO,aaR rfl]
theorem dL{t:Task}{b:Bool}{cs:List V}{fl fl':Fl}{m:Nat}{K:List V->Bool->Tr}(h:f t=some (.d (.b b),[.cells cs fl]))(hm:cs.length=m:=by rfl)(hf:(fl==fl')=true:=by rfl):
  aD f (.call t λ o=>eE o.snd λ x l2=>dA x λ c g=>aO (c.length==m) (aO (g==fl') (iY l2 (bG o.fst λ d=>jz d λ y=>K c y))))=aD f (K cs b):=by
 rw[cr h];show aD f (aO (cs.length==m) (aO (fl==fl') (K cs b)))=_;rw[hm,abq,aQ,hf,aQ]
theorem dZ{t:Task}{cs:List V}{fl fl':Fl}{m:Nat}{K:List V->Tr}(h:f t=some (.t [],[.cells cs fl]))(hm:cs.length=m:=by rfl)(hf:(fl==fl')=true:=by rfl):
  aD f (.call t λ o=>eE o.snd λ x l2=>dA x λ c g=>aO (c.length==m) (aO (g==fl') (iY l2 (dI o.fst λ v=>aO (v.length==0) (K c)))))=aD f (K cs):=by
 rw[cr h];show aD f (aO (cs.length==m) (aO (fl==fl') (aO true (K cs))))=_;rw[hm,abq,aQ,hf,aQ,aQ]
end
abbrev vi(n:Int):V := .d (.i .i64 n)
abbrev vu(n:Int):V := .d (.i .u64 n)
abbrev vs(s:List UInt8):V := .d (.s s)
abbrev vl(b:Bool)(l:List D):V := .d (.l b l)
abbrev vb(b:Bool):V := .d (.b b)
abbrev gD(w k:Nat)(d:D)(j:Nat):D:=(List.take w (List.drop k d.cells)).getD j (D.b false)
abbrev eL(l:List D)(n:Int)(w:Nat)(K:D->Tr):Tr:=ob (bW l n) λ d=>aO (d.width==w) (ob l[n.toNat]? λ e=>aO (decide (w<=e.width)) (K e))
abbrev eC(l:List D)(n:Int)(w j:Nat)(K:D->Tr):Tr:=ob (bW l n) λ d=>aO (d.width==w) (ob l[n.toNat]? λ e=>ob e.cells[j]? K)
abbrev cV(t:Task)(K:V->Tr):Tr := .call t λ o=>aO o.snd.isEmpty (K o.fst)
abbrev aS(v:V)(K:List UInt8->Tr):Tr:=bG v λ d=>fJ d K
abbrev aB(v:V)(K:Bool->Tr):Tr:=bG v λ d=>jz d K
abbrev aI(v:V)(K:Int->Tr):Tr:=bG v λ d=>cf .i64 d K
abbrev aU(v:V)(K:Int->Tr):Tr:=bG v λ d=>cf .u64 d K
abbrev aL(v:V)(K:Bool->List D->Tr):Tr:=bG v λ d=>gX d K
abbrev c1(t:Task)(n:Nat)(fl:Fl)(K:V->List V->Tr):Tr := .call t λ o=>eE o.snd λ x l=>dA x λ c g=>aO (c.length==n) (aO (g==fl) (iY l (K o.fst c)))
abbrev c2(t:Task)(n:Nat)(fl:Fl)(m:Nat)(fm:Fl)(K:V->List V->List V->Tr):Tr:=
 .call t λ o=>eE o.snd λ x l=>dA x λ c g=>aO (c.length==n) (aO (g==fl) (eE l λ y k=>dA y λ d h=>aO (d.length==m) (aO (h==fm) (iY k (K o.fst c d)))))
def W7:Loc->Loc
 | .obj 1 => .obj 0
 |_ => .ext
def y6:Loc->Loc
 | .obj _ => .obj 1
 | .cell _ off => .cell 1 off
 |ℓ=>ℓ
def vX(G:Sg):Sg:=⟨G.F,λ b=>(G.own b).map W7⟩
open Classical in
noncomputable def TC(G A:Sg):Sg:=⟨A.F,λ b=>if (vX G).own b=some .ext then G.own b else(A.own b).map y6⟩
section
variable {P : Program} {aK : Pol}
theorem pe{G:Sg}{b id:Nat}:(vX G).own b=some (.obj id)↔G.own b=some (.obj 1)/\id=0:=by
 simp only[vX]
 cases h:G.own b with
 |none=>simp
 |some ℓ=>
  cases ℓ with
  |obj i=>
   by_cases hi:i=1
   ·subst hi;simp[W7];exact eq_comm
   ·have:W7 (.obj i) = .ext:=by
     unfold W7;split
     ·rename_i e;injection e with e;exact absurd e hi
     ·rfl
    simp[this,hi]
  |_=>simp[W7]
theorem Hb{G:Sg}{b:Nat}{ℓ:Loc}(h:G.own b=some ℓ)(hn:ℓ ≠ .obj 1):(vX G).own b=some .ext:=by
 simp only[vX,h,Option.map_some];congr 1;unfold W7;split
 ·exact absurd rfl hn
 ·rfl
theorem Jq{G:Sg}{b:Nat}{ℓ:Loc}(h:(vX G).own b=some ℓ):∃ℓ',G.own b=some ℓ':=by
 simp only[vX]at h
 cases h':G.own b with
 |none=>rw[h']at h;simp at h
 |some ℓ'=>exact⟨_,rfl⟩
theorem Pn{G:Sg}{b:Nat}{ℓ:Loc}(h:(vX G).own b=some ℓ):ℓ = .ext\/ℓ = .obj 0:=by
 simp only[vX]at h;obtain⟨ℓ',_,rfl⟩:=Option.map_eq_some_iff.1 h;unfold W7;split
 ·exact .inr rfl
 ·exact .inl rfl
theorem cx.up{k:Nat}{args:List V}{cs cs':List V}{v:V}{x:Ob}(h:cx P k (.p 0 0::args) [.cells cs []] (v,[.cells cs' []]))(ha:bI 0 args=true)(hc:bI 0 cs=true)(hc':bI 0 cs'=true)(hv:cj 0 v=true):
  cx P k (.p 1 0::args) [.cells cs [],x] (v,[.cells cs' [],x]):=by
 intro w G vs hI hr hsl;have hIA:Inv w (vX G) [.cells cs []]:=by
  refine⟨hI.fz,λ b id h=>?_,λ b b' id h h'=>?_,λ b ℓ h=>?_,λ b id o h=>?_,λ id cs0 fl h=>?_,hI.tb_of λ b _ h0=>⟨rfl,by simp[vX,h0]⟩⟩
  ·obtain⟨hg,e0⟩:=pe.1 h;subst e0;obtain⟨h1,o,go,h2,h3,h4⟩:=hI.ob b 1 hg;have:o = .cells cs []:=by simpa[bV]using h2.symm
   subst this;refine⟨h1,_,go,rfl,h3,?_⟩;cases go<;>simp only[kQ]at h4⊢;obtain⟨p1,p2,p3⟩:=h4;refine⟨p1,λ o c hcc=>?_,λ o sz hm=>by simp at hm⟩;obtain⟨y,hy,hry,hf,ho⟩:=p2 o c hcc;exact⟨y,hy,RV.lift (A:=G) (B:=vX G) (n:=0) (λ _ _ _ h=>h) (λ b i hi _=>by omega) c y (dQ.1 hc c (abQ hcc)) hry,hf,ho⟩
  ·exact hI.inj _ _ _ (pe.1 h).1 (pe.1 h').1
  ·obtain⟨ℓ',h'⟩:=Jq h;exact hI.tk _ _ h'
  ·rcases Pn h with e|e<;>cases e
  ·have:id=0:=by have:=dR h;simpa using this
   subst this;simp[bV]at h;obtain⟨rfl,rfl⟩:=h;exact dH (by omega) _ hc
 have hrA:eY (vX G) (.p 0 0::args) vs.toList:=by simp only[eY]at hr⊢;obtain⟨y,r,e,h1,h2⟩:=hr;refine⟨y,r,e,?_,eY.lift (A:=G) (B:=vX G) (n:=0) (λ _ _ _ h=>h) (λ b i hi _=>by omega) _ _ ha h2⟩;simp only[RV]at h1⊢;obtain⟨blk,ho,e⟩:=h1;exact⟨blk,pe.2 ⟨ho,rfl⟩,e⟩
 refine(h w (vX G) vs hIA hrA λ b q h=>by rcases Pn h with e|e<;>cases e).mono ?_;rintro y w' ⟨A,hy,hA,hE⟩;have hidK:∀b,(vX G).own b=some .ext->A.own b=some .ext/\w'.heap[b]?=w.heap[b]?/\(∀o,A.F b o=G.F b o)/\(TC G A).own b=G.own b:=by intro b hb;obtain⟨ℓ,hℓ⟩:=Jq hb;obtain⟨h1,h2,h3⟩:=hE.keep b (hI.tk _ _ hℓ) (.inr hb);exact⟨by rw[h1];exact hb,h2,h3,by simp only[TC];rw[aaR hb]⟩
 have seen:∀b,(vX G).own b≠some .ext->(TC G A).own b=(A.own b).map y6:=by intro b hb;simp only[TC];rw[aaN hb]
 have seen':∀b ℓ,A.own b=some ℓ->ℓ ≠ .ext->(TC G A).own b=some (y6 ℓ):=by intro b ℓ h1 h2;rw[seen b λ hb=>h2 (by have:=(hidK b hb).1;rw[h1]at this;exact Option.some.inj this),h1];rfl
 have hobj:∀b id,(TC G A).own b=some (.obj id)->((vX G).own b=some .ext/\G.own b=some (.obj id)/\id=0)\/(A.own b=some (.obj 0)/\id=1/\(vX G).own b≠some .ext):=by
  intro b id h;by_cases hb:(vX G).own b=some .ext
  ·rw[(hidK b hb).2.2.2]at h;obtain⟨_,o,_,ho,_⟩:=hI.ob _ _ h;have hlt:=dR ho;simp only[aaT,abp]at hlt;have:id≠1:=by rintro rfl;rw[pe.2 ⟨h,rfl⟩]at hb;cases hb
   exact .inl ⟨hb,h,by omega⟩
  ·rw[seen b hb]at h;obtain⟨ℓ,h1,h2⟩:=Option.map_eq_some_iff.1 h
   cases ℓ with
   |obj i=>
    simp only[y6]at h2;injection h2 with h2
    obtain⟨_,o,_,ho,_⟩:=hA.ob _ _ h1;have hlt:=dR ho;simp only[aaT,abp]at hlt;have:i=0:=by omega
    subst this;exact .inr ⟨h1,h2.symm,hb⟩
   |cell i o=>simp only[y6]at h2;cases h2
   |slot q=>simp only[y6]at h2;cases h2
   |ext=>simp only[y6]at h2;cases h2
 have hle:Le G (TC G A):=by
  refine⟨hE.F,λ b id h=>?_⟩;by_cases hid:id=1
  ·subst hid;rw[seen' b _ (hE.obj _ _ (pe.2 ⟨h,rfl⟩)) (by simp)];rfl
  ·rw[(hidK b (Hb h (by simp[hid]))).2.2.2];exact h
 have hlift:∀z u,cj 0 z=true->RV A z u->RV (TC G A) z u:=λ z u hz hu=>RV.lift (A:=A) (B:=TC G A) (n:=0) (λ _ _ _ h=>h) (λ b i hi _=>by omega) z u hz hu;refine⟨TC G A,hlift _ _ hv hy,⟨hA.fz,λ b id h=>?_,λ b b' id h h'=>?_,λ b ℓ h=>?_,λ b id o h=>?_,λ id cs0 fl h=>?_,λ b arr hb=>⟨(hA.tb b arr hb).1,?_⟩⟩,⟨hE.os,hE.tape,hE.output,hE.size,hE.F,hle.obj,λ b hb h=>?_,λ b id h hid=>?_,λ id hid hn=>?_,aa4 _⟩⟩
 ·rcases hobj b id h with⟨h1,h2,rfl⟩|⟨h1,rfl,_⟩
  ·obtain⟨k1,k2,k3,k4⟩:=hidK b h1;obtain⟨p1,o,go,p2,p3,p4⟩:=hI.ob _ _ h2;refine⟨λ o=>(k3 o).trans (p1 o),o,go,p2,by rw[k2];exact p3,p4.same hle λ off blk hk=>?_⟩;obtain⟨j1,j2,j3,j4⟩:=hidK blk (Hb hk (by simp));exact⟨by rw[j4];exact hk,j2,j3⟩
  ·obtain⟨p1,o,go,p2,p3,p4⟩:=hA.ob _ _ h1;have:o = .cells cs' []:=by simpa[bV]using p2.symm
   subst this;refine⟨p1,_,go,rfl,p3,?_⟩;cases go<;>simp only[kQ]at p4⊢;obtain⟨q1,q2,q3⟩:=p4;refine⟨q1,λ o c hcc=>?_,λ o sz hm=>by simp at hm⟩;obtain⟨u,hu,hru,hf,ho⟩:=q2 o c hcc;exact⟨u,hu,hlift c u (dQ.1 hc' c (abQ hcc)) hru,hf,ho⟩
 ·rcases hobj b id h with⟨h1,h2,h3⟩|⟨h1,h2,_⟩<;>rcases hobj b' id h' with⟨k1,k2,k3⟩|⟨k1,k2,_⟩
  ·exact hI.inj _ _ _ h2 k2
  ·omega
  ·omega
  ·exact hA.inj _ _ _ h1 k1
 ·by_cases hb:(vX G).own b=some .ext
  ·rw[(hidK b hb).2.2.2]at h;exact abL (hI.tk _ _ h) hE.size
  ·rw[seen b hb]at h;obtain⟨ℓ',h1,_⟩:=Option.map_eq_some_iff.1 h;exact hA.tk _ _ h1
 ·by_cases hb:(vX G).own b=some .ext
  ·rw[(hidK b hb).2.2.2]at h;exact hI.cl _ _ _ h
  ·rw[seen b hb]at h;obtain⟨ℓ',h1,h2⟩:=Option.map_eq_some_iff.1 h
   cases ℓ' with
   |obj i=>simp only[y6]at h2;cases h2
   |cell i o'=>simp only[y6]at h2;injection h2 with h2 _;subst h2;simp
   |slot q=>simp only[y6]at h2;cases h2
   |ext=>simp only[y6]at h2;cases h2
 ·have hlt:=dR h;simp only[aaT,abp]at hlt;rcases(by omega:id=0\/id=1)with rfl|rfl
  ·exact hI.rf 0 cs0 fl (by simpa[bV]using h)
  ·simp[bV]at h;obtain⟨rfl,rfl⟩:=h;exact dH (by omega) _ hc'
 ·have h0:=hI.tb b arr hb;have h1:=hA.tb b arr hb;rw[seen b (by simp[vX,h0.2]),h1.2];rfl
 ·rcases h with h|h
  ·have hd:(vX G).own b=none:=by simp[vX,h]
   obtain⟨k1,k2,k3⟩:=hE.keep b hb (.inl hd);exact⟨by rw[seen b (by rw[hd];simp),k1,hd,h];rfl,k2,k3⟩
  ·have hd:=Hb h (by simp)
   obtain⟨k1,k2,k3,k4⟩:=hidK b hd;exact⟨k4,k2,k3⟩
 ·rcases hobj b id h with⟨h1,h2,_⟩|⟨h1,rfl,_⟩
  ·exact h2
  ·exact(pe.1 (hE.newo b 0 h1 (by simp))).1
 ·simp only[aaT,abp]at hid;rcases(by omega:id=0\/id=1)with rfl|rfl
  ·simp[bV]
  ·have:=hE.ph 0 (by simp) λ b hb=>hn b (pe.1 hb).1
   simpa[bV]using this
noncomputable def lV(P:Program)(aK:Pol)(k:Nat)(args:List V)(S:List Ob):Option Out:=
 match args,S with
 | .p 1 0::as,[.cells cs [],x]=>if bI 0 as=true/\bI 0 cs=true then
   (match run P aK (.call k (.p 0 0::as) [.cells cs []]) with
   |some (v,[.cells cs' []])=>if bI 0 cs'=true/\cj 0 v=true then some (v,[.cells cs' [],x])else none
   |_=>none)else none
 |as,S=>run P aK (.call k as S)
theorem oE(hg:lA P (run P aK)){k:Nat}{args:List V}{S:List Ob}{o:Out}(h:lV P aK k args S=some o):cx P k args S o:=by
 unfold lV at h;split at h
 ·rename_i as cs x;split at h
  ·rename_i hc;split at h
   ·rename_i v cs' hr;split at h
    ·rename_i hc2;injection h with h;subst h
     exact(hg _ _ _ _ hr).up hc.1 hc.2 hc2.1 hc2.2
    ·cases h
   ·cases h
  ·cases h
 ·exact hg _ _ _ _ h
theorem Tb{k:Nat}{as cs cs':List V}{v:V}{x:Ob}(h:run P aK (.call k (.p 0 0::as) [.cells cs []])=some (v,[.cells cs' []]))(ha:bI 0 as=true)(hc:bI 0 cs=true)(hc':bI 0 cs'=true)(hv:cj 0 v=true):
  lV P aK k (.p 1 0::as) [.cells cs [],x]=some (v,[.cells cs' [],x]):=by
 simp only[lV,aaR (And.intro ha hc),h,aaR (And.intro hc' hv)]
end
end Go.Dn
namespace Go.Dn
open Go.IntKind (i64 u64 u8 u16 i32 u32)
def Wh:Nat->Nat->List Bool->List Bool
 |0,_,a=>a
 |f+1,n,a=>if n<=1 then a else Wh f (n / 2) ((n%2==1)::a)
@[irreducible] def aJ(n:Nat):List Bool:=Wh 60 n []
abbrev aH(l:List D)(n:Nat):D:=l.getD n (.b false)
abbrev cG(l:List V)(n:Nat):V:=l.getD n (vb false)
theorem cE{α:Type}{c:Prop}[Decidable c]{a b:α}(h:¬c:=by omega):(if c then a else b)=b:=aaN h
abbrev aC(l:List V):Ob := .cells l []
abbrev aE:=List UInt8
abbrev bF:Fl:=[(1,21000001),(73,2000000)]
abbrev EU:List UInt8:=[109,97,112,60]
abbrev P5:List UInt8:=[110,97,109,101,115,112,97,99,101,32]
abbrev Up:List UInt8:=[115,116,114,105,110,103]
abbrev Xw:List UInt8:=[32,116,104,114,111,119,115,32,40]
abbrev Xx:List UInt8:=[105,110,99,108,117,100,101,32,34]
abbrev dP(n:Nat)(K:Tr):Tr:=aO (decide (n<4611686018427387904)) K
abbrev aR(t:Task):Tr := .call t .ret
section
variable (v0 v1 v2 : V) (s0 s1 s2 s3 s4 s5 s6 s7 s8 s9 s10 s11 s12 s13 s14 s15 s16 s17 s18 s19 : List UInt8) (i0 i1 i2 i3 i4 i5 : Int) (b0 b1 b2 b3 : Bool) (l0 l1 l2 l3 : List D)
abbrev Z0:List V:=sv 56 [(1,vl b0 l0),(5,vl b1 l1),(6,vu i0),(20,vl b2 l2),(21,vi i1),(22,vi i2)]
abbrev sq1:List V:=sv 84 [(0,.p 0 0),(2,.p 1 0),(3,.p 2 0),(4,vi i0),(5,vu i1),(46,vb b0)]
abbrev sq2:List V:=sv 110 [(0,.p 0 0),(2,.p 1 0),(3,vi i0),(4,vs s0),(5,vi i1),(103,vb b0)]
abbrev sq3:List V:=sv 60 [(0,vl b0 l0),(1,vl b1 l1),(7,v0),(8,vl b2 l2),(9,vi i0)]
abbrev sq4:List V:=sv 84 [(0,.p 0 0),(2,.p 1 0),(3,.p 2 0),(4,vi i0),(5,vu i1)]
abbrev sq5:List V:=sv 55 [(0,v0),(1,v1),(6,vu i0),(19,vi i1),(20,vi i2)]
abbrev dp:List V:=[vi i0,vs s0,vs s1,vi i1,vi i2,vu i3,vs s2,vl b0 l0,vl b1 l1,vl b2 l2,vs s3,vl b3 l3]
abbrev dJ:List V:=[vi i0,vs s0,vi i1,vu i2,vi i3]
abbrev mQ:List V:=[vb b0,vi i0,vi i1,vs s0,vs s1,vb b1,vi i2,vi i3,vu i4,vs s2,vl b2 l0]
abbrev dF:List V:=[vs s0,vi i0,vi i1,vi i2]
abbrev fX:List V:=[vi i0,vi i1,vu i2,vs s0,vl b0 l0]
abbrev fI:List V:=[vl b0 l0,vl b1 l1,vl b2 l2]
abbrev kO:List V:=[vl b0 l0,vi i0,vi i1,vi i2]
abbrev zl:List V:=[vs s0,vb b0,vs s1,vl b1 l0,vl b2 l1]
abbrev OC:List V:=[vs s0,vb b0,vi i0]
abbrev Tz:List V:=[vl b0 l0,vl b1 l1,vi i0]
abbrev X6:List Ob->Task := .at_ 53 1 (aJ 7755) (sv 100 [(0,.p 0 0),(2,vs s0),(3,vb b0),(9,vl b1 l0),(10,vi i0),(11,vi i1),(12,.p 1 0)]) [(9,11)]
abbrev Wt:List Ob->Task := .at_ 150 0 (aJ 1567) (sv 133 [(0,vs s0),(4,vu i0),(5,vl b0 l0),(6,vb b1),(7,vi i1),(55,vb b2)]) [(5,1)]
abbrev YA:List Ob->Task := .at_ 25 1 (aJ 14639) (sv 72 [(0,.p 0 0),(1,vs s0),(5,.p 1 0),(6,.p 2 0),(7,.p 3 0),(8,vi i0),(9,vi i1),(10,.p 4 0)]) []
abbrev YB:List Ob->Task := .at_ 53 1 (aJ 218699) (sv 100 [(0,.p 0 0),(2,vs s0),(3,vb b0),(9,vl b1 l0),(10,vi i0),(11,vi i1),(12,.p 1 0),(83,vb b2)]) [(9,11)]
abbrev SH:List Ob->Task := .at_ 36 0 (aJ 13) (sv 139 [(2,.p 0 0),(3,.p 1 0),(68,vb b0)]) []
abbrev Wz:List Ob->Task := .at_ 133 1 (aJ 803) (sv 83 [(0,.p 0 0),(1,vs s0),(5,vl b0 l0),(38,vb b1)]) [(5,11)]
abbrev WA:List Ob->Task := .at_ 97 1 (aJ 195) (sv 110 [(0,.p 0 0),(2,.p 1 0),(3,vi i0),(55,vb b0)]) []
abbrev Vw:List Ob->Task := .at_ 70 0 (aJ 3659) (sv 75 [(0,vl b0 l0),(1,vl b1 l1),(5,vi i0),(74,vb b2)]) []
abbrev VF:List Ob->Task := .at_ 41 1 (aJ 15) (sv 79 [(0,.p 0 0),(2,.p 1 0),(4,.p 2 0)]) []
abbrev X9:List Ob->Task := .at_ 99 1 (aJ 895) (sv 242 [(0,.p 0 0),(2,.p 1 0),(3,vi i0),(4,vb b0),(140,vb b1)]) []
abbrev IP:List Ob->Task := .at_ 99 1 (aJ 447) (sv 242 [(0,.p 0 0),(2,.p 1 0),(3,vi i0),(4,vb b0),(97,vb b1)]) []
abbrev IQ:List Ob->Task := .at_ 55 1 (aJ 975) (sv 67 [(0,.p 0 0),(1,vs s0),(2,vi i0),(7,vi i1),(33,vb b0)]) []
abbrev IS:List Ob->Task := .at_ 99 1 (aJ 4095) (sv 242 [(0,.p 0 0),(2,.p 1 0),(6,.p 2 0),(7,vi i0)]) []
abbrev IT:List Ob->Task := .at_ 36 0 (aJ 7319) (sv 139 [(2,.p 0 0),(3,.p 1 0),(6,vi i0),(138,vb b0)]) []
abbrev RT:List Ob->Task := .at_ 53 1 (aJ 395) (sv 100 [(0,.p 0 0),(2,vs s0),(3,vb b0),(9,vl b1 l0),(10,vi i0),(11,vi i1),(26,vb b2)]) [(9,11)]
abbrev Gj:List Ob->Task := .at_ 69 0 (aJ 13) (sv 60 [(2,.p 0 0),(3,.p 1 0),(40,vb b0)]) []
abbrev Gk:List Ob->Task := .at_ 48 0 (aJ 1048575) (sv 147 [(3,vs s0),(8,vi i0),(14,vu i1)]) []
abbrev N4:List Ob->Task := .at_ 26 1 (aJ 127) (sv 83 [(0,.p 0 0),(3,.p 1 0),(7,.p 2 0),(8,.p 3 0)]) []
abbrev N5:List Ob->Task := .at_ 133 1 (aJ 4003) (sv 83 [(0,.p 0 0),(1,vs s0),(5,vl b0 l0),(6,.p 1 0)]) [(5,11)]
abbrev N6:List Ob->Task := .at_ 29 2 (aJ 2043) (sv 117 [(0,.p 1 0),(3,.p 2 0),(11,vi i0),(54,vb b0)]) []
abbrev IU:List Ob->Task := .at_ 83 1 (aJ 803) (sv 65 [(0,.p 0 0),(3,vl b0 l0),(29,vb b1)]) [(3,5)]
abbrev N7:List Ob->Task := .at_ 17 0 (aJ 791) (sv 133 [(1,vl b0 l0),(2,vl b1 l1),(7,v0),(8,v1),(9,vi i0),(35,vb b2)]) []
abbrev Vd:List Ob->Task := .at_ 53 1 (aJ 3659) (sv 100 [(0,.p 0 0),(2,vs s0),(3,vb b0),(9,vl b1 l0),(10,vi i0),(11,vi i1),(12,.p 1 0)]) [(9,11)]
abbrev Ve:List Ob->Task := .at_ 25 1 (aJ 175) (sv 72 [(0,.p 0 0),(1,vs s0),(5,.p 1 0),(6,.p 2 0),(7,.p 3 0),(8,vi i0),(9,vi i1)]) []
abbrev N8:List Ob->Task := .at_ 198 0 (aJ 14639) (sv 64 [(0,vl b0 l0),(1,vl b1 l1),(4,v0),(5,vl b2 l2),(7,vi i0)]) []
abbrev Vf:List Ob->Task := .at_ 132 1 (aJ 50367) (sv 68 [(0,.p 0 0),(1,vi i0),(4,.p 1 0),(5,.p 2 0),(6,vs s0),(7,vi i1),(37,vb b0)]) []
abbrev SB:List Ob->Task := .at_ 17 0 (aJ 919) (sv 133 [(1,vl b0 l0),(2,vl b1 l1),(7,vl b2 l2),(8,v0),(9,vi i0)]) [(7,39000001)]
abbrev SC:List Ob->Task := .at_ 97 1 (aJ 351) (sv 110 [(0,.p 0 0),(2,.p 1 0),(3,vi i0),(4,vs s0),(5,vi i1)]) []
abbrev SD:List Ob->Task := .at_ 77 1 (aJ 4047) (sv 78 [(0,.p 0 0),(1,vi i0),(5,.p 1 0),(6,vi i1),(37,vb b0)]) []
abbrev SE:List Ob->Task := .at_ 150 0 (aJ 159) (sv 133 [(0,vs s0),(4,vu i0),(5,vl b0 l0),(6,vb b1),(7,vi i1)]) [(5,1)]
abbrev SF:List Ob->Task := .at_ 120 1 (aJ 53) (sv 61 [(0,.p 0 0),(2,vs s0),(6,.p 1 0),(7,vs s1),(8,vb b0)]) []
abbrev SG:List Ob->Task := .at_ 133 1 (aJ 1955) (sv 83 [(0,.p 0 0),(1,vs s0),(5,vl b0 l0),(6,.p 1 0)]) [(5,11)]
abbrev N9:List Ob->Task := .at_ 16 0 (aJ 319) (sv 79 [(2,.p 0 0),(8,.p 1 0),(9,.p 2 0)]) []
abbrev Oa:List Ob->Task := .at_ 149 0 (aJ 351) (sv 56 [(0,vs s0),(4,vb b0),(5,vu i0),(6,vi i1)]) []
abbrev Oc:List Ob->Task := .at_ 168 0 (aJ 43) (sv 23 [(0,vl b0 l0),(3,vu i0),(7,vi i1),(8,vi i2)]) []
abbrev Od:List Ob->Task := .at_ 97 1 (aJ 19) (sv 110 [(0,.p 0 0),(2,.p 1 0),(3,vi i0)]) []
abbrev Oe:List Ob->Task := .at_ 81 1 (aJ 803) (sv 66 [(0,.p 0 0),(3,vl b0 l0),(29,vb b1)]) [(3,3)]
abbrev Vg:List Ob->Task := .at_ 42 0 (aJ 7319) (sv 50 [(0,vs s0),(3,vl b0 l0),(4,vi i0),(6,vl b1 l1),(7,vi i1),(8,vi i2)]) [(6,39000001)]
abbrev IV:List Ob->Task := .at_ 45 1 (aJ 38868) (sv 146 [(0,.p 0 0),(3,vi i0)]) []
abbrev Of:List Ob->Task := .at_ 15 0 (aJ 13) (sv 88 [(2,.p 0 0),(3,.p 1 0),(32,vb b0)]) []
abbrev SI:List Ob->Task := .at_ 46 1 (aJ 57151) (sv 194 [(0,.p 0 0),(2,.p 1 0),(3,vi i0),(115,vb b0)]) []
abbrev Vh:List Ob->Task := .at_ 53 1 (aJ 43) (sv 100 [(0,.p 0 0),(2,vs s0),(3,vb b0),(9,vl b1 l0),(10,vi i0),(11,vi i1)]) [(9,11)]
abbrev Vi:List Ob->Task := .at_ 132 1 (aJ 7359) (sv 68 [(0,.p 0 0),(1,vi i0),(4,.p 1 0),(5,.p 2 0),(6,vs s0),(7,vi i1)]) []
abbrev Og:List Ob->Task := .at_ 37 3 (aJ 100) (sv 93 [(0,.p 1 0),(1,.p 2 0),(40,vb b0)]) []
abbrev Gm:List Ob->Task := .at_ 162 0 (aJ 19) (sv 22 [(0,vl b0 l0),(3,vi i0)]) []
abbrev Vj:List Ob->Task := .at_ 97 1 (aJ 12895) (sv 110 [(0,.p 0 0),(2,.p 1 0),(3,vi i0),(4,vs s0),(5,vi i1),(103,vb b0)]) []
abbrev Vk:List Ob->Task := .at_ 132 1 (aJ 703) (sv 68 [(0,.p 0 0),(1,vi i0),(4,.p 1 0),(5,.p 2 0),(6,vs s0),(7,vi i1)]) []
abbrev X7:List Ob->Task := .at_ 165 0 (aJ 44235) (sv 68 [(1,vl b0 l0),(5,v0),(6,vi i0),(7,v1),(8,vu i1),(18,vl b1 l1),(19,vi i2),(20,vi i3),(25,vl b2 l2),(26,vi i4),(27,vi i5)]) []
abbrev Vl:List Ob->Task := .at_ 99 1 (aJ 7551) (sv 242 [(0,.p 0 0),(2,.p 1 0),(3,vi i0),(4,vb b0),(5,vb b1),(186,vb b2)]) []
abbrev Vm:List Ob->Task := .at_ 46 1 (aJ 6389567) (sv 194 [(0,.p 0 0),(2,.p 1 0),(3,vi i0),(4,v0),(6,vi i1),(152,vb b0)]) []
abbrev SJ:List Ob->Task := .at_ 179 1 (aJ 107) (sv 33 [(0,.p 0 0),(3,.p 1 0),(7,vi i0),(8,vb b0)]) []
abbrev Vn:List Ob->Task := .at_ 109 0 (aJ 791) (sv 42 [(0,vl b0 l0),(1,vl b1 l1),(5,vl b2 l2),(6,vu i0),(7,vi i1),(21,vb b3)]) [(5,1)]
abbrev SK:List Ob->Task := .at_ 77 1 (aJ 27) (sv 78 [(0,.p 0 0),(1,vi i0),(5,.p 1 0),(20,vb b0)]) []
abbrev SL:List Ob->Task := .at_ 48 0 (aJ 458751) (sv 147 [(3,vs s0),(8,vi i0),(10,vl b0 l0),(104,vb b1)]) []
abbrev Vo:List Ob->Task := .at_ 42 0 (aJ 87) (sv 50 [(0,vs s0),(3,vl b0 l0),(4,vi i0),(6,vl b1 l1),(7,vi i1)]) [(6,39000001)]
abbrev SM:List Ob->Task := .at_ 107 0 (aJ 1839) (sv 60 [(0,vl b0 l0),(1,vl b1 l1),(7,v0),(8,vl b2 l2),(9,vi i0)]) []
abbrev SN:List Ob->Task := .at_ 81 1 (aJ 1955) (sv 66 [(0,.p 0 0),(3,vl b0 l0),(4,.p 1 0)]) [(3,3)]
abbrev Vp:List Ob->Task := .at_ 80 1 (aJ 8167) (sv 73 [(0,.p 0 0),(1,vi i0),(4,.p 1 0),(5,.p 2 0),(41,vb b0)]) []
abbrev Oh:List Ob->Task := .at_ 162 0 (aJ 195) (sv 22 [(0,vl b0 l0),(3,vi i0),(15,vb b1)]) []
abbrev SO:List Ob->Task := .at_ 55 1 (aJ 15) (sv 67 [(0,.p 0 0),(1,vs s0),(2,vi i0),(7,vi i1)]) []
abbrev Vq:List Ob->Task := .at_ 146 1 (aJ 511) (sv 84 [(0,.p 0 0),(2,.p 1 0),(3,.p 2 0),(5,vu i0),(6,vi i1)]) []
abbrev Oi:List Ob->Task := .at_ 189 0 (aJ 23) (sv 69 [(0,vl b0 l0),(1,vl b1 l1),(6,vi i0)]) []
abbrev Oj:List Ob->Task := .at_ 45 1 (aJ 212) (sv 146 [(0,.p 0 0),(2,v0),(30,vb b0)]) []
abbrev Vr:List Ob->Task := .at_ 132 1 (aJ 63) (sv 68 [(0,.p 0 0),(1,vi i0),(4,.p 1 0),(5,.p 2 0),(6,vs s0)]) []
abbrev Vs:List Ob->Task := .at_ 12 0 (aJ 43) (sv 55 [(1,.p 0 0),(3,.p 1 0),(13,vl b0 l0),(14,vi i0),(15,vi i1)]) []
abbrev Vt:List Ob->Task := .at_ 12 0 (aJ 87) (sv 55 [(1,.p 0 0),(3,.p 1 0),(26,vl b0 l0),(27,vi i0),(28,vi i1)]) []
abbrev Vu:List Ob->Task := .at_ 54 1 (aJ 43) (sv 31 [(0,.p 0 0),(1,vs s0),(5,vl b0 l0),(6,vi i0),(7,vi i1)]) [(5,11)]
abbrev Gn:List Ob->Task := .at_ 162 1 (aJ 19) (sv 22 [(0,v0),(3,vi i0)]) []
abbrev SQ:List Ob->Task := .at_ 188 0 (aJ 2815) (sv 75 [(0,vs s0),(5,vb b0),(6,vi i0),(7,vi i1)]) []
abbrev Vv:List Ob->Task := .at_ 46 1 (aJ 3903) (sv 194 [(0,.p 0 0),(2,.p 1 0),(3,vi i0),(4,v0),(5,v1),(72,vb b0)]) []
abbrev Vx:List Ob->Task := .at_ 99 1 (aJ 3455) (sv 242 [(0,.p 0 0),(2,.p 1 0),(3,vi i0),(4,vb b0),(5,vb b1)]) []
abbrev Vy:List Ob->Task := .at_ 16 0 (aJ 31295) (sv 79 [(2,.p 0 0),(8,.p 1 0),(9,.p 2 0),(10,.p 3 0)]) []
abbrev SR:List Ob->Task := .at_ 50 0 (aJ 639) (sv 76 [(3,vs s0),(4,vl b0 l0),(5,vl b1 l1),(6,vi i0)]) []
abbrev Vz:List Ob->Task := .at_ 150 0 (aJ 3359) (sv 133 [(0,vs s0),(4,vu i0),(5,vl b0 l0),(6,vb b1),(7,vi i1)]) [(5,1)]
abbrev VA:List Ob->Task := .at_ 150 0 (aJ 447) (sv 133 [(0,vs s0),(4,vu i0),(5,vl b0 l0),(7,vi i1),(79,vb b1)]) [(5,1)]
abbrev VB:List Ob->Task := .at_ 133 1 (aJ 32675) (sv 83 [(0,.p 0 0),(1,vs s0),(5,vl b0 l0),(6,.p 1 0)]) [(5,11)]
abbrev VC:List Ob->Task := .at_ 154 0 (aJ 175) (sv 40 [(0,vl b0 l0),(1,vl b1 l1),(6,vl b2 l2),(7,vu i0),(8,vi i1)]) [(6,1)]
abbrev VD:List Ob->Task := .at_ 109 0 (aJ 87) (sv 42 [(0,vl b0 l0),(1,vl b1 l1),(5,vl b2 l2),(6,vu i0),(7,vi i1)]) [(5,1)]
abbrev X8:List Ob->Task := .at_ 132 1 (aJ 6335) (sv 68 [(0,.p 0 0),(1,vi i0),(4,.p 1 0),(5,.p 2 0),(6,vs s0),(7,vi i1),(29,vb b0)]) []
abbrev VE:List Ob->Task := .at_ 29 2 (aJ 716795) (sv 117 [(0,.p 1 0),(104,vl b0 l0),(105,vi i0),(106,vi i1)]) []
abbrev VG:List Ob->Task := .at_ 16 0 (aJ 12863) (sv 79 [(2,.p 0 0),(8,.p 1 0),(9,.p 2 0),(46,vb b0)]) []
abbrev SS:List Ob->Task := .at_ 37 3 (aJ 24) (sv 93 [(0,.p 1 0),(1,.p 2 0),(18,vb b0)]) []
abbrev SU:List Ob->Task := .at_ 5 0 (aJ 27) (sv 65 [(0,vl b0 l0),(1,vl b1 l1),(2,vl b2 l2),(23,vb b3)]) []
abbrev Ok:List Ob->Task := .at_ 162 1 (aJ 195) (sv 22 [(0,v0),(3,vi i0),(15,vb b0)]) []
abbrev VH:List Ob->Task := .at_ 16 0 (aJ 3135) (sv 79 [(2,.p 0 0),(8,.p 1 0),(9,.p 2 0),(38,vb b0)]) []
abbrev VI:List Ob->Task := .at_ 151 1 (aJ 61) (sv 55 [(0,.p 0 0),(4,.p 1 0),(6,.p 2 0),(47,vb b0)]) []
abbrev VJ:List Ob->Task := .at_ 132 1 (aJ 255) (sv 68 [(0,.p 0 0),(4,.p 1 0),(5,.p 2 0),(6,vs s0)]) []
abbrev VK:List Ob->Task := .at_ 80 1 (aJ 131047) (sv 73 [(0,.p 0 0),(1,vi i0),(4,.p 1 0),(60,vb b0)]) []
abbrev VL:List Ob->Task := .at_ 29 2 (aJ 11003) (sv 117 [(0,.p 1 0),(41,vl b0 l0),(42,vi i0),(43,vi i1)]) []
abbrev VM:List Ob->Task := .at_ 29 2 (aJ 44027) (sv 117 [(0,.p 1 0),(70,vl b0 l0),(71,vi i0),(72,vi i1)]) []
abbrev VN:List Ob->Task := .at_ 131 0 (aJ 245) (sv 32 [(0,vi i0),(2,vs s0),(3,vs s1),(9,vi i1),(13,vb b0)]) []
abbrev Ya:List Ob->Task := .at_ 42 0 (aJ 791) (sv 50 [(0,vs s0),(3,vl b0 l0),(4,vi i0),(6,vl b1 l1),(7,vi i1),(22,vb b2)]) [(6,39000001)]
abbrev SV:List Ob->Task := .at_ 102 0 (aJ 43) (sv 53 [(0,vl b0 l0),(1,vi i0),(5,v0),(6,vi i1)]) []
abbrev SW:List Ob->Task := .at_ 189 0 (aJ 7111) (sv 69 [(6,vi i0),(9,vl b0 l0),(59,vb b1)]) []
abbrev VO:List Ob->Task := .at_ 99 1 (aJ 27) (sv 242 [(0,.p 0 0),(2,.p 1 0),(3,vi i0),(38,vb b0)]) []
abbrev VP:List Ob->Task := .at_ 48 0 (aJ 10485759) (sv 147 [(3,vs s0),(8,vi i0),(15,vs s1),(16,vs s2)]) []
abbrev Yb:List Ob->Task := .at_ 146 1 (aJ 1567) (sv 84 [(0,.p 0 0),(2,.p 1 0),(3,.p 2 0),(4,vi i0),(5,vu i1),(46,vb b0)]) []
abbrev VQ:List Ob->Task := .at_ 26 1 (aJ 43) (sv 83 [(0,.p 0 0),(3,.p 1 0),(4,vi i0),(5,vi i1)]) []
abbrev SX:List Ob->Task := .at_ 188 0 (aJ 223) (sv 75 [(0,vs s0),(5,vb b0),(33,vb b1)]) []
abbrev VR:List Ob->Task := .at_ 12 0 (aJ 175) (sv 55 [(3,.p 1 0),(41,vl b0 l0),(42,vi i0),(43,vi i1)]) []
abbrev RG:List Ob->Task := .at_ 218 0 (aJ 521007) (sv 55 [(0,v0),(1,v1),(6,vu i0),(7,vi i1),(8,vu i2),(9,vu i3),(19,vi i4),(20,vi i5)]) []
abbrev Kw:List Ob->Task := .at_ 165 0 (aJ 43) (sv 68 [(1,vl b0 l0),(5,v0),(18,vl b1 l1),(19,vi i0),(20,vi i1)]) []
abbrev Ge:List Ob->Task := .at_ 20 0 (aJ 47) (sv 52 [(5,.p 0 0),(6,vl b0 l0)]) [(6,5)]
abbrev Kx:List Ob->Task := .at_ 124 0 (aJ 43) (sv 20 [(3,vl b0 l0),(6,vl b1 l1),(7,vi i0),(8,vi i1)]) [(3,1)]
abbrev Ky:List Ob->Task := .at_ 41 1 (aJ 1966067) (sv 79 [(0,.p 0 0),(2,.p 1 0),(4,.p 2 0)]) []
abbrev Kz:List Ob->Task := .at_ 83 1 (aJ 32675) (sv 65 [(0,.p 0 0),(3,vl b0 l0),(4,.p 1 0)]) [(3,5)]
abbrev RH:List Ob->Task := .at_ 199 0 (aJ 62255) (sv 56 [(1,vl b0 l0),(5,vl b1 l1),(6,vu i0),(20,vl b2 l2),(21,vi i1),(22,vi i2)]) [(5,1)]
abbrev RJ:List Ob->Task := .at_ 150 0 (aJ 45055) (sv 133 [(4,vu i0),(5,vl b0 l0),(7,vi i1),(8,vi i2),(11,vl b1 l1),(12,vi i3)]) [(5,1)]
abbrev KA:List Ob->Task := .at_ 52 0 (aJ 43) (sv 19 [(3,vl b0 l0),(6,vl b1 l1),(7,vi i0),(8,vi i1)]) [(3,1)]
abbrev KB:List Ob->Task := .at_ 83 1 (aJ 1955) (sv 65 [(0,.p 0 0),(3,vl b0 l0),(4,.p 1 0)]) [(3,5)]
abbrev RL:List Ob->Task := .at_ 161 0 (aJ 351) (sv 65 [(1,vi i0),(5,vl b0 l0),(6,vu i1),(38,vl b1 l1),(39,vi i2),(40,vi i3)]) [(5,1)]
abbrev RM:List Ob->Task := .at_ 199 0 (aJ 175) (sv 56 [(1,vl b0 l0),(5,vl b1 l1),(6,vu i0),(20,vl b2 l2),(21,vi i1),(22,vi i2)]) [(5,1)]
abbrev BE:List Ob->Task := .at_ 73 0 (aJ 13) (sv 39 [(0,vs s0),(20,vb b0)]) []
abbrev KC:List Ob->Task := .at_ 77 1 (aJ 2047) (sv 78 [(0,.p 0 0),(6,vi i0),(7,vs s0),(8,vs s1)]) []
abbrev KD:List Ob->Task := .at_ 48 0 (aJ 10239) (sv 147 [(3,vs s0),(6,vl b0 l0),(7,vl b1 l1),(8,vi i0)]) []
abbrev KE:List Ob->Task := .at_ 48 0 (aJ 32767) (sv 147 [(3,vs s0),(6,vl b0 l0),(7,vl b1 l1),(8,vi i0)]) []
abbrev KF:List Ob->Task := .at_ 37 3 (aJ 1012) (sv 93 [(0,.p 1 0),(1,.p 2 0),(5,.p 3 0)]) []
abbrev KG:List Ob->Task := .at_ 27 2 (aJ 5) (sv 18 [(0,.p 1 0),(6,vl b0 l0),(7,vi i0),(8,vi i1)]) []
abbrev KH:List Ob->Task := .at_ 16 0 (aJ 255) (sv 79 [(2,.p 0 0),(8,.p 1 0),(9,.p 2 0)]) []
abbrev KI:List Ob->Task := .at_ 17 0 (aJ 919) (sv 133 [(1,vl b0 l0),(2,vl b1 l1),(7,v0),(8,v1),(9,vi i0)]) []
abbrev RN:List Ob->Task := .at_ 150 0 (aJ 1567) (sv 133 [(0,vs s0),(4,vu i0),(5,vl b0 l0),(6,vb b1),(7,vi i1),(55,v0)]) [(5,1)]
abbrev KJ:List Ob->Task := .at_ 22 0 (aJ 13197301) (sv 100 [(1,.p 0 0),(4,vs s0),(5,vi i0)]) []
abbrev KK:List Ob->Task := .at_ 50 0 (aJ 8191) (sv 76 [(3,vs s0),(6,vi i0),(7,vs s1),(8,vs s2)]) []
abbrev RO:List Ob->Task := .at_ 46 1 (aJ 1802047) (sv 194 [(0,.p 0 0),(2,.p 1 0),(3,vi i0),(6,vi i1),(170,vb b0)]) []
abbrev KL:List Ob->Task := .at_ 133 1 (aJ 19) (sv 83 [(0,.p 0 0),(1,vs s0),(5,vl b0 l0)]) [(5,11)]
abbrev KM:List Ob->Task := .at_ 133 1 (aJ 15) (sv 83 [(0,.p 0 0),(1,vs s0),(5,vl b0 l0)]) [(5,11)]
abbrev KN:List Ob->Task := .at_ 17 0 (aJ 87) (sv 133 [(1,vl b0 l0),(2,vl b1 l1),(7,v0),(8,v1),(9,vi i0)]) []
abbrev KO:List Ob->Task := .at_ 129 0 (aJ 459) (sv 34 [(0,vs s0),(3,vi i0),(4,vs s1),(5,vi i1)]) []
abbrev Gf:List Ob->Task := .at_ 37 3 (aJ 2) (sv 93 [(0,.p 1 0),(1,.p 2 0)]) []
abbrev RP:List Ob->Task := .at_ 196 0 (aJ 87) (sv 40 [(1,v0),(5,vl b0 l0),(6,vu i0),(13,vl b1 l1),(14,vi i1),(15,vi i2)]) [(5,1)]
abbrev RR:List Ob->Task := .at_ 146 1 (aJ 159) (sv 84 [(0,.p 0 0),(2,.p 1 0),(3,.p 2 0),(4,vi i0),(5,vu i1)]) []
abbrev RS:List Ob->Task := .at_ 26 1 (aJ 3659) (sv 83 [(0,.p 0 0),(3,.p 1 0),(4,vi i0),(5,vi i1),(6,.p 2 0)]) []
abbrev KP:List Ob->Task := .at_ 36 0 (aJ 43) (sv 139 [(2,.p 0 0),(3,.p 1 0),(5,vi i0)]) []
abbrev KQ:List Ob->Task := .at_ 36 0 (aJ 87) (sv 139 [(2,.p 0 0),(3,.p 1 0),(6,vi i0)]) []
abbrev KR:List Ob->Task := .at_ 15 0 (aJ 175) (sv 88 [(2,.p 0 0),(3,.p 1 0),(7,vi i0)]) []
abbrev KS:List Ob->Task := .at_ 22 0 (aJ 352245) (sv 100 [(1,.p 0 0),(4,vs s0),(5,vi i0)]) []
abbrev KT:List Ob->Task := .at_ 31 0 (aJ 117119) (sv 125 [(1,.p 0 0),(4,vs s0),(5,vi i0)]) []
abbrev KU:List Ob->Task := .at_ 129 0 (aJ 43) (sv 34 [(0,vs s0),(3,vi i0),(4,vs s1),(5,vi i1)]) []
abbrev KV:List Ob->Task := .at_ 69 0 (aJ 43) (sv 60 [(2,.p 0 0),(3,.p 1 0),(5,vi i0)]) []
abbrev KW:List Ob->Task := .at_ 15 0 (aJ 43) (sv 88 [(2,.p 0 0),(3,.p 1 0),(5,vi i0)]) []
abbrev KX:List Ob->Task := .at_ 15 0 (aJ 87) (sv 88 [(2,.p 0 0),(3,.p 1 0),(6,vi i0)]) []
abbrev RW:List Ob->Task := .at_ 46 1 (aJ 16191) (sv 194 [(0,.p 0 0),(2,.p 1 0),(3,vi i0),(4,v0),(5,v1),(83,vb b0)]) []
abbrev RX:List Ob->Task := .at_ 48 0 (aJ 102760447) (sv 147 [(3,vs s0),(8,vi i0),(15,vs s1),(16,vs s2),(130,vb b0)]) []
abbrev RZ:List Ob->Task := .at_ 120 1 (aJ 1013) (sv 61 [(0,.p 0 0),(2,vs s0),(6,.p 1 0),(7,vs s1),(29,vb b0)]) []
abbrev KY:List Ob->Task := .at_ 76 1 (aJ 27) (sv 28 [(0,.p 0 0),(3,.p 1 0),(21,vb b0)]) []
abbrev KZ:List Ob->Task := .at_ 78 1 (aJ 27) (sv 28 [(0,.p 0 0),(3,.p 1 0),(21,vb b0)]) []
abbrev Gg:List Ob->Task := .at_ 59 0 (aJ 31) (sv 37 [(1,.p 0 0),(3,vs s0)]) []
abbrev Gh:List Ob->Task := .at_ 61 0 (aJ 31) (sv 37 [(1,.p 0 0),(3,vs s0)]) []
abbrev K0:List Ob->Task := .at_ 22 0 (aJ 3223) (sv 100 [(1,.p 0 0),(6,vs s0),(7,vi i0)]) []
abbrev K2:List Ob->Task := .at_ 31 0 (aJ 1407) (sv 125 [(1,.p 0 0),(4,vs s0),(5,vi i0)]) []
abbrev K3:List Ob->Task := .at_ 31 0 (aJ 2815) (sv 125 [(1,.p 0 0),(4,vs s0),(6,vi i0)]) []
abbrev K4:List Ob->Task := .at_ 31 0 (aJ 5631) (sv 125 [(1,.p 0 0),(4,vs s0),(7,vi i0)]) []
abbrev K5:List Ob->Task := .at_ 150 0 (aJ 131071) (sv 133 [(4,vu i0),(11,vl b0 l0),(13,vl b1 l1)]) []
abbrev K6:List Ob->Task := .at_ 23 0 (aJ 175) (sv 63 [(3,vl b0 l0),(4,vl b1 l1),(5,vi i0)]) [(3,1)]
abbrev BF:List Ob->Task := .at_ 45 1 (aJ 2) (sv 146 [(0,.p 0 0)]) []
abbrev R0:List Ob->Task := .at_ 46 1 (aJ 65343) (sv 194 [(0,.p 0 0),(2,.p 1 0),(3,vi i0),(4,v0),(118,vb b0)]) []
abbrev R1:List Ob->Task := .at_ 81 1 (aJ 13731) (sv 66 [(0,.p 0 0),(3,vl b0 l0),(4,.p 1 0),(47,vb b1)]) [(3,3)]
abbrev K7:List Ob->Task := .at_ 22 0 (aJ 87) (sv 100 [(1,.p 0 0),(6,vs s0),(7,vi i0)]) []
abbrev K8:List Ob->Task := .at_ 13 0 (aJ 175) (sv 64 [(1,.p 0 0),(3,vs s0),(6,vi i0)]) []
abbrev R2:List Ob->Task := .at_ 46 1 (aJ 622399) (sv 194 [(0,.p 0 0),(2,.p 1 0),(3,vi i0),(4,v0),(6,vi i1)]) []
abbrev R3:List Ob->Task := .at_ 46 1 (aJ 393023) (sv 194 [(0,.p 0 0),(2,.p 1 0),(3,vi i0),(4,v0),(7,vi i1)]) []
abbrev K9:List Ob->Task := .at_ 105 0 (aJ 43) (sv 68 [(0,vl b0 l0),(1,vl b1 l1),(5,v0),(6,vi i0)]) []
abbrev R4:List Ob->Task := .at_ 105 0 (aJ 10827) (sv 68 [(0,vl b0 l0),(1,vl b1 l1),(5,v0),(6,vi i0),(7,vu i1),(8,vi i2)]) []
abbrev Gl:List Ob->Task := .at_ 169 0 (aJ 55) (sv 36 [(5,vl b0 l0),(31,vb b1)]) []
abbrev La:List Ob->Task := .at_ 13 0 (aJ 43) (sv 64 [(1,.p 0 0),(3,vs s0),(4,vi i0)]) []
abbrev Lb:List Ob->Task := .at_ 13 0 (aJ 87) (sv 64 [(1,.p 0 0),(3,vs s0),(5,vi i0)]) []
abbrev R5:List Ob->Task := .at_ 188 0 (aJ 201471) (sv 75 [(0,vs s0),(5,vb b0),(6,vi i0),(7,vi i1),(57,vb b1)]) []
abbrev R6:List Ob->Task := .at_ 37 3 (aJ 3412) (sv 93 [(0,.p 1 0),(1,.p 2 0),(4,.p 3 0),(55,vb b0)]) []
abbrev Lc:List Ob->Task := .at_ 29 2 (aJ 61435) (sv 117 [(0,.p 1 0),(3,.p 2 0)]) []
abbrev Ld:List Ob->Task := .at_ 48 0 (aJ 2047) (sv 147 [(3,vs s0),(6,vl b0 l0),(7,vl b1 l1)]) []
abbrev Lf:List Ob->Task := .at_ 125 0 (aJ 1611) (sv 23 [(0,vl b0 l0),(3,vs s0),(4,vi i0)]) []
abbrev Lg:List Ob->Task := .at_ 39 1 (aJ 43) (sv 18 [(0,.p 0 0),(3,vl b0 l0),(4,vi i0)]) []
abbrev R7:List Ob->Task := .at_ 218 0 (aJ 62255) (sv 55 [(0,v0),(1,v1),(7,vi i0),(8,vu i1),(19,vi i2),(20,vi i3)]) []
abbrev R8:List Ob->Task := .at_ 133 1 (aJ 195) (sv 83 [(0,.p 0 0),(1,vs s0),(5,vl b0 l0),(17,vb b1)]) [(5,11)]
abbrev Lh:List Ob->Task := .at_ 50 0 (aJ 2047) (sv 76 [(3,vs s0),(6,vi i0),(7,vs s1)]) []
abbrev Li:List Ob->Task := .at_ 150 0 (aJ 27) (sv 133 [(0,vs s0),(4,vu i0),(28,vb b0)]) []
abbrev Lj:List Ob->Task := .at_ 48 0 (aJ 511) (sv 147 [(3,vs s0),(4,vi i0),(5,vu i1)]) []
abbrev Lk:List Ob->Task := .at_ 164 2 (aJ 87) (sv 49 [(0,vl b0 l0),(1,vl b1 l1),(5,vi i0)]) []
abbrev Ll:List Ob->Task := .at_ 164 0 (aJ 87) (sv 49 [(0,vl b0 l0),(1,vl b1 l1),(5,vi i0)]) []
abbrev Lm:List Ob->Task := .at_ 106 0 (aJ 87) (sv 17 [(0,vi i0),(3,vl b0 l0),(4,vi i1)]) []
abbrev Lo:List Ob->Task := .at_ 108 0 (aJ 21) (sv 30 [(0,vl b0 l0),(1,vl b1 l1),(5,vi i0)]) []
abbrev Lp:List Ob->Task := .at_ 125 0 (aJ 43) (sv 23 [(0,vl b0 l0),(3,vs s0),(4,vi i0)]) []
abbrev Lq:List Ob->Task := .at_ 17 0 (aJ 351) (sv 133 [(7,v0),(11,vs s0),(12,vi i0)]) []
abbrev Lr:List Ob->Task := .at_ 127 0 (aJ 43) (sv 21 [(0,vs s0),(3,vl b0 l0),(4,vi i0)]) []
abbrev Ls:List Ob->Task := .at_ 178 0 (aJ 43) (sv 23 [(0,vi i0),(3,vl b0 l0),(4,vi i1)]) []
abbrev Lt:List Ob->Task := .at_ 81 1 (aJ 19) (sv 66 [(0,.p 0 0),(3,vl b0 l0)]) [(3,3)]
abbrev Lu:List Ob->Task := .at_ 83 1 (aJ 19) (sv 65 [(0,.p 0 0),(3,vl b0 l0)]) [(3,5)]
abbrev Lv:List Ob->Task := .at_ 81 1 (aJ 15) (sv 66 [(0,.p 0 0),(3,vl b0 l0)]) [(3,3)]
abbrev Lw:List Ob->Task := .at_ 83 1 (aJ 15) (sv 65 [(0,.p 0 0),(3,vl b0 l0)]) [(3,5)]
abbrev Ly:List Ob->Task := .at_ 70 0 (aJ 43) (sv 75 [(0,vl b0 l0),(1,vl b1 l1),(5,vi i0)]) []
abbrev R9:List Ob->Task := .at_ 99 1 (aJ 55) (sv 242 [(0,.p 0 0),(2,.p 1 0),(3,vi i0),(62,vb b0)]) []
abbrev Lz:List Ob->Task := .at_ 60 2 (aJ 15) (sv 35 [(0,.p 1 0),(3,.p 2 0)]) []
abbrev LA:List Ob->Task := .at_ 22 0 (aJ 10741) (sv 100 [(1,.p 0 0),(3,vi i0)]) []
abbrev Sa:List Ob->Task := .at_ 46 1 (aJ 127) (sv 194 [(0,.p 0 0),(2,.p 1 0),(3,vi i0),(4,v0),(5,v1)]) []
abbrev Sb:List Ob->Task := .at_ 102 0 (aJ 1611) (sv 53 [(0,vl b0 l0),(1,vi i0),(5,v0),(6,vi i1),(31,vb b1)]) []
abbrev LB:List Ob->Task := .at_ 31 0 (aJ 127) (sv 125 [(1,.p 0 0),(4,vs s0)]) []
abbrev Sc:List Ob->Task := .at_ 198 0 (aJ 175) (sv 64 [(0,vl b0 l0),(1,vl b1 l1),(4,v0),(5,vl b2 l2),(7,vi i0)]) []
abbrev Wu:List Ob->Task := .at_ 150 0 (aJ 45055) (sv 133 [(4,vu i0),(5,vl b0 l0),(7,vi i1),(8,vi i2),(11,vl b1 l1),(12,vi i3)]) [(11,1),(5,1)]
abbrev LC:List Ob->Task := .at_ 147 1 (aJ 19) (sv 43 [(0,.p 0 0),(3,vi i0)]) []
abbrev LD:List Ob->Task := .at_ 59 0 (aJ 15) (sv 37 [(1,.p 0 0),(3,vs s0)]) []
abbrev LF:List Ob->Task := .at_ 61 0 (aJ 15) (sv 37 [(1,.p 0 0),(3,vs s0)]) []
abbrev LG:List Ob->Task := .at_ 62 0 (aJ 15) (sv 35 [(1,.p 0 0),(3,vs s0)]) []
abbrev LH:List Ob->Task := .at_ 100 0 (aJ 11) (sv 17 [(0,vu i0),(3,vs s0)]) []
abbrev Sd:List Ob->Task := .at_ 218 0 (aJ 175) (sv 55 [(0,v0),(1,v1),(6,vu i0),(19,vi i1),(20,vi i2)]) []
abbrev Se:List Ob->Task := .at_ 48 0 (aJ 447) (sv 147 [(3,vs s0),(4,vi i0),(5,vu i1),(33,vb b0)]) []
abbrev Sf:List Ob->Task := .at_ 81 1 (aJ 195) (sv 66 [(0,.p 0 0),(3,vl b0 l0),(14,vb b1)]) [(3,3)]
abbrev Sh:List Ob->Task := .at_ 83 1 (aJ 195) (sv 65 [(0,.p 0 0),(3,vl b0 l0),(14,vb b1)]) [(3,5)]
abbrev LI:List Ob->Task := .at_ 150 0 (aJ 107) (sv 133 [(0,vs s0),(4,vu i0)]) []
abbrev LJ:List Ob->Task := .at_ 188 0 (aJ 27) (sv 75 [(0,vs s0),(18,vb b0)]) []
abbrev LK:List Ob->Task := .at_ 166 0 (aJ 39) (sv 18 [(0,vi i0),(3,vl b0 l0)]) []
abbrev LL:List Ob->Task := .at_ 112 0 (aJ 15) (sv 34 [(4,vu i0),(5,vi i1)]) []
abbrev LM:List Ob->Task := .at_ 152 0 (aJ 19) (sv 23 [(0,vl b0 l0),(3,vi i0)]) []
abbrev LN:List Ob->Task := .at_ 103 0 (aJ 39) (sv 22 [(3,vl b0 l0),(4,vi i0)]) []
abbrev LO:List Ob->Task := .at_ 48 0 (aJ 15) (sv 147 [(0,vu i0),(3,vs s0)]) []
abbrev LP:List Ob->Task := .at_ 199 0 (aJ 7) (sv 56 [(0,vl b0 l0),(1,vl b1 l1)]) []
abbrev LQ:List Ob->Task := .at_ 50 0 (aJ 31) (sv 76 [(0,vu i0),(3,vs s0)]) []
abbrev LR:List Ob->Task := .at_ 215 0 (aJ 7) (sv 24 [(0,vu i0),(1,vi i1)]) []
abbrev Sj:List Ob->Task := .at_ 147 1 (aJ 195) (sv 43 [(0,.p 0 0),(3,vi i0),(29,vb b0)]) []
abbrev LS:List Ob->Task := .at_ 73 0 (aJ 43) (sv 39 [(0,vs s0),(3,vi i0)]) []
abbrev LU:List Ob->Task := .at_ 45 1 (aJ 2516) (sv 146 [(0,.p 0 0)]) []
abbrev LV:List Ob->Task := .at_ 145 0 (aJ 505) (sv 31 [(0,v0),(20,vb b0)]) []
abbrev Sk:List Ob->Task := .at_ 73 0 (aJ 1611) (sv 39 [(0,vs s0),(3,vi i0),(38,vb b0)]) []
abbrev Sl:List Ob->Task := .at_ 149 0 (aJ 447) (sv 56 [(4,vb b0),(5,vu i0),(47,vb b1)]) []
abbrev Sm:List Ob->Task := .at_ 152 0 (aJ 195) (sv 23 [(0,vl b0 l0),(3,vi i0),(15,vb b1)]) []
abbrev Sn:List Ob->Task := .at_ 103 0 (aJ 391) (sv 22 [(3,vl b0 l0),(4,vi i0),(18,vb b1)]) []
abbrev LW:List Ob->Task := .at_ 162 2 (aJ 19) (sv 22 [(0,v0),(3,vi i0)]) []
abbrev Sp:List Ob->Task := .at_ 149 0 (aJ 27) (sv 56 [(0,vs s0),(4,vb b0),(16,vb b1)]) []
abbrev LX:List Ob->Task := .at_ 152 1 (aJ 19) (sv 23 [(0,v0),(3,vi i0)]) []
abbrev LY:List Ob->Task := .at_ 58 2 (aJ 15) (sv 20 [(0,.p 1 0)]) []
abbrev LZ:List Ob->Task := .at_ 60 2 (aJ 63) (sv 35 [(0,.p 1 0)]) []
abbrev Sq:List Ob->Task := .at_ 45 1 (aJ 25044) (sv 146 [(0,.p 0 0),(87,vb b0)]) []
abbrev Sr:List Ob->Task := .at_ 162 2 (aJ 195) (sv 22 [(0,v0),(3,vi i0),(15,vb b0)]) []
abbrev Su:List Ob->Task := .at_ 45 1 (aJ 980) (sv 146 [(0,.p 0 0),(52,vb b0)]) []
abbrev Sv:List Ob->Task := .at_ 152 1 (aJ 195) (sv 23 [(0,v0),(3,vi i0),(15,vb b0)]) []
abbrev Sw:List Ob->Task := .at_ 42 0 (aJ 31) (sv 50 [(6,vl b0 l0)]) [(6,39000001)]
abbrev Sx:List Ob->Task := .at_ 45 1 (aJ 24) (sv 146 [(0,.p 0 0),(20,vb b0)]) []
abbrev Wv:List Ob->Task := .at_ 198 0 (aJ 175) (sv 64 [(0,vl b0 l0),(1,vl b1 l1),(4,v0),(5,vl b2 l2),(7,vi i0)]) [(5,1)]
abbrev Ww:List Ob->Task := .at_ 107 0 (aJ 175) (sv 60 [(0,vl b0 l0),(1,vl b1 l1),(7,v0),(8,vl b2 l2),(9,vi i0)]) [(8,1)]
abbrev Sy:List Ob->Task := .at_ 166 0 (aJ 13) (sv 18 [(0,vi i0),(9,vb b0)]) []
abbrev Wx:List Ob->Task := .at_ 150 0 (aJ 131071) (sv 133 [(4,vu i0),(11,vl b0 l0),(13,vl b1 l1)]) [(11,1)]
abbrev Wy:List Ob->Task := .at_ 45 1 (aJ 399316) (sv 146 [(0,.p 0 0),(3,vi i0),(125,vb b0)]) []
abbrev Sz:List Ob->Task := .at_ 145 0 (aJ 121) (sv 31 [(0,v0),(9,vb b0)]) []
abbrev SA:List Ob->Task := .at_ 62 0 (aJ 63) (sv 35 [(3,vs s0)]) []
end
end Go.Dn
namespace Go.Dn
open Go.IntKind (i64 u64 u8 u16 i32 u32)
theorem iZ{n:Int}(h1:-9223372036854775808<=n:=by omega)(h2:n<=9223372036854775807:=by omega):i64.wrap n=n:=wrap_i64 h1 h2
theorem bD{n m:Int}(h1:-9223372036854775808<=n:=by omega)(h2:n<=9223372036854775807:=by omega)(h:n=m:=by first|rfl|omega):i64.wrap n=m:=(wrap_i64 h1 h2).trans h
theorem ca(n:Nat)(h:(n:Int)+1<=9223372036854775807:=by omega):i64.wrap ((n:Int)+1)=((n+1:Nat):Int):=by rw[wrap_i64]<;>omega
end Go.Dn
namespace Go
open Go.IntKind (i64 u64 u8 u16 i32 u32)
theorem cc{α:Type}{a c:Option α}{b:α}(h:a=some b)(k:some b=c:=by kernel_rfl):a=c:=h.trans k
end Go
