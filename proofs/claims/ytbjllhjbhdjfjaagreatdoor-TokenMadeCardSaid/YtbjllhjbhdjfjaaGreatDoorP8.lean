/- the document's answer: Parse. -/
import Derived.Test.YtbjllhjbhdjfjaaGreatDoorP7
import Derived.Test.YtbjllhjbhdjfjaaGreatDoorP6
import Derived.Test.YtbjllhjbhdjfjaaGreatDoorP4
import Derived.KernelRfl
import Derived.Test.YtbjllhjbhdjfjaaGreatDoorP5
set_option linter.unusedVariables false
set_option linter.unusedSimpArgs false
set_option linter.unusedSectionVars false
namespace Go.Dn.Dec
open Go.Proofs
section
variable {f : Task → Option Out}
theorem JK{t:Task}{k j:IntKind}{n m:Int}{b:Bool}{e e' e'':V}{K:Int->Bool->Int->Tr}(h:f t=some (.t [.d (.i k n),.d (.b b),.d (.i j m)],[])):
  aC f (.call t fun o=>aM o.snd.isEmpty (dY o.fst fun l=>aM (l.length==3) (aW (l.getD 0 e) fun d=>bD k d fun x=>aW (l.getD 1 e') fun d'=>dQ d' fun y=>aW (l.getD 2 e'') fun d''=>bD j d'' fun z=>K x y z)))=aC f (K n b m):=by
 rw[cE h]
 show aC f (bD k (.i k n) fun x=>dQ (.b b) fun y=>bD j (.i j m) fun z=>K x y z)=_
 rw[bl,if_pos rfl,nU,bl,if_pos rfl]
end
def oa(v:Nat)(d:List UInt8):Nat:=d.foldl (fun a c=>min (a*10+bS c) 100000) v
theorem BD:∀(d:List UInt8) (v u:Nat),v=min u 100000->oa v d=min (eU u d) 100000
 | [],v,u,h=>h
 |c::d,v,u,h=>BD d (min (v*10+bS c) 100000) (u*10+bS c) (by omega)
def eg(s:List UInt8):Int×Bool×Int:=
 match s with
 | []=>(0,false,0)
 |c::r=>if c≠101/\c≠69 then(0,false,2)
  else if (bM r).2=[] then(0,false,2)
  else if (bM r).2.all aG=true then((if (bM r).1=true then -(oa 0 (bM r).2:Int) else(oa 0 (bM r).2:Int)),decide (400<oa 0 (bM r).2),0)
  else(0,false,2)
def o3(x:Int×Bool×Int):Option Out:=some (.t [.d (.i .i64 x.1),.d (.b x.2.1),.d (.i .i64 x.2.2)],[])
theorem rY(m:Bool):∀(r p:List UInt8) (v:Nat),(p++r).length<=1000000->v<=100000->
  rk Tryz.prog aE (Task.at_ 188 0 [false,true,false,true,true,true,true,true,true,true,true] (sv 75 [(0,V.d (D.s (p++r))),(5,V.d (D.b m)),(6,V.d (D.i .i64 (v:Int))),(7,V.d (D.i .i64 (p.length:Int)))]) [] [])=
   o3 (if r.all aG=true then((if m=true then -(oa v r:Int) else(oa v r:Int)),decide (400<oa v r),0) else(0,false,2))
 | [],p,v,hl,hv=>by
  have hw:IntKind.i64.wrap (0-(v:Int)) = -(v:Int):=by rw[wrap_i64]<;>omega
  have hd:decide ((v:Int)>400)=decide (400<v):=by
   by_cases h:400<v
   ·rw[decide_eq_true h,decide_eq_true (by omega)]
   ·rw[decide_eq_false h,decide_eq_false (by omega)]
  rw[List.append_nil,r6,bc (by omega),if_pos (by rfl)]
  cases m with
  |true=>rw[bk,aD,hw,hd];rfl
  |false=>rw[aY,aD,hd];rfl
 |c::r,p,v,hl,hv=>by
  have hi:p.length<(p++c::r).length:=by simp
  have g:bh (p++c::r) (p.length:Int)=some c:=by rw[bp];simp
  have hpl:(p++[c]).length=p.length+1:=by simp
  have hlen:p.length+(r.length+1)<=1000000:=by simpa using hl
  have bad:aG c=false->o3 (if (c::r).all aG=true then((if m=true then -(oa v (c::r):Int) else(oa v (c::r):Int)),decide (400<oa v (c::r)),0) else(0,false,2))=o3 (0,false,2):=by
   intro h
   rw[List.all_cons,h];rfl
  rw[r6,bf (by omega),aJ g]
  by_cases h1:c.toNat<48
  ·have hd:aG c=false:=by simp[aG];omega
   rw[bf (by omega),aA,ou,bk,aD,bad hd]
   rfl
  ·rw[bc (by omega),aJ g,aA,ou]
   by_cases h2:c.toNat<=57
   ·have hd:aG c=true:=by simp[aG];omega
    have hlt:=kg hd
    rw[show decide ((c.toNat:Int)>57)=false from decide_eq_false (by omega),aY,aJ g,nL hd]
    have w1:IntKind.i64.wrap ((v:Int)*10)=((v*10:Nat):Int):=by rw[wrap_i64]<;>omega
    have w2:IntKind.i64.wrap ((bS c:Nat):Int)=((bS c:Nat):Int):=by rw[wrap_i64]<;>omega
    have w3:IntKind.i64.wrap (((v*10:Nat):Int)+((bS c:Nat):Int))=((v*10+bS c:Nat):Int):=by rw[wrap_i64]<;>omega
    have w4:(if (100000:Int)<((v*10+bS c:Nat):Int)then 100000 else((v*10+bS c:Nat):Int))=((min (v*10+bS c) 100000:Nat):Int):=by split<;>omega
    have w5:IntKind.i64.wrap ((p.length:Int)+1)=(((p++[c]).length:Nat):Int):=by rw[hpl,wrap_i64]<;>omega
    have ih:=rY m r (p++[c]) (min (v*10+bS c) 100000) (by simpa using hl) (by omega)
    rw[List.append_assoc,List.singleton_append]at ih
    rw[w1,w2,w3,w4,w5,aA,ih,List.all_cons,hd]
    rfl
   ·have hd:aG c=false:=by simp[aG];omega
    rw[show decide ((c.toNat:Int)>57)=true from decide_eq_true (by omega),bk,aD,bad hd]
    rfl
theorem Ap(s:List UInt8)(hs:s.length<=1000000):rk Tryz.prog aE (Task.call 188 [V.d (D.s s)] [])=o3 (eg s):=by
  rw[f27]
  cases s with
  |nil=>rw[cm (show (([]:List UInt8).length:Int)=0 from rfl),aD];rfl
  |cons c r=>
    have hl:r.length<=1000000:=by simp at hs;omega
    have g:bh (c::r) 0=some c:=rfl
    have tl:List.take ((c::r).length-1) (List.drop 1 (c::r))=r:=by simp
    have hle:((0:Int)<=1/\(1:Int)<=(((c::r).length:Nat):Int)):=⟨by decide,by rw[List.length_cons];omega⟩
    have hne:(((c::r).length:Nat):Int)≠0:=by rw[List.length_cons];omega
    have main:¬(c≠101/\c≠69)->rk Tryz.prog aE (Task.at_ 188 0 [true,false,true,true] (sv 75 [(0,V.d (D.s (c::r))),(18,V.d (D.b false))]) [] [])=o3 (eg (c::r)):=by
      intro hc
      unfold eg
      simp only[if_neg hc]
      rw[xV,aY,aH hle,tl]
      cases r with
      |nil=>
        rw[bc (by decide),aA,pC,aY,cm (show (([]:List UInt8).length:Int)=0 from rfl),aD]
        rfl
      |cons d q=>
        have g2:bh (d::q) 0=some d:=rfl
        have tl2:List.take ((d::q).length-1) (List.drop 1 (d::q))=q:=by simp
        have hle2:((0:Int)<=1/\(1:Int)<=(((d::q).length:Nat):Int)):=⟨by decide,by rw[List.length_cons];omega⟩
        have hl2:q.length<=1000000:=by simp at hl;omega
        have signed:d=43\/d=45->rk Tryz.prog aE (Task.at_ 188 0 [true,false,true,true,true,true,true] (sv 75 [(0,V.d (D.s (d::q))),(5,V.d (D.b false)),(33,V.d (D.b true))]) [] [])=
            o3 (if (bM (d::q)).2=[] then(0,false,2)
    else if (bM (d::q)).2.all aG=true then((if (bM (d::q)).1=true then -(oa 0 (bM (d::q)).2:Int) else(oa 0 (bM (d::q)).2:Int)),decide (400<oa 0 (bM (d::q)).2),0)
    else(0,false,2)):=by
          intro hd
          have hsg:bM (d::q)=(decide (d=45),q):=by
            rcases hd with rfl|rfl<;>rfl
          rw[hsg,pC,bk,aJ g2,aH hle2,tl2,th]
          by_cases hq:q=[]
          · subst hq
            rw[cm (show (([]:List UInt8).length:Int)=0 from rfl),aD];rfl
          · have hq0:((q.length:Nat):Int)≠0:=by
              have:=List.length_pos_iff.2 hq;omega
            have hL:=rY (decide (d=45)) q [] 0 (by simpa using hl2) (by decide)
            rw[List.nil_append]at hL
            rw[bO hq0,aA,if_neg hq]
            exact hL
        rw[bf (by rw[List.length_cons];omega),aJ g2,Gu]
        by_cases h43:d=43
        · rw [bf h43, aA]
          exact signed (Or.inl h43)
        · rw [bc h43, aJ g2, th, aA]
          by_cases h45:d=45
          · rw [decide_eq_true h45]
            exact signed (Or.inr h45)
          · have hsg : bM (d :: q) = (false, d :: q) := by simp [bM, h43, h45]
            have hL:=rY false (d::q) [] 0 (by simpa using hl) (by decide)
            rw[List.nil_append]at hL
            rw[decide_eq_false h45,hsg,pC,aY,bO (by rw[List.length_cons];omega),aA,if_neg (by simp)]
            exact hL
    rw[bO hne,aJ g,Gt]
    by_cases h1:c=101
    · rw [bc (by simpa using h1), aA]
      exact main (by simp[h1])
    · rw [bf h1, aJ g, IG, aA]
      by_cases h2:c=69
      · rw [decide_eq_false (by simpa using h2)]
        exact main (by simp[h2])
      · rw [decide_eq_true h2, xV, bk, aD]
        simp[eg,h1,h2,o3]
def dv(l:List UInt8):List D:=ints .u8 (l.map fun c=>((bS c:Nat):Int))
theorem kh(l:List UInt8):(dv l).length=l.length:=by simp[dv]
theorem Hd(l:List UInt8)(c:UInt8):dv l++[D.i .u8 ((bS c:Nat):Int)]=dv (l++[c]):=by simp[dv,ints]
def Ce(s:List UInt8)(sg:Nat)(b:Bool)(acc:List UInt8)(pt:Bool)(af:Nat):Task:=
 Task.at_ 150 0 [false,false,true,true,true,true,true] (sv 133 [(0,V.d (D.s s)),(4,V.d (D.i .u64 (sg:Int))),(5,V.d (D.l b (dv acc))),(6,V.d (D.b pt)),(7,V.d (D.i .i64 (af:Int)))]) [(5,1)] []
def IB(s:List UInt8)(sg:Nat)(b:Bool)(acc:List UInt8)(pt:Bool)(af:Nat)(go:Bool):Task:=
 Task.at_ 150 0 [true,false,false,false,false,true,true,true,true,true] (sv 133 [(0,V.d (D.s s)),(4,V.d (D.i .u64 (sg:Int))),(5,V.d (D.l b (dv acc))),(6,V.d (D.b pt)),(7,V.d (D.i .i64 (af:Int))),(55,V.d (D.b go))]) [(5,1)] []
theorem zk(sg:Nat)(b:Bool)(acc:List UInt8)(pt:Bool)(af:Nat):rk Tryz.prog aE (Ce [] sg b acc pt af)=rk Tryz.prog aE (IB [] sg b acc pt af false):=by
 unfold Ce IB
 rw[l5,bc (by decide),aA]
theorem oQ(c:UInt8)(r:List UInt8):List.take ((c::r).length-1) (List.drop 1 (c::r))=r:=by simp
theorem rj(c:UInt8)(r:List UInt8):((0:Int)<=1/\(1:Int)<=(((c::r).length:Nat):Int)):=⟨by decide,by rw[List.length_cons];omega⟩
theorem zj(c:UInt8)(r:List UInt8)(hc:aG c=true)(sg:Nat)(b:Bool)(acc:List UInt8)(pt:Bool)(af:Nat)(ha:acc.length<=1000000)(haf:af<=1000000):
  rk Tryz.prog aE (Ce (c::r) sg b acc pt af)=rk Tryz.prog aE (Ce r sg false (acc++[c]) pt (if pt=true then af+1 else af)):=by
 have h:=(dW c).1 hc
 have g:bh (c::r) 0=some c:=rfl
 have h46:(c.toNat:Int)≠46:=by omega
 have hw:IntKind.i64.wrap ((af:Int)+1)=((af+1:Nat):Int):=by rw[wrap_i64]<;>omega
 have hh:bw 1 (dv acc)=true:=dr _ _
 unfold Ce
 rw[l5,bf (by rw[List.length_cons];omega),aJ g,bf (by omega),aJ g,bf (by omega),aA,nc,bk,aJ g,bO h46,aJ g,hh,ba,Bool.or_true,ba,aH (by rw[kh];omega),nL hc,Hd,Bool.and_false]
 cases pt with
 |true=>rw[bk,hw,aA,nd,aH (rj c r),oQ,aA,if_pos rfl]
 |false=>rw[aY,aA,nd,aH (rj c r),oQ,aA,if_neg (by decide)]
theorem FW(r:List UInt8)(sg:Nat)(b:Bool)(acc:List UInt8)(af:Nat):
  rk Tryz.prog aE (Ce (46::r) sg b acc false af)=rk Tryz.prog aE (Ce r sg b acc true af):=by
 have g:bh ((46:UInt8)::r) 0=some 46:=rfl
 unfold Ce
 rw[l5,bf (by rw[List.length_cons];omega),aJ g,bc (by decide),aJ g,cm (by rfl),aA,nc,iL,aJ g,cm (by rfl),aA,nd,aH (rj 46 r),oQ,aA]
theorem vw(c:UInt8)(r:List UInt8)(hc:aG c=false)(sg:Nat)(b:Bool)(acc:List UInt8)(pt:Bool)(af:Nat)(hp:c=46->pt=true):
  rk Tryz.prog aE (Ce (c::r) sg b acc pt af)=rk Tryz.prog aE (IB (c::r) sg b acc pt af false):=by
 have h:=mt (dW c).2 (by rw[hc];decide)
 have g:bh (c::r) 0=some c:=rfl
 unfold Ce IB
 rw[l5,bf (by rw[List.length_cons];omega),aJ g]
 have fin:aC (rk Tryz.prog aE) (aT ((c.toNat:Int)==46)
   (Tr.call (Task.at_ 150 0 [true,false,false,false,false,true,true,true,true,true] (sv 133 [(0,V.d (D.s (c::r))),(4,V.d (D.i .u64 (sg:Int))),(5,V.d (D.l b (dv acc))),(6,V.d (D.b pt)),(7,V.d (D.i .i64 (af:Int))),(55,V.d (D.b !pt))]) [(5,1)] []) Tr.ret)
   (Tr.call (Task.at_ 150 0 [true,false,false,false,false,true,true,true,true,true] (sv 133 [(0,V.d (D.s (c::r))),(4,V.d (D.i .u64 (sg:Int))),(5,V.d (D.l b (dv acc))),(6,V.d (D.b pt)),(7,V.d (D.i .i64 (af:Int))),(55,V.d (D.b false))]) [(5,1)] []) Tr.ret))=
   rk Tryz.prog aE (Task.at_ 150 0 [true,false,false,false,false,true,true,true,true,true] (sv 133 [(0,V.d (D.s (c::r))),(4,V.d (D.i .u64 (sg:Int))),(5,V.d (D.l b (dv acc))),(6,V.d (D.b pt)),(7,V.d (D.i .i64 (af:Int))),(55,V.d (D.b false))]) [(5,1)] []):=by
  rw[IF]
  by_cases hd:c=46
  ·rw[bf hd,aA,hp hd];rfl
  ·rw[bc hd,aA]
 by_cases h1:c.toNat<48
 ·rw[bc (by omega),aJ g];exact fin
 ·rw[bf (by omega),aJ g,bc (by omega),aJ g];exact fin
theorem sW(sg:Nat):∀(r:List UInt8) (b:Bool) (acc:List UInt8) (af:Nat),acc.length+r.length<=4000->af+r.length<=4000->
  ∃b',rk Tryz.prog aE (Ce r sg b acc true af)=rk Tryz.prog aE (IB (r.dropWhile aG) sg b' (acc++r.takeWhile aG) true (af+(r.takeWhile aG).length) false)
 | [],b,acc,af,_,_=>⟨b,by rw[zk];simp⟩
 |c::r,b,acc,af,h1,h2=>by
  rw[List.length_cons]at h1 h2
  by_cases hc:aG c=true
  ·obtain⟨b',hb⟩:=sW sg r false (acc++[c]) (af+1) (by simp;omega) (by omega)
   refine⟨b',?_⟩
   rw[zj c r hc sg b acc true af (by omega) (by omega),if_pos rfl,hb,List.dropWhile_cons,List.takeWhile_cons,hc,if_pos rfl,if_pos rfl,List.append_assoc,List.singleton_append,List.length_cons,show af+1+(r.takeWhile aG).length=af+((r.takeWhile aG).length+1) by omega]
  ·have hc':aG c=false:=by simpa using hc
   refine⟨b,?_⟩
   rw[vw c r hc' sg b acc true af (fun _=>rfl),List.dropWhile_cons,List.takeWhile_cons,hc',if_neg (by decide),if_neg (by decide),List.append_nil];rfl
def dN(s:List UInt8):List UInt8×List UInt8×Bool×List UInt8:=
 match s.dropWhile aG with
 | []=>([],s.takeWhile aG,false,[])
 |c::r=>if c=46 then(r.dropWhile aG,s.takeWhile aG,true,r.takeWhile aG) else(c::r,s.takeWhile aG,false,[])
theorem zi(sg:Nat):∀(r:List UInt8) (b:Bool) (acc:List UInt8),acc.length+r.length<=4000->
  ∃b',rk Tryz.prog aE (Ce r sg b acc false 0)=rk Tryz.prog aE (IB (dN r).1 sg b' (acc++(dN r).2.1++(dN r).2.2.2) (dN r).2.2.1 (dN r).2.2.2.length false)
 | [],b,acc,_=>⟨b,by rw[zk];simp[dN]⟩
 |c::r,b,acc,h1=>by
  rw[List.length_cons]at h1
  by_cases hc:aG c=true
  ·obtain⟨b',hb⟩:=zi sg r false (acc++[c]) (by simp;omega)
   refine⟨b',?_⟩
   have e:dN (c::r)=((dN r).1,c::(dN r).2.1,(dN r).2.2.1,(dN r).2.2.2):=by
    unfold dN
    rw[List.dropWhile_cons,List.takeWhile_cons,hc,if_pos rfl,if_pos rfl]
    split
    ·rfl
    ·split<;>rfl
   rw[zj c r hc sg b acc false 0 (by omega) (by omega),if_neg (by decide),hb,e]
   simp
  ·have hc':aG c=false:=by simpa using hc
   by_cases hd:c=46
   ·subst hd
    obtain⟨b',hb⟩:=sW sg r b acc 0 (by omega) (by omega)
    refine⟨b',?_⟩
    have e:dN (46::r)=(r.dropWhile aG,[],true,r.takeWhile aG):=by
     unfold dN
     rw[List.dropWhile_cons,List.takeWhile_cons,hc',if_neg (by decide),if_neg (by decide)]
     simp
    rw[FW,hb,e]
    simp
   ·refine⟨b,?_⟩
    have e:dN (c::r)=(c::r,[],false,[]):=by
     unfold dN
     rw[List.dropWhile_cons,List.takeWhile_cons,hc',if_neg (by decide),if_neg (by decide)]
     simp[hd]
    rw[vw c r hc' sg b acc false 0 (fun h=>absurd h hd),e]
    simp
def J9(sg:Nat)(b:Bool)(ds:List UInt8)(af:Nat)(ex:Int)(bx:Bool)(x i:Nat)(fl:List (Nat×Nat)):Task:=
 Task.at_ 150 0 [false,true,false,true,true,true,true,true,true,true,true,true,true,true,true] (sv 133 [(4,V.d (D.i .u64 (sg:Int))),(5,V.d (D.l b (dv ds))),(7,V.d (D.i .i64 (af:Int))),(8,V.d (D.i .i64 ex)),(11,V.d (D.l bx (ws x))),(12,V.d (D.i .i64 (i:Int)))]) fl []
def Ci(neg:Bool):Nat:=if neg=true then 9223372036854775808 else 0
def yM(neg:Bool)(x:Nat)(m:Int):Nat×Int:=
 if (dy (gf m x).1 (gf m x).2).2=false then(0,5) else(qD neg (dy (gf m x).1 (gf m x).2).1,0)
def o2(x:Nat×Int):Option Out:=some (.t [.d (.i .u64 (x.1:Nat)),.d (.i .i64 x.2)],[])
theorem KJ(neg:Bool){v:Nat}(h:v<2^63):IntKind.u64.wrap (((BitVec.ofInt IntKind.u64.bits ((Ci neg:Nat):Int) ||| BitVec.ofInt IntKind.u64.bits (v:Int)).toNat:Nat):Int)=((qD neg v:Nat):Int):=by
 cases neg with
 |true=>
  have:=(Cj h).1
  rw[show (BitVec.ofInt IntKind.u64.bits ((Ci true:Nat):Int) ||| BitVec.ofInt IntKind.u64.bits (v:Int))=(BitVec.ofInt IntKind.u64.bits (v:Int) ||| BitVec.ofInt IntKind.u64.bits 9223372036854775808)from BitVec.or_comm ..]
  exact this
 |false=>
  have:=jv (a:=0) (b:=v) (by decide) (by omega)
  rw[Nat.zero_or]at this
  have e:(BitVec.ofInt IntKind.u64.bits ((Ci false:Nat):Int) ||| BitVec.ofInt IntKind.u64.bits (v:Int)).toNat=v:=this
  rw[e,aO]
  show (v:Int)%_=(v:Int)
  omega
theorem Jk(neg:Bool)(b c:Bool)(p q:Nat)(hp:nO p)(hq:nO q)(hq0:0<q)(fl:List (Nat×Nat))(hfl:fl=[]\/fl=[(11,1)]):
  rk Tryz.prog aE (Task.at_ 150 0 [true,true,true,true,true,true,true,true,true,true,true,true,true,true,true,true] (sv 133 [(4,V.d (D.i .u64 ((Ci neg:Nat):Int))),(11,V.d (D.l b (ws p))),(13,V.d (D.l c (ws q)))]) fl [])=
   o2 (if (dy p q).2=false then(0,5) else(qD neg (dy p q).1,0)):=by
 have h:=DG b c p q hp hq hq0
 have hlt:=xx p q hq0
 have hor:=KJ neg hlt
 rcases hfl with rfl|rfl
 ·rw[vZ,vC h,hor]
  cases (dy p q).2 with
  |true=>rw[jP,aD];rfl
  |false=>rw[iL,aD];rfl
 ·rw[rZ,vC h,hor]
  cases (dy p q).2 with
  |true=>rw[jP,aD];rfl
  |false=>rw[iL,aD];rfl
theorem FT(neg:Bool)(b:Bool)(ds:List UInt8)(af:Nat)(ex:Int)(bx:Bool)(x i:Nat)(fl:List (Nat×Nat))(hfl:fl=[(11,1),(5,1)]\/fl=[(5,1)])(hi:i=ds.length)(hx:x<10^60)(hm1:-500<=ex-af)(hm2:ex-af<=500)(haf:af<=1000):
  rk Tryz.prog aE (J9 (Ci neg) b ds af ex bx x i fl)=o2 (yM neg x (ex-af)):=by
 have hmx:nO x:=eT (Nat.lt_trans hx (dF (n:=60) (by decide)))
 have w1:IntKind.i64.wrap (ex-(af:Int))=ex-(af:Int):=by rw[wrap_i64]<;>omega
 unfold yM
 rw[Ca]
 obtain⟨m,hm⟩:∃m:Int,m=ex-(af:Int):=⟨_,rfl⟩
 rw[<-hm]at hm1 hm2 w1⊢
 have m1:nO (x*10^m.toNat):=by
  have:=(yT (m:=m) hx hm1 hm2).1
  rw[Ca]at this;exact this
 have m2:nO (10^(-m).toNat):=eT (dF (by omega))
 have p2:0<10^(-m).toNat:=Nat.pow_pos (by decide)
 have fin:∀X:Option Out,(∀(b1 b2:Bool) (fl':List (Nat×Nat)),fl'=[]\/fl'=[(11,1)]->rk Tryz.prog aE (Task.at_ 150 0 [true,true,true,true,true,true,true,true,true,true,true,true,true,true,true,true] (sv 133 [(4,V.d (D.i .u64 ((Ci neg:Nat):Int))),(11,V.d (D.l b1 (ws (x*10^m.toNat)))),(13,V.d (D.l b2 (ws (10^(-m).toNat))))]) fl' [])=X)->rk Tryz.prog aE (J9 (Ci neg) b ds af ex bx x i fl)=X:=by
  intro X hX
  unfold J9
  by_cases h:m ≥ 0
  ·have ht:=mg m.toNat (by omega)
   rw[show ((m.toNat:Nat):Int)=m by omega]at ht
   have hmul:=kG bx (tb m.toNat) x (10^m.toNat) hmx.fits (eT (dF (by omega))).fits
   have h1:=hX (nb (x*10^m.toNat)) true [] (Or.inl rfl)
   rw[show (-m).toNat=0 by omega,Nat.pow_zero,xe]at h1
   rcases hfl with rfl|rfl
   ·rw[ll,kh,bc (by omega),<-hm,w1,bf h,di ht,di hmul,aA]
    exact h1
   ·rw[ju,kh,bc (by omega),<-hm,w1,bf h,di ht,di hmul,aA]
    exact h1
  ·have ht:=mg (-m).toNat (by omega)
   have w2:IntKind.i64.wrap (0-m)=(((-m).toNat:Nat):Int):=by rw[wrap_i64]<;>omega
   have h1:=hX bx (tb (-m).toNat) [(11,1)] (Or.inr rfl)
   have h2:=hX bx (tb (-m).toNat) [] (Or.inl rfl)
   rw[show m.toNat=0 by omega,Nat.pow_zero,Nat.mul_one]at h1 h2
   rcases hfl with rfl|rfl
   ·rw[ll,kh,bc (by omega),<-hm,w1,bc h,w2,di ht,aA]
    exact h1
   ·rw[ju,kh,bc (by omega),<-hm,w1,bc h,w2,di ht,aA]
    exact h2
 exact fin _ fun b1 b2 fl' hfl'=>Jk neg b1 b2 _ _ m1 m2 p2 fl' hfl'
theorem BW(neg:Bool)(b:Bool)(ds:List UInt8)(hds:∀c∈ds,aG c=true)(hdl:ds.length<=60)(af:Nat)(ex:Int)(hm1:-500<=ex-af)(hm2:ex-af<=500)(haf:af<=1000):∀(d i:Nat) (bx:Bool) (fl:List (Nat×Nat)),i+d=ds.length->(fl=[(11,1),(5,1)]\/fl=[(5,1)])->
  rk Tryz.prog aE (J9 (Ci neg) b ds af ex bx (cy (ds.take i)) i fl)=o2 (yM neg (cy ds) (ex-af))
 |0,i,bx,fl,hi,hfl=>by
  have h1:ds.take i=ds:=List.take_of_length_le (by omega)
  rw[h1]
  exact FT neg b ds af ex bx (cy ds) i fl hfl (by omega) (Nat.lt_of_lt_of_le (wF ds hds) (Nat.pow_le_pow_right (by decide) hdl)) hm1 hm2 haf
 |d+1,i,bx,fl,hi,hfl=>by
  have hil:i<ds.length:=by omega
  have hc:aG ds[i]=true:=hds _ (List.getElem_mem hil)
  have hlt:=kg hc
  have hx:cy (ds.take i)<10^60:=Nat.lt_of_lt_of_le (wF _ fun c h=>hds c (List.mem_of_mem_take h)) (Nat.pow_le_pow_right (by decide) (by rw[List.length_take];omega))
  have hstep:cy (ds.take (i+1))=cy (ds.take i)*10+bS ds[i]:=by
   rw[List.take_add_one,List.getElem?_eq_getElem hil,Option.toList_some,yC]
   have h1:cy [ds[i]]=0*10+bS ds[i]:=rfl
   rw[h1,Nat.zero_mul,Nat.zero_add];rfl
  have ih:=BW neg b ds hds hdl af ex hm1 hm2 haf d (i+1) (nb (cy (ds.take (i+1)))) [(5,1)] (by omega) (Or.inr rfl)
  have hgd:(dv ds)[i]?=some (D.i .u8 ((bS ds[i]:Nat):Int)):=by
   unfold dv
   rw[dC,List.getElem?_map,List.getElem?_eq_getElem hil];rfl
  have hgI:bh (dv ds) (i:Int)=some (D.i .u8 ((bS ds[i]:Nat):Int)):=by rw[bp,hgd]
  have fx:∀k,k<10^61->Fits k:=fun k hk=>(eT (Nat.lt_trans hk (dF (n:=61) (by decide)))).fits
  have hm:rk Tryz.prog aE (Task.call 105 [V.d (D.l bx (ws (cy (ds.take i)))),V.d (D.l true [D.i IntKind.u32 10])] [])=some (.d (.l (nb (cy (ds.take i)*10)) (ws (cy (ds.take i)*10))),[]):=by
   have:=kG bx true (cy (ds.take i)) 10 (fx _ (by omega)) (fx _ (by omega))
   rw[show ws 10=[D.i IntKind.u32 10] by rw[ws,dA (by decide),show 10 / W=0 by decide,bF];rfl]at this
   exact this
  have hw:IntKind.u64.wrap ((bS ds[i]:Nat):Int)=((bS ds[i]:Nat):Int):=by rw[aO];omega
  have ho:=sQ (bS ds[i]) (by omega)
  have ha:=kE (nb (cy (ds.take i)*10)) (nb (bS ds[i])) (cy (ds.take i)*10) (bS ds[i]) (fx _ (by omega)) (fx _ (by omega))
  have hw2:IntKind.i64.wrap ((i:Int)+1)=((i+1:Nat):Int):=by rw[wrap_i64]<;>omega
  rw[<-hstep]at ha
  rw[<-ih]
  unfold J9
  rcases hfl with rfl|rfl
  ·rw[ll,kh,bf (by omega),di hm,aJ hgI,j0,ba,Int.toNat_natCast,aJ hgd,aJ (jz _ _),bL,hw,di ho,di ha,hw2,aA]
  ·rw[ju,kh,bf (by omega),di hm,aJ hgI,j0,ba,Int.toNat_natCast,aJ hgd,aJ (jz _ _),bL,hw,di ho,di ha,hw2,aA]
end Go.Dn.Dec
namespace Go.Dn.Dec
open Go.Proofs
set_option exponentiation.threshold 5000000
theorem GQ{a b:List UInt8}(ha:∀c∈a,aG c=true)(hb:∀c∈b,aG c=true):∀c∈a++b,aG c=true:=fun c hc=>(List.mem_append.1 hc).elim (ha c) (hb c)
def HS(s:List UInt8):Nat×Int:=
 let n:=(bM s).1
 let q:=dN (bM s).2
 if q.2.1++q.2.2.2=[]\/(q.2.2.1=true/\q.2.2.2=[]) then(0,2)
 else if (eg q.1).2.2≠0 then(0,(eg q.1).2.2)
 else if 60<(q.2.1++q.2.2.2).length then(0,4)
 else if (eg q.1).2.1=true then(0,5)
 else yM n (cy (q.2.1++q.2.2.2)) ((eg q.1).1-(q.2.2.2.length:Int))
theorem Hf(s:List UInt8)(h:(eg s).2.1=false):-400<=(eg s).1/\(eg s).1<=400:=by
 unfold eg at h⊢
 split
 ·exact⟨by decide,by decide⟩
 ·rename_i c r
  simp only at h⊢
  split
  ·exact⟨by decide,by decide⟩
  ·rename_i h1
   rw[if_neg h1]at h
   split
   ·exact⟨by decide,by decide⟩
   ·rename_i h2
    rw[if_neg h2]at h
    split
    ·rename_i h3
     rw[if_pos h3]at h
     have:=of_decide_eq_false h
     simp only
     split<;>omega
    ·exact⟨by decide,by decide⟩
theorem DK(s:List UInt8):(∀c∈(dN s).2.1++(dN s).2.2.2,aG c=true)/\(dN s).1.length<=s.length/\(dN s).2.2.2.length<=s.length/\((dN s).2.1++(dN s).2.2.2).length<=s.length:=by
 have h1:=jT s
 have hl:(s.takeWhile aG).length+(s.dropWhile aG).length=s.length:=by
  have:=congrArg List.length (List.takeWhile_append_dropWhile (p:=aG) (l:=s))
  rwa[List.length_append]at this
 unfold dN
 split
 ·rename_i e
  rw[e]at hl
  refine⟨by simpa using h1,by simp,by simp,by simp only[List.append_nil];simp at hl;omega⟩
 ·rename_i c r e
  rw[e,List.length_cons]at hl
  have hr:(r.takeWhile aG).length+(r.dropWhile aG).length=r.length:=by
   have:=congrArg List.length (List.takeWhile_append_dropWhile (p:=aG) (l:=r))
   rwa[List.length_append]at this
  split
  ·exact⟨GQ h1 (jT r),by simp only;omega,by simp only;omega,by simp only[List.length_append];omega⟩
  ·refine⟨by simpa using h1,by simp only[List.length_cons];omega,by simp,by simp only[List.append_nil];omega⟩
theorem FN(neg:Bool)(t:List UInt8)(b:Bool)(ds:List UInt8)(hds:∀c∈ds,aG c=true)(pt:Bool)(af:Nat)(ht:t.length<=4000)(haf:af<=ds.length)(hdl:ds.length<=4000):
  rk Tryz.prog aE (IB t (Ci neg) b ds pt af false)=o2 (if ds=[]\/(pt=true/\af=0) then(0,2)
   else if (eg t).2.2≠0 then(0,(eg t).2.2)else if 60<ds.length then(0,4)else if (eg t).2.1=true then(0,5)else yM neg (cy ds) ((eg t).1-(af:Int))):=by
 have he:=Ap t (by omega)
 have rest:∀bad:Bool,rk Tryz.prog aE (Task.at_ 150 0 [true,false,true,true,true,true,true,true]
   (sv 133 [(0,V.d (D.s t)),(4,V.d (D.i .u64 ((Ci neg:Nat):Int))),(5,V.d (D.l b (dv ds))),(7,V.d (D.i .i64 (af:Int))),(79,V.d (D.b bad))]) [(5,1)] [])=
   o2 (if bad=true then(0,2)else if (eg t).2.2≠0 then(0,(eg t).2.2)else if 60<ds.length then(0,4)else if (eg t).2.1=true then(0,5)else yM neg (cy ds) ((eg t).1-(af:Int))):=by
  intro bad
  rw[CS]
  cases bad with
  |true=>rw[bk,aD,if_pos rfl];rfl
  |false=>
   rw[aY,JK he,if_neg (by decide)]
   by_cases h1:(eg t).2.2≠0
   ·rw[jl h1,aD,if_pos h1];rfl
   ·have h1':(eg t).2.2=0:=by omega
    rw[eM h1',if_neg h1,kh]
    by_cases h2:60<ds.length
    ·rw[bf (by omega),aD,if_pos h2];rfl
    ·rw[bc (by omega),if_neg h2]
     cases h3:(eg t).2.1 with
     |true=>rw[bk,aD,if_pos rfl];rfl
     |false=>
      have hle:=Hf t h3
      have hN:=BW neg b ds hds (by omega) af (eg t).1 (by omega) (by omega) (by omega) ds.length 0 true [(11,1),(5,1)] (by omega) (Or.inl rfl)
      rw[List.take_zero,show cy []=0 from rfl]at hN
      unfold J9 at hN
      rw[o9,Int.natCast_zero]at hN
      rw[aY,aA,if_neg (by decide)]
      exact hN
 unfold IB
 rw[nc,aY,kh]
 by_cases h0:ds=[]
 ·have hl0:((ds.length:Nat):Int)=0:=by rw[h0];rfl
  rw[cm hl0,aA,rest true,if_pos rfl,if_pos (Or.inl h0)]
 ·have hl0:((ds.length:Nat):Int)≠0:=by
   have:=List.length_pos_iff.2 h0;omega
  rw[bO hl0]
  cases pt with
  |false=>rw[aY,aA,rest false,if_neg (show ¬(false=true) by decide),if_neg (show ¬(ds=[]\/(false=true/\af=0)) by simp[h0])]
  |true=>
   rw[bk,aA,rest _]
   by_cases ha:af=0
   ·rw[if_pos (by rw[beq_iff_eq];omega),if_pos (Or.inr ⟨rfl,ha⟩)]
   ·have hn:¬(ds=[]\/(true=true/\af=0)):=by
     rintro(h|⟨-,h⟩)
     ·exact h0 h
     ·exact ha h
    rw[if_neg (show ¬(((af:Int)==0)=true) by rw[beq_iff_eq];omega),if_neg hn]
theorem A4(s:List UInt8)(hs:s.length<=2000):rk Tryz.prog aE (Task.call 150 [V.d (D.s s)] [])=o2 (HS s):=by
 have main:∀(neg:Bool) (u:List UInt8),u.length<=2000->rk Tryz.prog aE (Ce u (Ci neg) true [] false 0)=o2 (
   let q:=dN u
   if q.2.1++q.2.2.2=[]\/(q.2.2.1=true/\q.2.2.2=[]) then(0,2)
   else if (eg q.1).2.2≠0 then(0,(eg q.1).2.2)
   else if 60<(q.2.1++q.2.2.2).length then(0,4)
   else if (eg q.1).2.1=true then(0,5)
   else yM neg (cy (q.2.1++q.2.2.2)) ((eg q.1).1-(q.2.2.2.length:Int))):=by
  intro neg u hu
  obtain⟨b',hb⟩:=zi (Ci neg) u true [] (by simp;omega)
  obtain⟨s1,s2,s3,s4⟩:=DK u
  rw[hb,List.nil_append,FN neg _ b' _ s1 _ _ (by omega) (by rw[List.length_append];omega) (by omega)]
  have e:((dN u).2.2.2.length=0)=((dN u).2.2.2=[]):=propext List.length_eq_zero_iff
  simp only[e]
 have sgn:∀(neg:Bool) (c:UInt8) (r:List UInt8),(c::r).length<=2000->rk Tryz.prog aE (Task.at_ 150 0 [true,false,true,false,true,true] (sv 133 [(0,V.d (D.s (c::r))),(4,V.d (D.i .u64 ((Ci neg:Nat):Int)))]) [] [])=rk Tryz.prog aE (Ce r (Ci neg) true [] false 0):=by
  intro neg c r h
  rw[CR,aH (rj c r),oQ,aA];rfl
 rw[f14]
 unfold HS
 cases s with
 |nil=>
  rw[bc (by decide),aA,r4,aY,aA]
  exact main false [] (by decide)
 |cons c r=>
  have g:bh (c::r) 0=some c:=rfl
  have hr:r.length<=2000:=by simp at hs;omega
  rw[bf (by rw[List.length_cons];omega),aJ g,Gu]
  by_cases h43:c=43
  ·rw[bf h43,aA,r4,bk,aJ g,th,bc (by rw[h43];decide),aA]
   have e:bM (c::r)=(false,r):=by rw[h43];rfl
   have:=sgn false c r hs
   rw[main false r hr]at this
   rw[e]
   exact this
  ·rw[bc h43,aJ g,th,aA,r4]
   by_cases h45:c=45
   ·rw[decide_eq_true h45,bk,aJ g,th,bf h45,aA]
    have e:bM (c::r)=(true,r):=by rw[h45];rfl
    have:=sgn true c r hs
    rw[main true r hr]at this
    rw[e]
    exact this
   ·rw[decide_eq_false h45,aY,aA]
    have e:bM (c::r)=(false,c::r):=by simp[bM,h43,h45]
    rw[e]
    exact main false (c::r) hs
theorem BU:∀(d:List UInt8) (v:Nat),v*10^d.length<=eU v d:=by
 intro d v
 rw[wG];exact Nat.le_add_right _ _
theorem GV(t:Tx)(hd:∀c∈t.ex,aG c=true):kC t=(if 400<cy t.ex then((kC t).1,false) else((if t.en=true then -(cy t.ex:Int) else(cy t.ex:Int)),true)):=by
 have hz:=iG t.ex
 have hdd:∀c∈t.ex.dropWhile (· == 48),aG c=true:=fun c h=>hd c ((List.dropWhile_sublist _).subset h)
 by_cases h3:3<(t.ex.dropWhile (· == 48)).length
 ·-- four digits,the first not nought
  have hbig:400<cy t.ex:=by
   rw[<-hz]
   cases he:t.ex.dropWhile (· == 48) with
   |nil=>rw[he]at h3;simp at h3
   |cons c r=>
    have hc48:¬(c==48)=true:=by
     have:=List.head?_dropWhile_not (fun x:UInt8=>x==48) t.ex
     rw[he]at this
     simpa using this
    have hc:=hdd c (by rw[he];simp)
    have h1:1<=bS c:=by
     have h48:c≠48:=fun e=>hc48 (by rw[e];rfl)
     have hn:c.toNat≠48:=fun e=>h48 (UInt8.toNat_inj.1 e)
     have:=(dW c).1 hc
     unfold bS;omega
    rw[he,List.length_cons]at h3
    have h2:=BU r (0*10+bS c)
    have h4:10^3<=10^r.length:=Nat.pow_le_pow_right (by decide) (by omega)
    have h5:1*10^r.length<=(0*10+bS c)*10^r.length:=Nat.mul_le_mul_right _ (by omega)
    show 400<eU (0*10+bS c) r
    omega
  rw[if_pos hbig]
  have e:(kC t).2=false:=by unfold kC;rw[if_pos h3]
  exact Prod.ext rfl e
 ·unfold kC
  rw[if_neg h3]
  simp only[hz]
  by_cases hb:400<cy t.ex
  ·rw[if_pos hb]
   refine Prod.ext rfl ?_
   simp only
   cases t.en
   ·simp;omega
   ·simp;omega
  ·rw[if_neg hb]
   refine Prod.ext rfl ?_
   simp only
   cases t.en
   ·simp;omega
   ·simp;omega
theorem Eh{d:List UInt8}(h:d.all aG=true):d.takeWhile aG=d/\d.dropWhile aG=[]:=by
 rw[List.all_eq_true]at h
 have h1:=KO d [] h rfl
 have h2:=Km d [] h rfl
 rw[List.append_nil]at h1 h2
 exact⟨h1,h2⟩
theorem EK{d:List UInt8}(h:d.dropWhile aG=[]):d.all aG=true:=by
 have h1:d.takeWhile aG++d.dropWhile aG=d:=List.takeWhile_append_dropWhile
 rw[h,List.append_nil]at h1
 rw[<-h1,List.all_eq_true]
 exact jT d
theorem Hg(n:Bool)(w p t:List UInt8)(h:¬(w=[]/\p=[])):
  ((fG n w p t).2=false/\(eg t).2.2=2) ∨
  ((fG n w p t).2=true/\(eg t).2.2=0/\(((eg t).2.1=true/\(kC (fG n w p t).1).2=false)\/((eg t).2.1=false/\kC (fG n w p t).1=((eg t).1,true)))):=by
 unfold fG
 rw[if_neg h]
 cases t with
 |nil=>exact Or.inr ⟨rfl,rfl,Or.inr ⟨rfl,rfl⟩⟩
 |cons c r=>
  by_cases h1:c≠101/\c≠69
  ·simp only[eg,if_pos h1]
   exact Or.inl ⟨by trivial,by trivial⟩
  ·simp only[eg,if_neg h1]
   by_cases h2:(bM r).2=[]
   ·rw[if_pos h2,h2]
    exact Or.inl ⟨rfl,rfl⟩
   ·rw[if_neg h2]
    by_cases h3:(bM r).2.all aG=true
    ·obtain⟨e1,e2⟩:=Eh h3
     rw[if_pos h3,e1,e2]
     refine Or.inr ⟨by simp[h2],rfl,?_⟩
     rw[List.all_eq_true]at h3
     have hb:=GV ⟨n,w,p,(bM r).1,(bM r).2⟩ h3
     have hcap:oa 0 (bM r).2=min (cy (bM r).2) 100000:=BD _ 0 0 rfl
     simp only at hb⊢
     rw[hcap]
     by_cases hbig:400<cy (bM r).2
     ·rw[if_pos hbig]at hb
      refine Or.inl ⟨decide_eq_true (by omega),?_⟩
      rw[hb]
     ·rw[if_neg hbig]at hb
      refine Or.inr ⟨decide_eq_false (by omega),?_⟩
      rw[hb,show min (cy (bM r).2) 100000=cy (bM r).2 by omega]
    ·rw[if_neg h3]
     refine Or.inl ⟨?_,rfl⟩
     have:(bM r).2.dropWhile aG≠[]:=fun e=>h3 (EK e)
     simp[this]
theorem HT(s:List UInt8):HS s=dc s:=by
 have key:∀(n:Bool) (w p t:List UInt8),¬(w=[]/\p=[])->
   (if (eg t).2.2≠0 then(0,(eg t).2.2)else if 60<(w++p).length then(0,4)else if (eg t).2.1=true then(0,5)else yM n (cy (w++p)) ((eg t).1-(p.length:Int)))=
   (if (fG n w p t).2=false then(0,2)
    else if 60<(fG n w p t).1.whole.length+(fG n w p t).1.part.length then(0,4)
    else if (kC (fG n w p t).1).2=false then(0,5)
    else
     let r:=gf ((kC (fG n w p t).1).1-(fG n w p t).1.part.length) (cy ((fG n w p t).1.whole++(fG n w p t).1.part))
     if (dy r.1 r.2).2=false then(0,5) else(qD (fG n w p t).1.neg (dy r.1 r.2).1,0)):=by
  intro n w p t h
  obtain⟨f1,f2⟩:=iE n w p t
  have f3:(fG n w p t).1.neg=n:=by
   unfold fG
   split
   ·rfl
   ·split
    ·rfl
    ·split<;>rfl
  rw[f1,f2,f3,List.length_append]
  rcases Hg n w p t h with⟨h1,h2⟩|⟨h1,h2,h3⟩
  ·rw[if_pos h1,h2];rfl
  ·rw[h1,h2,if_neg (show ¬((0:Int)≠0) by decide),if_neg (show ¬(true=false) by decide)]
   by_cases h60:60<w.length+p.length
   ·rw[if_pos h60,if_pos h60]
   ·rw[if_neg h60,if_neg h60]
    rcases h3 with⟨h3,h4⟩|⟨h3,h4⟩
    ·rw[if_pos h3,if_pos h4]
    ·rw[h3,h4,if_neg (show ¬(false=true) by decide),if_neg (show ¬(true=false) by decide)]
     rfl
 have none_:∀(n:Bool) (t:List UInt8),(fG n [] [] t).2=false:=fun n t=>by unfold fG;rw[if_pos ⟨rfl,rfl⟩]
 unfold HS dc splitB
 simp only
 generalize (bM s).1=n
 generalize (bM s).2=u
 unfold dN
 cases hd:u.dropWhile aG with
 |nil=>
  simp only[List.append_nil,Bool.false_eq_true,false_and,or_false]
  by_cases hw:u.takeWhile aG=[]
  ·rw[if_pos hw,hw,if_pos (none_ n [])]
  ·rw[if_neg hw]
   have:=key n (u.takeWhile aG) [] [] (fun h=>hw h.1)
   rw[List.append_nil]at this
   exact this
 |cons c r=>
  by_cases h46:c=46
  ·simp only[if_pos h46]
   by_cases hp:r.takeWhile aG=[]
   ·rw[if_pos (Or.inr ⟨trivial,hp⟩),if_pos hp]
    rfl
   ·have hne:¬(u.takeWhile aG=[]/\r.takeWhile aG=[]):=fun h=>hp h.2
    rw[if_neg (by rintro(h|⟨-,h⟩);exact hne ⟨(List.append_eq_nil_iff.1 h).1,(List.append_eq_nil_iff.1 h).2⟩;exact hp h),if_neg hp]
    exact key n (u.takeWhile aG) (r.takeWhile aG) (r.dropWhile aG) hne
  ·simp only[if_neg h46,List.append_nil,Bool.false_eq_true,false_and,or_false]
   by_cases hw:u.takeWhile aG=[]
   ·rw[if_pos hw,hw,if_pos (none_ n (c::r))]
   ·rw[if_neg hw]
    have:=key n (u.takeWhile aG) [] (c::r) (fun h=>hw h.1)
    rw[List.append_nil]at this
    exact this
end Go.Dn.Dec
namespace Go.Dn.Dec
open Go.Proofs
set_option exponentiation.threshold 5000000
theorem BE(x y:Nat):decide (ef x y ≥ 0) = !decide (x<y):=by
 unfold ef
 by_cases h:x<y
 ·simp[h]
 ·by_cases h2:y<x<;>simp[h,h2]
theorem xr(b c:Bool)(x y:Nat)(hx:qP x)(hy:qP y)(n:Int)(h1:-700<=n)(h2:n<=700):
  rk Tryz.prog aE (Task.call 104 [V.d (D.l b (ws x)),V.d (D.l c (ws y)),V.d (D.i .i64 n)] [])=some (.d (.b (!cS x y n)),[]):=by
 rw[f42]
 unfold cS
 by_cases h:n<0
 ·have hw:IntKind.i64.wrap (0-n)=((-n).toNat:Int):=by rw[wrap_i64]<;>omega
  have ht:=mg (-n).toNat (by omega)
  have hm:=kG b (tb (-n).toNat) x (10^(-n).toNat) hx.iX.fits (eT (dF (by omega))).fits
  have hc:=oL (nb (x*10^(-n).toNat)) c (x*10^(-n).toNat) y (hx.mul (by omega)).fits hy.iX.fits
  rw[bc (by omega),hw,di ht,di hm,de hc,aD,BE,if_pos h]
 ·have hw:n=(n.toNat:Int):=by omega
  have ht:=mg n.toNat (by omega)
  rw[<-hw]at ht
  have hm:=kG c (tb n.toNat) y (10^n.toNat) hy.iX.fits (eT (dF (by omega))).fits
  have hc:=oL b (nb (y*10^n.toNat)) x (y*10^n.toNat) hx.iX.fits (hy.mul (by omega)).fits
  rw[bf (by omega),di ht,di hm,de hc,aD,BE,if_neg h]
theorem rD{x y:Nat}{n m:Int}(h:n<=m)(hb:cS x y n=true):cS x y m=true:=by
 rw[lf x y m n (m-n).toNat (by omega)]
 rw[tP]at hb
 have h1:=of_decide_eq_true hb
 exact decide_eq_true (Nat.lt_of_lt_of_le h1 (Nat.le_mul_of_pos_right _ (Nat.pow_pos (by decide))))
theorem DQ(x y:Nat)(hx0:0<x)(hx:qP x)(hy:qP y):cS x y ((((bd x:Int)-bd y)*30103).tdiv 100000-2)=false:=by
 have lx:=hx.bd
 have ly:=hy.bd
 have bx:=lV x (by omega)
 have by_:=ku y
 have px:=iA (n:=x) (by omega)
 rcases Int.le_total 0 ((bd x:Int)-bd y)with h|h
 ·obtain⟨d,hd⟩:∃d:Nat,(bd x:Int)-bd y=d:=⟨((bd x:Int)-bd y).toNat,by omega⟩
  rw[hd]
  have e:((d:Int)*30103).tdiv 100000=((d*30103 / 100000:Nat):Int):=dH (d*30103) 100000
  have hc:=List.all_eq_true.1 Eu d (List.mem_range.2 (by omega))
  rw[decide_eq_true_eq]at hc
  rw[e]
  generalize d*30103 / 100000=t at hc
  have e2:2^bd y*2^d=2*2^(bd x-1):=by rw[<-Nat.pow_add,Nat.mul_comm 2,<-Nat.pow_succ];congr 1;omega
  have h3:y*2^d<2*x:=by
   have:=Nat.mul_lt_mul_of_pos_right by_ (show 0<2^d from Nat.pow_pos (by decide))
   omega
  have h4:y*(10^t*2)<=y*(2^d*100):=Nat.mul_le_mul_left _ hc
  have h5:y*(2^d*100)=y*2^d*100:=by rw[Nat.mul_assoc]
  have h6:y*(10^t*2)=y*10^t*2:=by rw[Nat.mul_assoc]
  unfold cS
  by_cases ht:(t:Int)-2<0
  ·rw[if_pos ht]
   have e3:100=10^(-((t:Int)-2)).toNat*10^t:=by rw[<-Nat.pow_add,show (-((t:Int)-2)).toNat+t=2 by omega]
   have e4:x*10^(-((t:Int)-2)).toNat*10^t=x*100:=by rw[Nat.mul_assoc,<-e3]
   refine decide_eq_false (fun hlt=>?_)
   have:=Nat.mul_lt_mul_of_pos_right hlt (show 0<10^t from Nat.pow_pos (by decide))
   omega
  ·rw[if_neg ht,show ((t:Int)-2).toNat=t-2 by omega]
   have e3:10^t=10^(t-2)*100:=by rw[show (100:Nat)=10^2 from rfl,<-Nat.pow_add];congr 1;omega
   have e4:y*10^t=y*10^(t-2)*100:=by rw[e3,Nat.mul_assoc]
   exact decide_eq_false (by omega)
 ·obtain⟨d,hd⟩:∃d:Nat,(bd x:Int)-bd y = -(d:Int):=⟨((bd y:Int)-bd x).toNat,by omega⟩
  rw[hd]
  have e:(-(d:Int)*30103).tdiv 100000-2 = -((d*30103 / 100000+2:Nat):Int):=by
   have:((d:Int)*30103).tdiv 100000=((d*30103 / 100000:Nat):Int):=dH (d*30103) 100000
   rw[Int.neg_mul,Int.neg_tdiv,this];omega
  have hc:=List.all_eq_true.1 Ev d (List.mem_range.2 (by omega))
  rw[decide_eq_true_eq]at hc
  rw[e]
  unfold cS
  rw[if_pos (by omega),show (- -((d*30103 / 100000+2:Nat):Int)).toNat=d*30103 / 100000+2 by omega]
  generalize d*30103 / 100000+2=t at hc
  have e2:2^(bd x-1)*2^(d+1)=2^bd y:=by rw[<-Nat.pow_add];congr 1;omega
  have h3:=Nat.mul_le_mul bx hc
  exact decide_eq_false (by omega)
theorem A6(x y:Nat)(hx0:0<x)(hy0:0<y)(hx:qP x)(hy:qP y):∃(n:Int) (q:Nat),cS x y n=false/\cS x y (n+1)=true/\-400<=n/\n<=350/\gu x y (n-16)=q/\10^16<=q/\q<=10^17/\
  ∀sg,vA sg x y=if q=10^17 then nE sg (fM (10^16)) (n+1)else nE sg (fM q) n:=by
 obtain⟨n,hn,b1,b2,n1,n2⟩:=rL x y hx0 hy0 hx hy
 refine⟨n,gu x y (n-16),b1,b2,n1,n2,rfl,?_⟩
 rw[lf x y n (n-16) 16 (by omega)]at b1
 rw[lf x y (n+1) (n-16) 17 (by omega)]at b2
 have c1:10^16*(y*nP (n-16))<=x*o8 (n-16):=by
  have:=of_decide_eq_false b1
  rw[Nat.mul_comm];omega
 have c2:x*o8 (n-16)<10^17*(y*nP (n-16)):=by
  have:=of_decide_eq_true b2
  rw[Nat.mul_comm (10^17)];exact this
 have hB:0<y*nP (n-16):=Nat.mul_pos hy0 (rp _)
 have hq:=nJ x y (n-16)
 obtain⟨q1,q2,q3,q4⟩:=wS hB hq.symm c1 c2
 have sh:=zP (n+1-16) (n-16) 1 (by omega)
 have hnext:gu x y (n-16)=10^17->gu x y (n+1-16)=10^16:=by
  intro hqe
  rw[nJ]
  refine A8 (A:=x*o8 (n-16)) (B:=y*nP (n-16)) (s:=o8 (n-16)) (s':=o8 (n+1-16)) (Nat.mul_pos hy0 (rp _)) (rq _) (rq _) (Nat.mul_right_comm _ _ _) ?_ ?_ c2
  ·rw[Nat.mul_assoc y,sh]
   generalize nP (n-16)=a
   generalize o8 (n+1-16)=b
   rw[Nat.pow_one,Nat.mul_assoc y a 10,Nat.mul_assoc y,Nat.mul_right_comm a 10 b,Nat.mul_comm 10 (a*b)]
  ·rw[hqe]at q3;exact q3
 refine⟨q1,q2,fun sg=>?_⟩
 unfold vA
 simp only[hn]
 generalize gu x y (n-16)=q at *
 have ht:kU q=fM q:=by unfold kU;rw[Nat.mod_eq_of_lt (by omega)]
 rw[ht]
 by_cases h17:q=10^17
 ·rw[if_pos h17,if_pos (by rw[jd 17 q (by omega) (by omega)];decide),hnext h17]
  rfl
 ·rw[if_neg h17,if_neg (by rw[jd 16 q q1 (by omega)];decide)]
def qA(t:List UInt8):List UInt8:=if trimRightB 48 t=[]then [48]else trimRightB 48 t
theorem D1(t:List UInt8):trimRightB 48 (t++[48])=trimRightB 48 t:=by
 unfold trimRightB
 rw[List.reverse_append];rfl
theorem vK(t:List UInt8){c:UInt8}(h:c≠48):trimRightB 48 (t++[c])=t++[c]:=by
 unfold trimRightB
 rw[List.reverse_append,List.reverse_singleton,List.singleton_append,List.dropWhile_cons,if_neg (by simpa using h)]
 simp
def JF(sg:List UInt8)(n:Int)(text tail:List UInt8):Task:=
 Task.at_ 48 0 [false,false,true,true,true,true,true,true,true,true,true,true,true,true,true,true,true,true,true,true,true,true,true] (sv 147 [(3,V.d (D.s sg)),(8,V.d (D.i .i64 n)),(15,V.d (D.s text)),(16,V.d (D.s tail))]) [] []
theorem zI(sg text tail:List UInt8)(n:Int)(h1:sg.length<=100)(h2:1<=text.length)(h3:text.length<=100)(h4:tail.length<=100)(n1:-1000<=n)(n2:n<=1000):
  rk Tryz.prog aE (Task.at_ 48 0 [true,false,false,false,false,true,true,true,true,true,true,true,true,true,true,true,true,true,true,true,true,true,true,true,true,true]
    (sv 147 [(3,V.d (D.s sg)),(8,V.d (D.i .i64 n)),(15,V.d (D.s text)),(16,V.d (D.s tail)),(130,V.d (D.b false))]) [] [])=some (.d (.s (sg++text.take 1++[46]++tail++[101]++js n)),[]):=by
 have ht:=ID n (by omega) (by omega)
 have hd:=jB (n:=n) (by omega) (by omega)
 rw[kO,aY,List.drop_zero,aH (by omega),aH (by rw[List.length_take];omega),aH (by simp;omega),aH (by simp;omega),aH (by simp;omega),iZ ht,aH (by simp;omega),aD]
theorem vJ(sg text:List UInt8)(n:Int)(h1:sg.length<=100)(h2:1<=text.length)(h3:text.length<=100)(n1:-1000<=n)(n2:n<=1000):∀(k:Nat) (tail:List UInt8),tail.length=k+1->k<=90->
  rk Tryz.prog aE (JF sg n text tail)=some (.d (.s (sg++text.take 1++[46]++qA tail++[101]++js n)),[])
 |0,tail,hl,_=>by
  obtain⟨c,rfl⟩:∃c,tail=[c]:=by
   match tail,hl with
   | [c],_=>exact⟨c,rfl⟩
  unfold JF
  rw[ln,bc (by simp),aA,zI sg text [c] n h1 h2 h3 (by simp) n1 n2]
  have:qA [c]=[c]:=by
   unfold qA
   by_cases hc:c=48
   ·subst hc;rfl
   ·have:=vK [] hc
    rw[List.nil_append]at this
    rw[this,if_neg (by simp)]
  rw[this]
 |k+1,tail,hl,hk=>by
  rcases List.eq_nil_or_concat tail with h|⟨init,c,h⟩
  ·rw[h]at hl;simp at hl
  ·have h:tail=init++[c]:=by simpa using h
   subst h
   have li:init.length=k+1:=by simp at hl;omega
   have hw:IntKind.i64.wrap ((((init++[c]).length:Nat):Int)-1)=(init.length:Int):=by rw[List.length_append,List.length_singleton,wrap_i64]<;>omega
   have hg:bh (init++[c]) (init.length:Int)=some c:=by rw[bp];simp
   unfold JF
   rw[ln,bf (by rw[hl];omega),hw,aJ hg,aA,show ((c.toNat:Int)==48)=decide (c=48)from mJ c 48]
   by_cases hc:c=48
   ·have ih:=vJ sg text n h1 h2 h3 n1 n2 k init li (by omega)
    have ht:List.take ((init.length:Int).toNat-0) (List.drop 0 (init++[c]))=init:=by simp
    have hr:qA (init++[c])=qA init:=by unfold qA;rw[hc,D1]
    rw[decide_eq_true hc,kO,bk,hw,aH (by rw[hl];omega),ht,aA,hr]
    exact ih
   ·have hr:qA (init++[c])=init++[c]:=by
     unfold qA
     rw[vK init hc,if_neg (by simp)]
    rw[decide_eq_false hc,zI sg text _ n h1 h2 h3 (by rw[hl];omega) n1 n2,hr]
theorem BJ(sg:List UInt8)(d:Nat)(n:Int)(h1:sg.length<=100)(d1:10^16<=d)(d2:d<10^17)(n1:-1000<=n)(n2:n<=1000):
  rk Tryz.prog aE (Task.at_ 48 0 [true,true,true,true,true,true,true,true,true,true,true,true,true,true,true,true,true,true,true] (sv 147 [(3,V.d (D.s sg)),(8,V.d (D.i .i64 n)),(14,V.d (D.i .u64 (d:Int)))]) [] [])=some (.d (.s (nE sg (fM d) n)),[]):=by
 have hl:=jd 16 d d1 d2
 have hp:=Bj d (by omega)
 have e:List.take ((fM d).length-1) (List.drop 1 (fM d))=(fM d).drop 1:=by rw[List.take_of_length_le];simp
 have hL:=vJ sg (fM d) n h1 (by omega) (by omega) n1 n2 15 ((fM d).drop 1) (by rw[List.length_drop,hl]) (by decide)
 rw[tD,iZ hp,aH (by omega),e,aA]
 exact hL
theorem xH(sg:List UInt8)(hsg:sg.length<=100)(A B q:Nat)(n:Int)(hqn:cI A B=q)(q1:10^16<=q)(q2:q<=10^17)(hA:Fits (A / B))(n1:-400<=n)(n2:n<=350)(bb:Bool)(hbb:bb=true↔(B<2*(A%B)\/(2*(A%B)=B/\A / B%2=1))):
  rk Tryz.prog aE (Task.at_ 48 0 [true,false,true,true,true,true,true,true,true,true,true,true,true,true,true,true,true,true] (sv 147 [(3,V.d (D.s sg)),(8,V.d (D.i .i64 n)),(10,V.d (D.l (nb (A / B)) (ws (A / B)))),(104,V.d (D.b bb))]) [] [])=
   some (.d (.s (if q=10^17 then nE sg (fM (10^16)) (n+1)else nE sg (fM q) n)),[]):=by
 have o1:rk Tryz.prog aE (Task.call 101 [V.d (D.i .u64 1)] [])=_:=sQ 1 (by decide)
 have hm:q%18446744073709551616=q:=Nat.mod_eq_of_lt (by omega)
 have w1:IntKind.i64.wrap (n+1)=n+1:=by rw[wrap_i64]<;>omega
 have e1:(q:Int).tdiv 10=((q / 10:Nat):Int):=dH q 10
 have w2:IntKind.u64.wrap ((q / 10:Nat):Int)=((q / 10:Nat):Int):=by rw[aO];omega
 have last:∀X:Tr,X=(aT ((q:Int)==100000000000000000)
   (Tr.call (Task.at_ 48 0 [true,true,true,true,true,true,true,true,true,true,true,true,true,true,true,true,true,true,true] (sv 147 [(3,V.d (D.s sg)),(8,V.d (D.i .i64 (IntKind.i64.wrap (n+1)))),(14,V.d (D.i .u64 (IntKind.u64.wrap ((q:Int).tdiv 10))))]) [] []) Tr.ret)
   (Tr.call (Task.at_ 48 0 [true,true,true,true,true,true,true,true,true,true,true,true,true,true,true,true,true,true,true] (sv 147 [(3,V.d (D.s sg)),(8,V.d (D.i .i64 n)),(14,V.d (D.i .u64 (q:Int)))]) [] []) Tr.ret))->
   aC (rk Tryz.prog aE) X=some (.d (.s (if q=10^17 then nE sg (fM (10^16)) (n+1)else nE sg (fM q) n)),[]):=by
  intro X hX
  rw[hX,w1,e1,w2]
  by_cases h:q=10^17
  ·rw[cm (by omega),aA,if_pos h,show q / 10=10^16 by omega]
   exact BJ sg (10^16) (n+1) hsg (Nat.le_refl _) (by decide) (by omega) (by omega)
  ·rw[bO (by omega),aA,if_neg h]
   exact BJ sg q n hsg q1 (by omega) (by omega) (by omega)
 rw[v7]
 unfold cI at hqn
 cases bb with
 |true=>
  rw[if_pos (hbb.1 rfl)]at hqn
  have ha:=kE (nb (A / B)) (nb 1) (A / B) 1 hA wc
  rw[hqn]at ha
  have hl:=oP (nb q) q
  rw[hm]at hl
  rw[bk,di o1,di ha,de hl]
  exact last _ rfl
 |false=>
  rw[if_neg (fun h=>absurd (hbb.2 h) (by decide))]at hqn
  have hl:=oP (nb q) q
  rw[hm]at hl
  rw[hqn,aY,de hl]
  exact last _ rfl
theorem xG(sg:List UInt8)(hsg:sg.length<=100)(b c:Bool)(A B q:Nat)(n:Int)(hA:Fits A)(hB2:Fits (B*2))(hB0:0<B)(hqn:cI A B=q)(q1:10^16<=q)(q2:q<=10^17)(n1:-400<=n)(n2:n<=350):
  rk Tryz.prog aE (Task.at_ 48 0 [true,true,true,true,true,true,true,true,true,true,true,true,true,true] (sv 147 [(3,V.d (D.s sg)),(6,V.d (D.l b (ws A))),(7,V.d (D.l c (ws B))),(8,V.d (D.i .i64 n))]) [] [])=
   some (.d (.s (if q=10^17 then nE sg (fM (10^16)) (n+1)else nE sg (fM q) n)),[]):=by
 have hd:=Cb b c A B hA hB2 hB0
 have hrl:A%B<B:=Nat.mod_lt _ hB0
 have fB:Fits B:=hB2.le (by omega)
 have fq:Fits (A / B):=hA.le (Nat.div_le_self _ _)
 have fr:Fits (A%B):=hB2.le (by omega)
 have frr:Fits (A%B+A%B):=hB2.le (by omega)
 have ha:=kE (nb (A%B)) (nb (A%B)) (A%B) (A%B) fr fr
 have hc:=oL (nb (A%B+A%B)) c (A%B+A%B) B frr fB
 have tail:=xH sg hsg A B q n hqn q1 q2 fq n1 n2
 have hle:A / B<=q:=by rw[<-hqn];unfold cI;split<;>omega
 have hl:=oP (nb (A / B)) (A / B)
 rw[Nat.mod_eq_of_lt (show A / B<18446744073709551616 by omega)]at hl
 have e2:((A / B:Nat):Int).tmod 2=((A / B%2:Nat):Int):=ia (A / B) 2
 rw[xQ,F5 hd,di ha,de hc]
 unfold ef
 by_cases h1:A%B+A%B<B
 ·rw[if_pos h1,bc (by decide),bO (by decide),aA]
  exact tail false ⟨fun h=>absurd h (by decide),fun h=>by omega⟩
 ·rw[if_neg h1]
  by_cases h2:B<A%B+A%B
  ·rw[if_pos h2,bf (by decide),aA]
   exact tail true ⟨fun _=>by omega,fun _=>rfl⟩
  ·rw[if_neg h2,bc (by decide),cm rfl,de hl,aA,e2]
   refine tail _ ?_
   rw[beq_iff_eq]
   constructor
   ·intro h;omega
   ·intro h;omega
theorem sS(sg:List UInt8)(hsg:sg.length<=100)(x y:Nat)(hx0:0<x)(hy0:0<y)(hx:qP x)(hy:qP y)(n:Int)(q:Nat)(b1:cS x y n=false)(b2:cS x y (n+1)=true)(n1:-400<=n)(n2:n<=350)(hq:gu x y (n-16)=q)(q1:10^16<=q)(q2:q<=10^17):∀(k:Nat) (b c:Bool),-600<=n-(k:Int)->
  rk Tryz.prog aE (Task.at_ 48 0 [false,false,true,true,true,true,true,true,true,true,true,true,true] (sv 147 [(3,V.d (D.s sg)),(6,V.d (D.l b (ws x))),(7,V.d (D.l c (ws y))),(8,V.d (D.i .i64 (n-(k:Int))))]) [] [])=
   some (.d (.s (if q=10^17 then nE sg (fM (10^16)) (n+1)else nE sg (fM q) n)),[])
 |k+1,b,c,hk=>by
  have w:IntKind.i64.wrap (n-((k+1:Nat):Int)+1)=n-(k:Int):=by rw[wrap_i64]<;>omega
  have hb:cS x y (n-(k:Int))=false:=by
   cases h:cS x y (n-(k:Int)) with
   |false=>rfl
   |true=>
    have:=rD (show n-(k:Int)<=n by omega) h
    rw[b1]at this;cases this
  have ha:=xr b c x y hx hy (n-(k:Int)) (by omega) (by omega)
  rw[hb]at ha
  rw[qh,w,dh ha,Bool.not_false,bk,aA]
  exact sS sg hsg x y hx0 hy0 hx hy n q b1 b2 n1 n2 hq q1 q2 k b c (by omega)
 |0,b,c,hk=>by
  have e0:n-((0:Nat):Int)=n:=by omega
  have w:IntKind.i64.wrap (n+1)=n+1:=by rw[wrap_i64]<;>omega
  have w1:IntKind.i64.wrap (16-n)=16-n:=by rw[wrap_i64]<;>omega
  have ha:=xr b c x y hx hy (n+1) (by omega) (by omega)
  rw[b2]at ha
  rw[nJ]at hq
  rw[e0,qh,w,w1,dh ha,Bool.not_true,aY]
  by_cases h:16-n ≥ 0
  ·have ht:=mg (16-n).toNat (by omega)
   rw[show (((16-n).toNat:Nat):Int)=16-n by omega]at ht
   have hm:=kG b (tb (16-n).toNat) x (10^(16-n).toNat) hx.iX.fits (eT (dF (by omega))).fits
   have hp:nP (n-16)=1:=by unfold nP;rw[show (n-16).toNat=0 by omega,Nat.pow_zero]
   have hqq:o8 (n-16)=10^(16-n).toNat:=by unfold o8;rw[show (-(n-16)).toNat=(16-n).toNat by omega]
   rw[hp,hqq,Nat.mul_one]at hq
   rw[bf h,di ht,di hm,aA]
   exact xG sg hsg _ c _ y q n (hx.mul (by omega)).fits hy.iX.fits2 hy0 hq q1 q2 n1 n2
  ·have w2:IntKind.i64.wrap (0-(16-n))=(((n-16).toNat:Nat):Int):=by rw[wrap_i64]<;>omega
   have ht:=mg (n-16).toNat (by omega)
   have hm:=kG c (tb (n-16).toNat) y (10^(n-16).toNat) hy.iX.fits (eT (dF (by omega))).fits
   have hp:nP (n-16)=10^(n-16).toNat:=rfl
   have hqq:o8 (n-16)=1:=by unfold o8;rw[show (-(n-16)).toNat=0 by omega,Nat.pow_zero]
   rw[hp,hqq,Nat.mul_one]at hq
   rw[bc h,w2,di ht,di hm,aA]
   exact xG sg hsg b _ x _ q n hx.iX.fits (hy.mul (by omega)).fits2 (Nat.mul_pos hy0 (Nat.pow_pos (by decide))) hq q1 q2 n1 n2
theorem vh(sg:List UInt8)(hsg:sg.length<=100)(x y:Nat)(hx0:0<x)(hy0:0<y)(hx:qP x)(hy:qP y)(b c:Bool):
  rk Tryz.prog aE (Task.at_ 48 0 [true,true,true,true,true,true,true,true,true,true] (sv 147 [(3,V.d (D.s sg)),(6,V.d (D.l b (ws x))),(7,V.d (D.l c (ws y)))]) [] [])=some (.d (.s (vA sg x y)),[]):=by
 have h1:=lK b x hx.iX.fits
 have h2:=lK c y hy.iX.fits
 have l1:=hx.bd
 have l2:=hy.bd
 have hb:=qK ((bd x:Int)-bd y) (by omega) (by omega)
 have hlow:=DQ x y hx0 hx hy
 obtain⟨n,q,b1,b2,n1,n2,hq,q1,q2,hs⟩:=A6 x y hx0 hy0 hx hy
 have v1:IntKind.i64.wrap ((bd x:Int)-bd y)=(bd x:Int)-bd y:=by rw[wrap_i64]<;>omega
 have v2:IntKind.i64.wrap (((bd x:Int)-bd y)*30103)=((bd x:Int)-bd y)*30103:=by rw[wrap_i64]<;>omega
 rw[As,de h1,de h2,v1,v2,aA,hs sg]
 generalize (((bd x:Int)-bd y)*30103).tdiv 100000=z at *
 have v3:IntKind.i64.wrap z=z:=by rw[wrap_i64]<;>omega
 have v4:IntKind.i64.wrap (z-2)=z-2:=by rw[wrap_i64]<;>omega
 have hle:z-2<=n:=by
  rcases Int.lt_or_le n (z-2)with h|h
  ·have:=rD (show n+1<=z-2 by omega) b2
   rw[hlow]at this;cases this
  ·exact h
 have hL:=sS sg hsg x y hx0 hy0 hx hy n q b1 b2 n1 n2 hq q1 q2 (n-(z-2)).toNat b c (by omega)
 rw[show n-(((n-(z-2)).toNat:Nat):Int)=z-2 by omega]at hL
 rw[v3,v4]
 exact hL
theorem HY(b:Nat)(hb:b<18446744073709551616):rk Tryz.prog aE (Task.call 48 [V.d (D.i .u64 (b:Int))] [])=some (.d (.s (qC b)),[]):=by
 have h0:(b:Int).fdiv 9223372036854775808=((b / 2^63:Nat):Int):=jC b 9223372036854775808
 have h1:(b:Int).fdiv 4503599627370496=((b / 2^52:Nat):Int):=jC b 4503599627370496
 have h2:(BitVec.ofInt IntKind.u64.bits ((b / 2^52:Nat):Int) &&& BitVec.ofInt IntKind.u64.bits 2047).toNat=b / 2^52%2048:=
  BC (b:=b / 2^52) (k:=11) (by omega) 2047 (by decide)
 have w1:IntKind.u64.wrap ((b / 2^52%2048:Nat):Int)=((b / 2^52%2048:Nat):Int):=by rw[aO];omega
 have w1':IntKind.i64.wrap ((b / 2^52%2048:Nat):Int)=((b / 2^52%2048:Nat):Int):=by rw[wrap_i64]<;>omega
 have h3:(BitVec.ofInt IntKind.u64.bits (b:Int) &&& BitVec.ofInt IntKind.u64.bits 4503599627370495).toNat=b%2^52:=BC (b:=b) (k:=52) hb 4503599627370495 (by decide)
 have w3:IntKind.u64.wrap ((b%2^52:Nat):Int)=((b%2^52:Nat):Int):=by rw[aO];omega
 have main:∀sg:List UInt8,sg.length<=1->(if 2^63<=b then [45] else([]:List UInt8))=sg->
   rk Tryz.prog aE (Task.at_ 48 0 [true,true,true] (sv 147 [(0,V.d (D.i .u64 (b:Int))),(3,V.d (D.s sg))]) [] [])=some (.d (.s (qC b)),[]):=by
  intro sg hsl hsg
  rw[EM,h1,h2,w1,w1',h3,w3]
  unfold qC
  rw[hsg]
  by_cases hk:b / 2^52%2048=2047
  ·rw[cm (by omega),aD,if_pos hk]
  ·rw[bO (by omega),if_neg hk]
   simp only
   have go:∀(e m:Nat),(nG (b%2^63))=(if (e:Int)-1075<0 then(m,2^(-((e:Int)-1075)).toNat) else(m*2^((e:Int)-1075).toNat,1))->e<=2046->m<2^53->b%2^63≠0->
     rk Tryz.prog aE (Task.at_ 48 0 [true,true,true,true,true,true,true,true] (sv 147 [(3,V.d (D.s sg)),(4,V.d (D.i .i64 (e:Int))),(5,V.d (D.i .u64 (m:Int)))]) [] [])=some (.d (.s (vA sg (nG (b%2^63)).1 (nG (b%2^63)).2)),[]):=by
    intro e m hr he hm hne
    have ho:=sQ m (by omega)
    obtain⟨s1,s2,s3⟩:=yV (b%2^63) (by omega) (by omega)
    have s0:=yU (b%2^63) hne
    rw[CT,di ho]
    by_cases h:(e:Int) ≥ 1075
    ·have wE:IntKind.i64.wrap ((e:Int)-1075)=((e-1075:Nat):Int):=by rw[wrap_i64]<;>omega
     have hsh:=ri (nb m) m (e-1075) (Hy (by omega)).fits (by omega)
     rw[if_neg (by omega),show ((e:Int)-1075).toNat=e-1075 by omega]at hr
     rw[hr]at s0 s1 s2 s3⊢
     have:=vh sg (by omega) _ 1 s0 (by decide) s1 s2 (nb (m*2^(e-1075))) true
     rw[xe]at this
     rw[bf h,wE,di hsh,aA]
     exact this
    ·have wE:IntKind.i64.wrap (1075-(e:Int))=((1075-e:Nat):Int):=by rw[wrap_i64]<;>omega
     have hsh:=ri true 1 (1075-e) yd (by omega)
     rw[xe,Nat.one_mul]at hsh
     rw[if_pos (by omega),show (-((e:Int)-1075)).toNat=1075-e by omega]at hr
     rw[hr]at s0 s1 s2 s3⊢
     have:=vh sg (by omega) m _ s0 s3 s1 s2 (nb m) (nb (2^(1075-e)))
     rw[bc h,wE,di hsh,aA]
     exact this
   have hcd:b%2^63 / 2^52=b / 2^52%2048:=by omega
   have hcm:b%2^63%2^52=b%2^52:=by omega
   by_cases he:b / 2^52%2048=0
   ·rw[cm (by omega),aA,uq]
    by_cases hm:b%2^52=0
    ·have hz:b%2^63=0:=by omega
     rw[if_pos hz,da (by rw[beq_iff_eq];omega),aH (by omega),aD]
    ·have hz:b%2^63≠0:=by omega
     rw[if_neg hz,cj (by rw[beq_eq_false_iff_ne];omega),cm (by omega),aA]
     refine go 1 (b%2^52) ?_ (by decide) (by omega) hz
     unfold nG
     simp only[hcd,hcm,if_pos he]
     rfl
   ·have hz:b%2^63≠0:=by omega
    have hor:(BitVec.ofInt IntKind.u64.bits ((b%2^52:Nat):Int) ||| BitVec.ofInt IntKind.u64.bits 4503599627370496).toNat=b%2^52+2^52:=by
     have:=jv (a:=b%2^52) (b:=4503599627370496) (by omega) (by decide)
     have e:=nD (c:=b%2^52) (a:=1) (k:=52) (Nat.mod_lt _ (by decide))
     rw[Nat.one_mul]at e
     exact Eq.trans this e
    have w5:IntKind.u64.wrap ((b%2^52+2^52:Nat):Int)=((b%2^52+2^52:Nat):Int):=by rw[aO];omega
    rw[bO (by omega),aA,uq,aY,bO (by omega),hor,w5,aA,if_neg hz]
    refine go (b / 2^52%2048) (b%2^52+2^52) ?_ (by omega) (by omega) hz
    unfold nG
    simp only[hcd,hcm,if_neg he]
    have e1:(-1074:Int)+(((b / 2^52%2048:Nat):Int)-1)=((b / 2^52%2048:Nat):Int)-1075:=by omega
    rw[e1]
 rw[f16,h0]
 by_cases ht:2^63<=b
 ·rw[cm (by omega),aA]
  exact main [45] (by decide) (if_pos ht)
 ·rw[bO (by omega),aA]
  exact main [] (by decide) (if_neg ht)
end Go.Dn.Dec
namespace Go.Dn.Dec
open Go.Proofs
set_option linter.unusedVariables false
set_option maxRecDepth 100000
set_option linter.unusedSimpArgs false
theorem A7{args:List V}{S:List Ob}{o:Out}{k:Nat}(hk:k=48)(h:lO args S=some o):bQ Tryz.prog k args S o:=by
 unfold lO at h
 split at h
 ·rename_i n
  split at h
  ·rename_i hc
   injection h with h;subst h
   have h2:=HY n.toNat (by omega)
   rw[Int.toNat_of_nonneg hc.1]at h2
   subst hk
   exact fH mixed BM eS (iK h2)
  ·cases h
 ·cases h
theorem DY{args:List V}{S:List Ob}{o:Out}(h:oY args S=some o):bQ Tryz.prog 47 args S o:=by
 unfold oY at h
 split at h
 ·rename_i n
  split at h
  ·rename_i hc
   injection h with h;subst h
   exact fH mixed BM eS (iK (ID n hc.1 hc.2))
  ·cases h
 ·cases h
theorem Jc:kZ Tryz.prog bn:=by
 intro k g hg args S o ho
 simp only[bn,Kt]at hg
 split at hg
 ·injection hg with hg;subst hg;exact A7 rfl ho
 ·injection hg with hg;subst hg;exact DY ho
 ·exact BM k g hg args S o ho
theorem Kx:ja Tryz.prog (run Tryz.prog bn):=fun k args S o h=>fH mixed Jc eS h
theorem Kw:ja Tryz.prog (run Tryz.prog aE):=fun k args S o h=>fH mixed BM eS h
theorem Jb:kZ Tryz.prog jK:=by
 intro k g hg args S o ho
 simp only[jK,Hi]at hg
 split at hg
 ·cases hg
 ·split at hg
  ·injection hg with hg;subst hg;exact Kw k args S o ho
  ·injection hg with hg;subst hg;exact Br Kx ho
theorem pB{k:Nat}{g:List V->List Ob->Option Out}(h:jK.ext k=some g)(args:List V)(S:List Ob):rk Tryz.prog jK (Task.call k args S)=g args S:=by
 rw[y6]
 unfold mI
 simp only[h]
 rw[bJ]
 cases g args S with
 |none=>rfl
 |some o=>rfl
theorem BN{k:Nat}(h1:¬k<9)(h2:yj k=false):jK.ext k=some (vL Tryz.prog bn k):=by
 simp only[jK,Hi,if_neg h1,h2];rfl
theorem IH{k:Nat}{args:List V}{o:Out}(h:RY (Task.call k args [])=some o)(h1:¬k<9)(h2:yj k=false):rk Tryz.prog jK (Task.call k args [])=some o:=by
 rw[pB (BN h1 h2)]
 have:=iK h
 unfold vL
 split
 ·rename_i heq;cases heq
 ·exact this
theorem JX{k:Nat}{args:List V}{b:Ob}{o:Out}(h:RY (Task.call k args [b])=some o)(h1:¬k<9)(h2:yj k=false):rk Tryz.prog jK (Task.call k args [b])=some o:=by
 rw[pB (BN h1 h2)]
 have:=iK h
 unfold vL
 split
 ·rename_i heq;simp at heq
 ·exact this
theorem w9{k:Nat}{args:List V}{o:Out}(h:rk Tryz.prog aE (Task.call k args [])=some o)(h1:¬k<9)(h2:yj k=true):rk Tryz.prog jK (Task.call k args [])=some o:=by
 have e:jK.ext k=some (fun args S=>run Tryz.prog aE (.call k args S)):=by
  simp only[jK,Hi,if_neg h1,h2,if_true]
 rw[pB e]
 exact iK h
theorem Jn(zs:List Int):RY (Task.call 10 [V.d (D.l false (ints .u8 zs))] [])=some (.p 0 0,[pk zs 0]):=by
 have:∀l:List D,rk Tryz.prog bn (Task.call 10 [V.d (D.l false l)] [])=aC (rk Tryz.prog bn) (Tr.ret (V.p 0 0,[Ob.cells [V.d (D.l false l),V.d (D.i .i64 0)] []])):=fun l=>aF (by kernel_rfl)
 rw[RY,this];rfl
theorem LV{f:Task->Option Out}{t:Task}{cs:List V}{K:List V->Tr}(h:f t=some (.p 0 0,[.cells cs []]))(hc:bg 0 cs=true):aC f (.call t fun o=>KY o fun l=>K l)=aC f (K cs):=by
 rw[cE h]
 show aC f (aM (bg 0 cs) (K cs))=_
 rw[hc,ba]
theorem KG{zs:List Int}(h:∀z∈zs,0<=z/\z<256)(hl:zs.length<=150):Pk zs 0:=⟨h,by omega,by omega⟩
end Go.Dn.Dec
namespace Go.Dn.Dec
open Go.Proofs
theorem y7(b:Bool)(l:List D)(n m:Int)(t:Bool):rk Tryz.prog jK (.call 7 [vl b l,.d (.i .u16 n),.d (.i .u8 m),vb t] [])=aC (rk Tryz.prog jK) (cV (.call 18 [] []) fun a=>aB a fun c=>aT (!c) (.ret (vb false,[])) (aT (decide ((l.length:Int)>100)) (.ret (vb true,[])) (.call (.call 10 [vl b l] []) fun e=>KY e fun f=>c1 (.call 11 [.p 0 0] [.cells f []]) f.length [] fun h j=>aL h fun k o=>ob (bh o 0) fun q=>aM (q.width==3) (ob o[0]? fun r=>aM (decide (3<=r.width)) (cV (.call 13 [.d (.g [gD 3 0 r 0,gD 3 0 r 1,gD 3 0 r 2])] []) fun s=>aS s fun v=>aM (decide (v.length<=4294967296)&&true) (aT t (.call (.at_ 7 0 [true,false,true,true,true,true] (sv 69 [(1,.d (.i .u16 n)),(2,.d (.i .u8 m)),(9,.m 1 0 v.length),(33,vb (decide ((v.length:Int)>0)))]) [] [.cells (List.map .d (ofBytes v)) [],.cells j []]) .ret) (.call (.at_ 7 0 [true,false,true,true,true,true] (sv 69 [(1,.d (.i .u16 n)),(2,.d (.i .u8 m)),(9,.m 1 0 v.length),(33,vb false)]) [] [.cells (List.map .d (ofBytes v)) [],.cells j []]) .ret))))))):=
 aF (by kernel_rfl)
theorem Gy(n_0 n_1:Int)(m_2:Nat)(b_3:Bool)(l_4 l_5:List V):rk Tryz.prog jK (.at_ 7 0 [true,false,true,true,true,true] (sv 69 [(1,.d (.i .u16 n_0)),(2,.d (.i .u8 n_1)),(9,.m 1 0 m_2),(33,vb b_3)]) [] [.cells l_4 [],.cells l_5 []])=aC (rk Tryz.prog jK) (aT b_3 (aM (decide ((m_2:Int)≠0)) (aM (decide (0<=(IntKind.i64.wrap n_0).tmod (m_2:Int)/\(IntKind.i64.wrap n_0).tmod (m_2:Int)<(m_2:Int))) (aM (decide (0+((IntKind.i64.wrap n_0).tmod (m_2:Int)).toNat<l_4.length)&&true) (ob (view [.cells (l_4.set (0+((IntKind.i64.wrap n_0).tmod (m_2:Int)).toNat) (.d (.i .u8 n_1))) [],.cells l_5 []] 1 (.m 1 0 m_2)) fun a=>ob (eO a) fun c=>cV (.call 19 [vs c] []) fun e=>dY e fun f=>aM (f.length==3) (aW (f.getD 0 (vb false)) fun g=>dZ g fun h j=>aW (f.getD 1 (vb false)) fun k=>bD .i64 k fun n=>aW (f.getD 2 (vb false)) fun o=>bD .i64 o fun p=>ob (view [.cells (l_4.set (0+((IntKind.i64.wrap n_0).tmod (m_2:Int)).toNat) (.d (.i .u8 n_1))) [],.cells l_5 []] 1 (.m 1 0 m_2)) fun q=>ob (eO q) fun r=>cV (.call 20 [vs r] []) fun t=>dY t fun v=>aM (v.length==3) (aW (v.getD 0 (vb false)) fun w=>dZ w fun x y=>aW (v.getD 1 (vb false)) fun z=>bD .i64 z fun a0=>aW (v.getD 2 (vb false)) fun a1=>bD .i64 a1 fun a2=>aT (n==a0) (aT (p==a2) (cV (.call 21 [vl h j,vl x y] []) fun a3=>aB a3 fun a4 => .ret (vb a4,[])) (.ret (vb false,[]))) (.ret (vb false,[])))))))) (ob (view [.cells l_4 [],.cells l_5 []] 1 (.m 1 0 m_2)) fun a5=>ob (eO a5) fun a6=>cV (.call 19 [vs a6] []) fun a7=>dY a7 fun a8=>aM (a8.length==3) (aW (a8.getD 0 (vb false)) fun a9=>dZ a9 fun aa ab=>aW (a8.getD 1 (vb false)) fun ac=>bD .i64 ac fun ad=>aW (a8.getD 2 (vb false)) fun ae=>bD .i64 ae fun af=>ob (view [.cells l_4 [],.cells l_5 []] 1 (.m 1 0 m_2)) fun ag=>ob (eO ag) fun ah=>cV (.call 20 [vs ah] []) fun ai=>dY ai fun aj=>aM (aj.length==3) (aW (aj.getD 0 (vb false)) fun ak=>dZ ak fun al am=>aW (aj.getD 1 (vb false)) fun an=>bD .i64 an fun ao=>aW (aj.getD 2 (vb false)) fun ap=>bD .i64 ap fun aq=>aT (ad==ao) (aT (af==aq) (cV (.call 21 [vl aa ab,vl al am] []) fun ar=>aB ar fun au => .ret (vb au,[])) (.ret (vb false,[]))) (.ret (vb false,[])))))):=
 aF (by kernel_rfl)
end Go.Dn.Dec
namespace Go.Dn.Dec
open Go.Proofs
def jb(s:List UInt8)(a:Nat)(w:Int)(L:List Tok)(r:Cz)(o:Option Out):Prop:=
 match r with
 | .inr (e,w')=>e≠0/\∃(x:Int) (b:Bool) (L':List Tok),o=some (.t [],[bo s x e (w':Int) b (cF L')])
 | .inl (t,n)=>o=some (.t [],[bo s ((a+n:Nat):Int) 0 w false (cF (L++[t]))])
theorem El(s:List UInt8)(a n:Nat)(t:Tok):nX (s.drop a) n a t=if nW s (a+n)=true then .inr (2,a+n)else .inl (t,n):=by
 unfold nX nW
 rw[List.drop_drop]
 cases h:s.drop (a+n) with
 |nil=>rfl
 |cons c q=>rfl
def wD(r:List UInt8):Bool:=!aG (r.getD 0 0)&&(!(r.getD 0 0==46&&aG (r.getD 1 0)))
theorem yy(r:List UInt8):(wD r=true)↔(r.takeWhile aG=[]/\cH r=0):=by
 have h0:aG 0=false:=by decide
 unfold wD
 rw[qZ]
 have hd:=vT r 0
 rw[List.drop_zero]at hd
 cases h1:aG (r.getD 0 0) with
 |true=>
  have:=hd.1 h1
  simp[this]
 |false=>
  have hn:r.takeWhile aG=[]:=by
   rcases Classical.em (r.takeWhile aG=[])with h|h
   ·exact h
   ·have:=hd.2 h;rw[h1]at this;cases this
  rw[hn]
  clear hd h1 hn
  generalize r.getD 0 0=x
  generalize aG (r.getD 1 0)=y
  by_cases h46:x=46<;>cases y<;>simp[h46]
theorem HF(s:List UInt8)(a:Nat)(ha:a<=10000)(w:Int)(b:Bool)(l:List D):
  rk Tryz.prog aE (Task.at_ 92 1 [true,false,true] (sv 192 [(0,V.p 0 0),(2,V.d (D.i .i64 (a:Int))),(42,V.d (D.b true))]) [] [bo s (a:Int) 0 w b l])=
   rk Tryz.prog aE (Task.at_ 92 1 [true,false,true,true] (sv 192 [(0,V.p 0 0),(2,V.d (D.i .i64 (a:Int))),(103,V.d (D.b (wD (s.drop (a+1)))))]) [] [bo s ((a+1:Nat):Int) 0 w b l]):=by
 have hp0:rk Tryz.prog aE (Task.call 86 [V.p 0 0,V.d (D.i .i64 0)] [bo s ((a+1:Nat):Int) 0 w b l])=_:=fR s (a+1) 0 0 w b l (by omega)
 have hp1:rk Tryz.prog aE (Task.call 86 [V.p 0 0,V.d (D.i .i64 1)] [bo s ((a+1:Nat):Int) 0 w b l])=_:=fR s (a+1) 1 0 w b l (by omega)
 have hg0:=gk ((s.drop (a+1)).getD 0 0)
 have hg1:=gk ((s.drop (a+1)).getD 1 0)
 have om:((((s.drop (a+1)).getD 0 0).toNat:Int)==46)=((s.drop (a+1)).getD 0 0==46):=bG _ 46
 have w1:IntKind.i64.wrap ((a:Int)+1)=((a+1:Nat):Int):=by rw[wrap_i64]<;>omega
 unfold wD
 unfold bo at hp0 hp1⊢
 rw[oW,bk,w1,cr hp0 (by rfl) (by rfl),dh hg0]
 cases h0:aG ((s.drop (a+1)).getD 0 0) with
 |true=>rw[jP,aA,Bool.not_true,Bool.false_and]
 |false=>
  rw[iL,cr hp0 (by rfl) (by rfl),om]
  cases h1:((s.drop (a+1)).getD 0 0==46) with
  |false=>rw[aY,aA];rfl
  |true=>rw[bk,cr hp1 (by rfl) (by rfl),dh hg1,aA];rfl
theorem HI(s:List UInt8)(u a:Nat)(hu:u<=10000)(w:Int)(b:Bool)(l:List D):
  rk Tryz.prog aE (Task.at_ 92 1 [true,true,true,false,true] (sv 192 [(0,V.p 0 0),(2,V.d (D.i .i64 (a:Int))),(77,V.d (D.b false))]) [] [bo s (u:Int) 0 w b l])=
   rk Tryz.prog aE (Task.at_ 92 1 [true,false,true,true] (sv 192 [(0,V.p 0 0),(2,V.d (D.i .i64 (a:Int))),(103,V.d (D.b (wD (s.drop u))))]) [] [bo s (u:Int) 0 w b l]):=by
 have hp0:rk Tryz.prog aE (Task.call 86 [V.p 0 0,V.d (D.i .i64 0)] [bo s (u:Int) 0 w b l])=_:=fR s u 0 0 w b l (by omega)
 have hp1:rk Tryz.prog aE (Task.call 86 [V.p 0 0,V.d (D.i .i64 1)] [bo s (u:Int) 0 w b l])=_:=fR s u 1 0 w b l (by omega)
 have hg0:=gk ((s.drop u).getD 0 0)
 have hg1:=gk ((s.drop u).getD 1 0)
 have om:((((s.drop u).getD 0 0).toNat:Int)==46)=((s.drop u).getD 0 0==46):=bG _ 46
 unfold wD
 unfold bo at hp0 hp1⊢
 rw[nK,aY,cr hp0 (by rfl) (by rfl),dh hg0]
 cases h0:aG ((s.drop u).getD 0 0) with
 |true=>rw[jP,aA,Bool.not_true,Bool.false_and]
 |false=>
  rw[iL,cr hp0 (by rfl) (by rfl),om]
  cases h1:((s.drop u).getD 0 0==46) with
  |false=>rw[aY,aA];rfl
  |true=>rw[bk,cr hp1 (by rfl) (by rfl),dh hg1,aA];rfl
theorem p7(s:List UInt8)(a n:Nat)(w:Int)(L:List Tok)(T:Tok):jb s a w L (nX (s.drop a) n a T) (some (.t [],[na s (a+n) 0 w L T])):=by
 rw[El]
 unfold na
 cases h:nW s (a+n) with
 |true=>exact⟨by decide,_,_,_,rfl⟩
 |false=>rfl
theorem j5(s:List UInt8)(a x w':Nat)(e w:Int)(he:e≠0)(L:List Tok)(T:Tok):jb s a w L (.inr (e,w')) (some (.t [],[na s x e (w':Int) L T])):=by
 unfold na
 cases h:nW s x with
 |true=>rw[if_pos rfl,if_neg he,if_neg he];exact⟨he,_,_,_,rfl⟩
 |false=>exact⟨he,_,_,_,rfl⟩
theorem HG(s:List UInt8)(a sg:Nat)(hs:s.length<=10000)(hsg:(s.drop a).take sg=[]\/(s.drop a).take sg=[43]\/(s.drop a).take sg=[45])(hsl:sg=((s.drop a).take sg).length)
    (hnd:wD (s.drop (a+sg))=false) (ha:a+sg<=s.length) (w:Int) (b:Bool) (L:List Tok) (hL:L.length<=100000):
    jb s a w L
      (let u:=s.drop (a+sg)
       let ds:=u.takeWhile aG
       let fa:=cH (u.drop ds.length)
       let fb:=dP (u.drop (ds.length+fa))
       let n:=sg+(ds.length+(fa+fb))
       if fa=0/\fb=0 then
         let v:=eE ((s.drop a).head?==some 45) (cy ds)
         if 60<ds.length then .inr (4,a)
         else if v.2=false then .inr (5,a)
         else nX (s.drop a) n a ⟨2,[],v.1,0,a⟩
       else
         let p:=dc ((s.drop a).take n)
         if p.2≠0 then .inr (p.2,a)else nX (s.drop a) n a ⟨3,[],0,p.1,a⟩)
      (rk Tryz.prog aE (Task.at_ 92 1 [true,false,true,true] (sv 192 [(0,V.p 0 0),(2,V.d (D.i .i64 (a:Int))),(103,V.d (D.b false))]) [] [bo s ((a+sg:Nat):Int) 0 w b (cF L)])):=by
  have hr:=lN s (a+sg) ha (by omega) 0 w b (cF L)
  have hself:=gb (s.drop (a+sg)) aG
  have hall:=oX aG (s.drop (a+sg))
  have hle:=fe (s.drop (a+sg)) aG
  rw[List.length_drop]at hle
  have hnd':¬((s.drop (a+sg)).takeWhile aG=[]/\cH (s.drop (a+sg))=0):=fun h=>by
    have:=(yy _).2 h;rw[hnd]at this;cases this
  simp only
  generalize hds:(s.drop (a+sg)).takeWhile aG=ds at *
  have htl:=JO s (a+sg+ds.length) (by omega) hs 0 w b (cF L)
  have hdd:s.drop (a+sg+ds.length)=(s.drop (a+sg)).drop ds.length:=by rw[List.drop_drop]
  have hdd2:(s.drop (a+sg+ds.length)).drop (cH (s.drop (a+sg+ds.length)))=(s.drop (a+sg)).drop (ds.length+cH ((s.drop (a+sg)).drop ds.length)):=by
    rw[hdd,List.drop_drop]
  rw[hdd2,hdd]at htl
  have hxl:a+sg+ds.length+(cH ((s.drop (a+sg)).drop ds.length)+dP ((s.drop (a+sg)).drop (ds.length+cH ((s.drop (a+sg)).drop ds.length))))<=s.length:=by
    have h2:=se ((s.drop (a+sg)).drop ds.length)
    have h3:=vY ((s.drop (a+sg)).drop (ds.length+cH ((s.drop (a+sg)).drop ds.length)))
    rw[List.length_drop,List.length_drop]at h2 h3
    omega
  generalize hfa:cH ((s.drop (a+sg)).drop ds.length)=fa at *
  generalize hfb:dP ((s.drop (a+sg)).drop (ds.length+fa))=fb at *
  have ex:a+sg+ds.length+(fa+fb)=a+(sg+(ds.length+(fa+fb))):=by omega
  rw[ex]at htl hxl
  have hcut:List.take ((((a+(sg+(ds.length+(fa+fb))):Nat):Int)).toNat-(a:Int).toNat) (List.drop (a:Int).toNat s)=(s.drop a).take (sg+(ds.length+(fa+fb))):=by
    rw[Int.toNat_natCast,Int.toNat_natCast,Nat.add_sub_cancel_left]
  have hwr:IntKind.i64.wrap (((a+sg+ds.length:Nat):Int)-((a+sg:Nat):Int))=(ds.length:Int):=by rw[wrap_i64]<;>omega
  by_cases hd:fa=0/\fb=0
  · rw [if_pos hd]
    obtain⟨rfl,rfl⟩:=hd
    rw[decide_eq_false (by simp)]at htl
    rw[Nat.add_zero,Nat.add_zero]at *
    have htk:(s.drop a).take (sg+ds.length)=(s.drop a).take sg++ds:=by
      rw[List.take_add,List.drop_drop,<-hself]
    have hds0:ds≠[]:=by
      intro e
      apply hnd'
      refine⟨e,?_⟩
      have:=hfa
      rw[e]at this
      exact this
    have hne:(s.drop a).take sg++ds≠[]:=by simp[hds0]
    have hh:((s.drop a).take sg++ds).head?=(s.drop a).head?:=by
      rw[<-htk]
      have:sg+ds.length≠0:=by have:=List.length_pos_iff.2 hds0;omega
      rw[List.head?_take,if_neg this]
    obtain⟨N,hW,hN⟩:=Ik ((s.drop a).take sg) ds hsg (fun c h=>List.all_eq_true.1 hall c h) hne (by rw[<-htk,List.length_take,List.length_drop];omega)
    rw[hh]at hW hN
    rw[<-htk]at hW
    generalize hv:eE ((s.drop a).head?==some 45) (cy ds)=v at *
    have h4:=fK s ((a+(sg+ds.length):Nat):Int) 0 w 4 (a:Int) b (cF L)
    rw[if_pos rfl,if_pos rfl]at h4
    by_cases h60:60<ds.length
    · rw [if_pos h60]
      have hI:=B0 s (a+(sg+ds.length)) a N v.2 (by omega) 4 (a:Int) b L hL
      have e1:(if v.2=true then(4:Int)else if (4:Int)=0 then 5 else 4)=4:=by split<;>rfl
      have e2:(if v.2=true then(a:Int)else if (4:Int)=0 then(a:Int) else(a:Int))=(a:Int):=by split<;>rfl
      rw[e1,e2]at hI
      have hgo:rk Tryz.prog aE (Task.at_ 92 1 [true,false,true,true] (sv 192 [(0,V.p 0 0),(2,V.d (D.i .i64 (a:Int))),(103,V.d (D.b false))]) [] [bo s ((a+sg:Nat):Int) 0 w b (cF L)])=
          some (.t [],[na s (a+(sg+ds.length)) 4 (a:Int) L ⟨2,[],N,0,a⟩]):=by
        rw[<-hI]
        unfold Gm
        unfold bo at hr htl h4⊢
        rw[lP,aY,aJ (a:=V.d (D.i .i64 ((a+sg:Nat):Int))) (by rfl),bj,bL,dz hr (by rfl) (by rfl),aJ (a:=V.d (D.i .i64 ((a+sg+ds.length:Nat):Int))) (by rfl),bj,bL,
          gB htl (by rfl) (by rfl),aJ (a:=V.d (D.s s)) (by rfl),bj,fU,aJ (a:=V.d (D.i .i64 ((a+(sg+ds.length):Nat):Int))) (by rfl),bj,bL,aH (by omega),aH (by omega),iL,
          hcut,vC hW,hwr,bf (by omega),dz h4 (by rfl) (by rfl),aA]
        rfl
      rw[hgo]
      exact j5 s a _ a 4 w (by decide) L _
    · rw [if_neg h60]
      have hI:=B0 s (a+(sg+ds.length)) a N v.2 (by omega) 0 w b L hL
      have hgo:rk Tryz.prog aE (Task.at_ 92 1 [true,false,true,true] (sv 192 [(0,V.p 0 0),(2,V.d (D.i .i64 (a:Int))),(103,V.d (D.b false))]) [] [bo s ((a+sg:Nat):Int) 0 w b (cF L)])=
          some (.t [],[na s (a+(sg+ds.length)) (if v.2=true then 0 else if (0:Int)=0 then 5 else 0) (if v.2=true then w else if (0:Int)=0 then(a:Int)else w) L ⟨2,[],N,0,a⟩]):=by
        rw[<-hI]
        unfold Gm
        unfold bo at hr htl⊢
        rw[lP,aY,aJ (a:=V.d (D.i .i64 ((a+sg:Nat):Int))) (by rfl),bj,bL,dz hr (by rfl) (by rfl),aJ (a:=V.d (D.i .i64 ((a+sg+ds.length:Nat):Int))) (by rfl),bj,bL,
          gB htl (by rfl) (by rfl),aJ (a:=V.d (D.s s)) (by rfl),bj,fU,aJ (a:=V.d (D.i .i64 ((a+(sg+ds.length):Nat):Int))) (by rfl),bj,bL,aH (by omega),aH (by omega),iL,
          hcut,vC hW,hwr,bc (by omega),aA]
        rfl
      rw[hgo]
      cases hv2:v.2 with
      |false=>exact j5 s a _ a 5 w (by decide) L _
      |true=>
        rw[hN hv2]
        exact p7 s a _ w L _
  · rw [if_neg hd]
    have hdd3:decide (fa≠0\/fb≠0)=true:=decide_eq_true (by omega)
    rw[hdd3]at htl
    generalize hn:sg+(ds.length+(fa+fb))=n at *
    have hps:=HL ((s.drop a).take n) (by rw[List.length_take,List.length_drop];omega)
    generalize dc ((s.drop a).take n)=p at *
    by_cases hp:p.2≠0
    · rw [if_pos hp]
      have hf:=fK s ((a+n:Nat):Int) 0 w p.2 (a:Int) b (cF L)
      rw[if_pos rfl,if_pos rfl]at hf
      have hI:=BX s (a+n) a p.1 (by omega) p.2 (a:Int) b L hL
      have hgo:rk Tryz.prog aE (Task.at_ 92 1 [true,false,true,true] (sv 192 [(0,V.p 0 0),(2,V.d (D.i .i64 (a:Int))),(103,V.d (D.b false))]) [] [bo s ((a+sg:Nat):Int) 0 w b (cF L)])=
          some (.t [],[na s (a+n) p.2 (a:Int) L ⟨3,[],0,p.1,a⟩]):=by
        rw[<-hI]
        unfold Gm
        unfold bo at hr htl hf⊢
        rw[lP,aY,aJ (a:=V.d (D.i .i64 ((a+sg:Nat):Int))) (by rfl),bj,bL,dz hr (by rfl) (by rfl),aJ (a:=V.d (D.i .i64 ((a+sg+ds.length:Nat):Int))) (by rfl),bj,bL,
          gB htl (by rfl) (by rfl),aJ (a:=V.d (D.s s)) (by rfl),bj,fU,aJ (a:=V.d (D.i .i64 ((a+n:Nat):Int))) (by rfl),bj,bL,aH (by omega),aH (by omega),jP,
          hcut,qG hps,jl hp,dz hf (by rfl) (by rfl),aA]
        rfl
      rw[hgo]
      exact j5 s a _ a p.2 w hp L _
    · rw [if_neg hp]
      have hp0:p.2=0:=by omega
      have hI:=BX s (a+n) a p.1 (by omega) 0 w b L hL
      have hgo:rk Tryz.prog aE (Task.at_ 92 1 [true,false,true,true] (sv 192 [(0,V.p 0 0),(2,V.d (D.i .i64 (a:Int))),(103,V.d (D.b false))]) [] [bo s ((a+sg:Nat):Int) 0 w b (cF L)])=
          some (.t [],[na s (a+n) 0 w L ⟨3,[],0,p.1,a⟩]):=by
        rw[<-hI]
        unfold Gm
        unfold bo at hr htl⊢
        rw[lP,aY,aJ (a:=V.d (D.i .i64 ((a+sg:Nat):Int))) (by rfl),bj,bL,dz hr (by rfl) (by rfl),aJ (a:=V.d (D.i .i64 ((a+sg+ds.length:Nat):Int))) (by rfl),bj,bL,
          gB htl (by rfl) (by rfl),aJ (a:=V.d (D.s s)) (by rfl),bj,fU,aJ (a:=V.d (D.i .i64 ((a+n:Nat):Int))) (by rfl),bj,bL,aH (by omega),aH (by omega),jP,
          hcut,qG hps,eM hp0,aA]
        rfl
      rw[hgo]
      exact p7 s a n w L _
end Go.Dn.Dec
namespace Go.Dn.Dec
open Go.Proofs
theorem HH(s:List UInt8)(a:Nat)(x w:Int)(b:Bool)(L:List Tok):
  jb s a w L (.inr (2,a)) (rk Tryz.prog aE (Task.at_ 92 1 [true,false,true,true] (sv 192 [(0,V.p 0 0),(2,V.d (D.i .i64 (a:Int))),(103,V.d (D.b true))]) [] [bo s x 0 w b (cF L)])):=by
 have hf:=fK s x 0 w 2 (a:Int) b (cF L)
 rw[if_pos rfl,if_pos rfl]at hf
 refine⟨by decide,x,b,L,?_⟩
 unfold bo at hf⊢
 rw[lP,bk,dz hf (by rfl) (by rfl),aD]
def yE(r:List UInt8)(sg a:Nat):Cz:=
 let u:=r.drop sg
 if u.takeWhile aG=[]/\cH u=0 then .inr (2,a)
 else
  let ds:=u.takeWhile aG
  let fa:=cH (u.drop ds.length)
  let fb:=dP (u.drop (ds.length+fa))
  let n:=sg+(ds.length+(fa+fb))
  if fa=0/\fb=0 then
   let v:=eE (r.head?==some 45) (cy ds)
   if 60<ds.length then .inr (4,a)
   else if v.2=false then .inr (5,a)
   else nX r n a ⟨2,[],v.1,0,a⟩
  else
   let p:=dc (r.take n)
   if p.2≠0 then .inr (p.2,a)else nX r n a ⟨3,[],0,p.1,a⟩
theorem wI(r:List UInt8)(a:Nat):wH r a=
  if fu r=0/\r.head?=some 48/\(r.drop 1).head?=some 120/\((r.drop 2).takeWhile cX)≠[]then wk r a else yE r (fu r) a:=rfl
theorem Fs(s:List UInt8)(a sg:Nat)(hs:s.length<=10000)(hsg:(s.drop a).take sg=[]\/(s.drop a).take sg=[43]\/(s.drop a).take sg=[45])(hsl:sg=((s.drop a).take sg).length)
  (ha:a+sg<=s.length) (w:Int) (b:Bool) (L:List Tok) (hL:L.length<=100000):
  jb s a w L (yE (s.drop a) sg a)
   (rk Tryz.prog aE (Task.at_ 92 1 [true,false,true,true] (sv 192 [(0,V.p 0 0),(2,V.d (D.i .i64 (a:Int))),(103,V.d (D.b (wD (s.drop (a+sg)))))]) [] [bo s ((a+sg:Nat):Int) 0 w b (cF L)])):=by
 cases h:wD (s.drop (a+sg)) with
 |true=>
  have:=(yy _).1 h
  unfold yE
  simp only
  rw[List.drop_drop,if_pos this]
  exact HH s a _ w b L
 |false=>
  have hn:¬((s.drop (a+sg)).takeWhile aG=[]/\cH (s.drop (a+sg))=0):=fun e=>by have:=(yy _).2 e;rw[h]at this;cases this
  have:=HG s a sg hs hsg hsl h ha w b L hL
  unfold yE
  simp only at this⊢
  rw[List.drop_drop,if_neg hn]
  exact this
theorem Jf(t:List UInt8)(k:Nat):cX (t.getD k 0)=true↔(t.drop k).takeWhile cX≠[]:=by
 have h0:cX 0=false:=by decide
 have hh:t.getD k 0=(t.drop k).getD 0 0:=by
  rw[List.getD_eq_getElem?_getD,List.getD_eq_getElem?_getD,List.getElem?_drop,Nat.add_zero]
 rw[hh]
 cases t.drop k with
 |nil=>simp[h0]
 |cons c q=>
  show cX c=true↔_
  rw[List.takeWhile_cons]
  cases cX c<;>simp
theorem Jg(s:List UInt8)(a y:Nat)(w:Int)(b:Bool)(L:List Tok)(T:Tok)(er ew:Int)(hy:y<=1000000)
  (h1:rk Tryz.prog aE (Task.call 140 [V.p 0 0,V.d (D.i .i64 (a:Int))] [bo s a 0 w b (cF L)])=some (.t [],[bo s (y:Int) er ew false (cF (L++[T]))])):
  rk Tryz.prog aE (Task.at_ 92 1 [true,true,true,false,true] (sv 192 [(0,V.p 0 0),(2,V.d (D.i .i64 (a:Int))),(77,V.d (D.b true))]) [] [bo s (a:Int) 0 w b (cF L)])=
   some (.t [],[na s y er ew L T]):=by
 have hb:=xv s y er ew false (cF (L++[T])) hy
 unfold na
 cases hB:nW s y with
 |true=>
  rw[hB,if_pos rfl]at hb
  rw[if_pos rfl]
  unfold bo at h1 hb⊢
  rw[nK,bk,dz h1 (by rfl) (by rfl),dz hb (by rfl) (by rfl),aD]
 |false=>
  rw[hB,if_neg (by decide)]at hb
  rw[if_neg (by decide)]
  unfold bo at h1 hb⊢
  rw[nK,bk,dz h1 (by rfl) (by rfl),dz hb (by rfl) (by rfl),aD]
theorem HJ(s:List UInt8)(a:Nat)(ha:a+2<=s.length)(hs:s.length<=10000)(w:Int)(b:Bool)(L:List Tok)(hL:L.length<=100000)(hne:((s.drop a).drop 2).takeWhile cX≠[]):
  jb s a w L (wk (s.drop a) a)
   (rk Tryz.prog aE (Task.at_ 92 1 [true,true,true,false,true] (sv 192 [(0,V.p 0 0),(2,V.d (D.i .i64 (a:Int))),(77,V.d (D.b true))]) [] [bo s (a:Int) 0 w b (cF L)])):=by
 rw[List.drop_drop]at hne
 obtain⟨T,h1,h2⟩:=Hm s a ha hs w b L hL hne
 have hle:=fe (s.drop (a+2)) cX
 rw[List.length_drop]at hle
 unfold wk
 rw[List.drop_drop]
 simp only at h1⊢
 generalize (s.drop (a+2)).takeWhile cX=h at *
 have hgo:=Jg s a (a+2+h.length) w b L T _ _ (by omega) h1
 rw[hgo]
 by_cases h16:16<h.length
 ·rw[if_pos h16,if_pos h16]
  exact j5 s a _ a 4 w (by decide) L T
 ·by_cases h63:2^63<=fN h
  ·rw[if_neg h16,if_pos h63,if_neg h16,if_pos h63]
   exact j5 s a _ a 5 w (by decide) L T
  ·rw[if_neg h16,if_neg h63,if_neg h16,if_neg h63,if_pos rfl,h2 h16 h63,Nat.add_assoc]
   exact p7 s a (2+h.length) w L _
theorem Fx(s:List UInt8)(a:Nat)(c:UInt8)(q:List UInt8)(hd:s.drop a=c::q)(hs:s.length<=10000)(w:Int)(b:Bool)(L:List Tok)(hL:L.length<=100000):
    jb s a w L (wH (s.drop a) a) (rk Tryz.prog aE (Task.call 92 [V.p 0 0] [bo s (a:Int) 0 w b (cF L)])):=by
  have hlen:(s.drop a).length=s.length-a:=List.length_drop ..
  rw[hd,List.length_cons]at hlen
  have g:bh s (a:Int)=some c:=by
    rw[bp]
    have:=congrArg List.head? hd
    rw[List.head?_drop]at this
    simpa using this
  have e43:((c.toNat:Int)==43)=(c==43):=bG c 43
  have xk:((c.toNat:Int)==45)=(c==45):=bG c 45
  have e48:((c.toNat:Int)==48)=(c==48):=bG c 48
  rw[wI]
  by_cases hsgn:c=43\/c=45
  · have hsg : fu (s.drop a) = 1 := by rw [hd]; exact if_pos hsgn
    rw[hsg,if_neg (by omega)]
    have ht:(s.drop a).take 1=[c]:=by rw[hd];rfl
    have hgo:rk Tryz.prog aE (Task.call 92 [V.p 0 0] [bo s (a:Int) 0 w b (cF L)])=
        rk Tryz.prog aE (Task.at_ 92 1 [true,false,true] (sv 192 [(0,V.p 0 0),(2,V.d (D.i .i64 (a:Int))),(42,V.d (D.b true))]) [] [bo s (a:Int) 0 w b (cF L)]):=by
      unfold bo
      rw[t47,aJ g,e43]
      rcases hsgn with rfl|rfl
      · rw[da (by rfl),aA]
      · rw[cj (by rfl),aJ g,xk,aA];rfl
    rw[hgo,HF s a (by omega) w b (cF L)]
    refine Fs s a 1 hs ?_ (by rw[ht];rfl) (by omega) w b L hL
    rw[ht]
    rcases hsgn with rfl|rfl
    · exact Or.inr (Or.inl rfl)
    · exact Or.inr (Or.inr rfl)
  · have hsg : fu (s.drop a) = 0 := by rw [hd]; exact if_neg hsgn
    have h43:(c==43)=false:=beq_eq_false_iff_ne.2 fun e=>hsgn (Or.inl e)
    have h45:(c==45)=false:=beq_eq_false_iff_ne.2 fun e=>hsgn (Or.inr e)
    have ht:(s.drop a).take 0=[]:=rfl
    rw[hsg]
    have hgo:rk Tryz.prog aE (Task.call 92 [V.p 0 0] [bo s (a:Int) 0 w b (cF L)])=
        rk Tryz.prog aE (Task.at_ 92 1 [true,false,true] (sv 192 [(0,V.p 0 0),(2,V.d (D.i .i64 (a:Int))),(42,V.d (D.b false))]) [] [bo s (a:Int) 0 w b (cF L)]):=by
      unfold bo
      rw[t47,aJ g,e43,cj h43,aJ g,xk,h45,aA]
    rw[hgo]
    have dec:∀bb:Bool,rk Tryz.prog aE (Task.at_ 92 1 [true,false,true] (sv 192 [(0,V.p 0 0),(2,V.d (D.i .i64 (a:Int))),(42,V.d (D.b false))]) [] [bo s (a:Int) 0 w b (cF L)])=
          rk Tryz.prog aE (Task.at_ 92 1 [true,true,true,false,true] (sv 192 [(0,V.p 0 0),(2,V.d (D.i .i64 (a:Int))),(77,V.d (D.b bb))]) [] [bo s (a:Int) 0 w b (cF L)])->
        (bb=true↔((s.drop a).head?=some 48/\((s.drop a).drop 1).head?=some 120/\(((s.drop a).drop 2).takeWhile cX)≠[]))->
        jb s a w L (if 0=0/\(s.drop a).head?=some 48/\((s.drop a).drop 1).head?=some 120/\(((s.drop a).drop 2).takeWhile cX)≠[]then wk (s.drop a) a else yE (s.drop a) 0 a)
          (rk Tryz.prog aE (Task.at_ 92 1 [true,false,true] (sv 192 [(0,V.p 0 0),(2,V.d (D.i .i64 (a:Int))),(42,V.d (D.b false))]) [] [bo s (a:Int) 0 w b (cF L)])):=by
      intro bb hg hb
      rw[hg]
      cases bb with
      |true=>
        have h:=hb.1 rfl
        rw[if_pos ⟨rfl,h⟩]
        refine HJ s a ?_ hs w b L hL h.2.2
        have h3:=h.2.2
        rcases Nat.lt_or_ge s.length (a+2)with hl|hl
        · rw[List.drop_drop,List.drop_eq_nil_of_le (by omega)]at h3;exact absurd rfl h3
        · exact hl
      |false=>
        rw[if_neg (fun h=>by have:=hb.2 h.2;cases this),HI s a a (by omega) w b (cF L)]
        exact Fs s a 0 hs (Or.inl ht) (by rw[ht];rfl) (by omega) w b L hL
    have hp1:rk Tryz.prog aE (Task.call 86 [V.p 0 0,V.d (D.i .i64 1)] [bo s (a:Int) 0 w b (cF L)])=_:=fR s a 1 0 w b (cF L) (by omega)
    have hp2:rk Tryz.prog aE (Task.call 86 [V.p 0 0,V.d (D.i .i64 2)] [bo s (a:Int) 0 w b (cF L)])=_:=fR s a 2 0 w b (cF L) (by omega)
    have hx:=Is ((s.drop a).getD 2 0)
    have e120:((((s.drop a).getD 1 0).toNat:Int)==120)=((s.drop a).getD 1 0==120):=bG _ 120
    have hh1:((s.drop a).drop 1).head?=some 120↔(s.drop a).getD 1 0=120:=by
      rw[List.head?_drop,List.getD_eq_getElem?_getD]
      cases h:(s.drop a)[1]? with
      |none=>simp
      |some d=>simp
    by_cases h48:c=48
    · have hh0 : (s.drop a).head? = some 48 := by rw [hd, h48]; rfl
      by_cases h120:(s.drop a).getD 1 0=120
      · refine dec (cX ((s.drop a).getD 2 0)) ?_ ?_
        · unfold bo at hp1 hp2 ⊢
          rw[oW,aY,aJ g,e48,da (by rw[h48];rfl),cr hp1 (by rfl) (by rfl),e120,da (beq_iff_eq.2 h120),cr hp2 (by rfl) (by rfl),dh hx,aA]
        · rw [Jf]
          exact⟨fun h=>⟨hh0,hh1.2 h120,h⟩,fun h=>h.2.2⟩
      · refine dec false ?_ ⟨fun h => (by cases h), fun h => absurd (hh1.1 h.2.1) h120⟩
        unfold bo at hp1⊢
        rw[oW,aY,aJ g,e48,da (by rw[h48];rfl),cr hp1 (by rfl) (by rfl),e120,cj (beq_eq_false_iff_ne.2 h120),aA]
    · refine dec false ?_ ⟨fun h => (by cases h), fun h => ?_⟩
      · unfold bo
        rw[oW,aY,aJ g,e48,cj (beq_eq_false_iff_ne.2 h48),aA]
      · rw [hd] at h
        exact absurd (Option.some.inj h.1) h48
end Go.Dn.Dec
namespace Go.Dn.Dec
open Go.Proofs
theorem BI:∀t:List UInt8,(cc [46,46] t).isSome=mw t
 | []=>rfl
 |c::r=>by
  have ih:=BI r
  have hp:([46,46]:List UInt8).isPrefixOf (c::r)=(c==46&&r.head?==some 46):=by
   cases r with
   |nil=>simp[List.isPrefixOf]
   |cons d r=>
    have e1:((46:UInt8)==c)=(c==46):=by rw[Bool.eq_iff_iff,beq_iff_eq,beq_iff_eq];exact eq_comm
    have e2:((46:UInt8)==d)=(some d==some (46:UInt8)):=by
     rw[Bool.eq_iff_iff,beq_iff_eq,beq_iff_eq]
     exact⟨fun h=>by rw[h],fun h=>(Option.some.inj h).symm⟩
    show ((46:UInt8)==c&&((46:UInt8)==d&&true))=_
    rw[Bool.and_true,e1,e2];rfl
  unfold cc mw
  rw[hp]
  cases h:(c==46&&r.head?==some 46) with
  |true=>rfl
  |false=>
   rw[if_neg (by decide),Bool.false_or,<-ih]
   cases cc [46,46] r<;>rfl
theorem Bg(t:List UInt8):([46]:List UInt8).isSuffixOf t=true↔t.getLast?=some 46:=by
 rw[List.isSuffixOf_iff_suffix]
 constructor
 ·rintro⟨p,rfl⟩
  simp
 ·intro h
  obtain⟨ne,he⟩:=List.getLast?_eq_some_iff.1 h
  exact⟨ne,he.symm⟩
theorem bad_eq(t:List UInt8):nV t=true↔(t.getLast?=some 46\/mw t=true):=by
 unfold nV
 rw[Bool.or_eq_true,Bg,BI]
theorem Ju(s:List UInt8)(a:Nat)(ha:a<=s.length)(hs:s.length<=10000)(w:Int)(b:Bool)(L:List Tok)(hL:L.length<=100000):
  jb s a w L (uP (s.drop a) a) (rk Tryz.prog aE (Task.call 90 [V.p 0 0] [bo s (a:Int) 0 w b (cF L)])):=by
 rw[Jt s a ha hs w b L hL]
 unfold uP
 simp only
 by_cases h1:120<((s.drop a).takeWhile du).length
 ·rw[if_pos h1,if_pos h1]
  exact⟨by decide,_,_,_,rfl⟩
 ·by_cases h2:nV ((s.drop a).takeWhile du)=true
  ·rw[if_neg h1,if_pos h2,if_neg h1,if_pos ((bad_eq _).1 h2)]
   exact⟨by decide,_,_,_,rfl⟩
  ·rw[if_neg h1,if_neg h2,if_neg h1,if_neg (fun h=>h2 ((bad_eq _).2 h)),if_pos rfl]
   rfl
theorem JS(s:List UInt8)(a:Nat)(c:UInt8)(q:List UInt8)(hd:s.drop a=c::q)(hs:s.length<=10000)(w:Int)(b:Bool)(L:List Tok)(hL:L.length<=100000):
  jb s a w L (qL c q a) (rk Tryz.prog aE (Task.call 93 [V.p 0 0] [bo s (a:Int) 0 w b (cF L)])):=by
 rw[JR s a c q hd hs w b L hL]
 unfold qL
 simp only
 split
 ·exact⟨by decide,_,_,_,rfl⟩
 ·rfl
theorem DL(c:UInt8):decide (mm (if eD.dropWhile (· != c)=[]then none else some (eD.takeWhile (· != c)).length) ≥ 0)=eD.contains c:=by
 have h:∀t:List UInt8,t.contains c=true↔t.dropWhile (· != c)≠[]:=by
  intro t
  induction t with
  |nil=>simp
  |cons d t ih=>
   rw[List.dropWhile_cons]
   by_cases h:d=c
   ·subst h;simp
   ·have h2:(d != c)=true:=bne_iff_ne.2 h
    rw[h2,if_pos rfl,<-ih]
    simp[Ne.symm h]
 have h0:=h eD
 by_cases hc:eD.dropWhile (· != c)=[]
 ·rw[if_pos hc]
  have:eD.contains c=false:=by
   cases e:eD.contains c with
   |false=>rfl
   |true=>exact absurd hc (h0.1 e)
  rw[this];rfl
 ·rw[if_neg hc,h0.2 hc]
  exact decide_eq_true (Int.natCast_nonneg _)
theorem DM(c:UInt8)(h:eD.contains c=true):(Utf8.encode (IntKind.i32.wrap (c.toNat:Int))).data.toList=[c]:=by
 have hm:c∈eD:=by simpa using h
 unfold eD at hm
 simp only[List.mem_cons,List.not_mem_nil,or_false]at hm
 rcases hm with rfl|rfl|rfl|rfl|rfl|rfl|rfl|rfl|rfl|rfl|rfl|rfl|rfl<;>decide
theorem JI(s:List UInt8)(a:Nat)(c:UInt8)(q:List UInt8)(hd:s.drop a=c::q)(hs:s.length<=10000)(w:Int)(b:Bool)(L:List Tok)(hL:L.length<=100000):
  jb s a w L (if eD.contains c=true then .inl (⟨5,[c],0,0,a⟩,1)else .inr (2,a))
   (rk Tryz.prog aE (Task.at_ 44 1 [true,true,true,true,true,false,true] (sv 85 [(0,V.p 0 0),(2,V.d (D.i .u8 (c.toNat:Int))),(45,V.d (D.b false))]) [] [bo s (a:Int) 0 w b (cF L)])):=by
 have hlen:(s.drop a).length=s.length-a:=List.length_drop ..
 rw[hd,List.length_cons]at hlen
 have hi:rk Tryz.prog aE (Task.call 85 [V.d (D.s [123,125,40,41,91,93,60,62,44,59,58,61,42]),V.d (D.i .u8 (c.toNat:Int))] [])=_:=nn eD c (by decide)
 have hx:=DL c
 cases hc:eD.contains c with
 |true=>
  rw[hc]at hx
  have hsn:=iP L ⟨5,[c],0,0,a⟩
  have hD:Tok.D ⟨5,[c],0,0,a⟩=D.g [D.i .i64 5,D.s [c],D.i .i64 0,D.i .u64 0,D.i .i64 (a:Int)]:=rfl
  rw[hD]at hsn
  have w1:IntKind.i64.wrap ((a:Int)+1)=((a+1:Nat):Int):=by rw[wrap_i64]<;>omega
  show _=_
  unfold bo
  rw[pW,aY,de hi,da hx,iO,ba,Bool.or_true,ba,aH (by rw[iu];omega),w1,DM c hc,hsn,Bool.and_false,aD]
 |false=>
  rw[hc]at hx
  have hf:=fK s (a:Int) 0 w 2 (a:Int) b (cF L)
  rw[if_pos rfl,if_pos rfl]at hf
  refine⟨by decide,(a:Int),b,L,?_⟩
  unfold bo at hf⊢
  rw[pW,aY,de hi,cj hx,dz hf (by rfl) (by rfl),aD]
theorem JZ(s:List UInt8)(a:Nat)(ha:a<s.length)(hs:s.length<=10000)(w:Int)(b:Bool)(L:List Tok)(hL:L.length<=100000):
  jb s a w L (jo (s.drop a) a) (rk Tryz.prog aE (Task.call 44 [V.p 0 0] [bo s (a:Int) 0 w b (cF L)])):=by
 have hlen:(s.drop a).length=s.length-a:=List.length_drop ..
 have hpass:∀(r:Cz) (k:Nat),jb s a w L r (rk Tryz.prog aE (Task.call k [V.p 0 0] [bo s (a:Int) 0 w b (cF L)]))->
   (∀cs:List V,cs.length=5->rk Tryz.prog aE (Task.call k [V.p 0 0] [bo s (a:Int) 0 w b (cF L)])=some (.t [],[.cells cs [(4,5)]])->
    rk Tryz.prog aE (Task.call 44 [V.p 0 0] [bo s (a:Int) 0 w b (cF L)])=some (.t [],[.cells cs [(4,5)]]))->
   jb s a w L r (rk Tryz.prog aE (Task.call 44 [V.p 0 0] [bo s (a:Int) 0 w b (cF L)])):=by
  intro r k hw hk
  match r,hw with
  | .inr (e,w'),⟨he,x,b',L',h⟩=>exact⟨he,x,b',L',hk _ rfl h⟩
  | .inl (t,n),h=>exact hk _ rfl h
 cases hd:s.drop a with
 |nil=>rw[hd,List.length_nil]at hlen;omega
 |cons c q=>
  have g:bh s (a:Int)=some c:=by
   rw[bp]
   have:=congrArg List.head? hd
   rw[List.head?_drop]at this
   simpa using this
  have e43:((c.toNat:Int)==43)=(c==43):=bG c 43
  have xk:((c.toNat:Int)==45)=(c==45):=bG c 45
  have om:((c.toNat:Int)==46)=(c==46):=bG c 46
  have e34:((c.toNat:Int)==34)=(c==34):=bG c 34
  have e39:((c.toNat:Int)==39)=(c==39):=bG c 39
  have hl:=sw c
  have hg:=gk c
  unfold jo
  simp only
  cases hlt:ns c with
  |true=>
   rw[if_pos rfl,<-hd]
   refine hpass _ 90 (Ju s a (by omega) hs w b L hL) ?_
   intro cs hcs h
   rw[hlt]at hl
   unfold bo at h⊢
   rw[t21,aJ g,dh hl,bk,dz h hcs (by rfl),aD]
  |false=>
   rw[if_neg (by decide)]
   rw[hlt]at hl
   have h61:rk Tryz.prog aE (Task.call 44 [V.p 0 0] [bo s (a:Int) 0 w b (cF L)])=
     rk Tryz.prog aE (Task.at_ 44 1 [true,true,true,false,true] (sv 85 [(0,V.p 0 0),(2,V.d (D.i .u8 (c.toNat:Int))),(28,V.d (D.b (aG c||(c==43||(c==45||c==46)))))]) [] [bo s (a:Int) 0 w b (cF L)]):=by
    unfold bo
    rw[t21,aJ g,dh hl,aY,dh hg]
    cases hgd:aG c with
    |true=>rw[bk,aA];rfl
    |false=>
     rw[aY,e43]
     cases h43:(c==43) with
     |true=>rw[bk,aA];rfl
     |false=>
      rw[aY,xk]
      cases h45:(c==45) with
      |true=>rw[bk,aA];rfl
      |false=>rw[aY,aA,om];rfl
   by_cases hn:aG c=true\/c=43\/c=45\/c=46
   ·rw[if_pos hn,<-hd]
    have hb:(aG c||(c==43||(c==45||c==46)))=true:=by simpa using hn
    rw[hb]at h61
    refine hpass _ 92 (Fx s a c q hd hs w b L hL) ?_
    intro cs hcs h
    rw[h61]
    unfold bo at h⊢
    rw[zz,bk,dz h hcs (by rfl),aD]
   ·rw[if_neg hn]
    have hb:(aG c||(c==43||(c==45||c==46)))=false:=by
     cases e:(aG c||(c==43||(c==45||c==46))) with
     |false=>rfl
     |true=>exact absurd (by simpa using e) hn
    rw[hb]at h61
    have h253:rk Tryz.prog aE (Task.call 44 [V.p 0 0] [bo s (a:Int) 0 w b (cF L)])=
      rk Tryz.prog aE (Task.at_ 44 1 [true,true,true,true,true,false,true] (sv 85 [(0,V.p 0 0),(2,V.d (D.i .u8 (c.toNat:Int))),(45,V.d (D.b (c==34||c==39)))]) [] [bo s (a:Int) 0 w b (cF L)]):=by
     rw[h61]
     unfold bo
     rw[zz,aY,e34]
     cases h34:(c==34) with
     |true=>rw[bk,aA];rfl
     |false=>rw[aY,aA,e39];rfl
    by_cases ht:c=34\/c=39
    ·rw[if_pos ht]
     have hb2:(c==34||c==39)=true:=by simpa using ht
     rw[hb2]at h253
     refine hpass _ 93 (JS s a c q hd hs w b L hL) ?_
     intro cs hcs h
     rw[h253]
     unfold bo at h⊢
     rw[pW,bk,dz h hcs (by rfl),aD]
    ·rw[if_neg ht]
     have hb2:(c==34||c==39)=false:=by
      cases e:(c==34||c==39) with
      |false=>rfl
      |true=>exact absurd (by simpa using e) ht
     rw[hb2]at h253
     rw[h253]
     exact JI s a c q hd hs w b L hL
end Go.Dn.Dec
namespace Go.Dn.Dec
open Go.Proofs
def wB(s:List UInt8)(o:Ob):Task:=Task.at_ 19 0 [false,false,false,false,false,true,true,true] (sv 72 [(0,V.d (D.s s)),(5,V.p 0 0)]) [] [o]
def gm(r:Lh):Out:=(.t [.d (.l r.1.isEmpty (cF r.1)),.d (.i .i64 r.2.1),.d (.i .i64 (r.2.2:Int))],[])
theorem JJ(s:List UInt8)(a a':Nat)(w:Int)(b:Bool)(l:List D)(h:rk Tryz.prog aE (Task.call 43 [V.p 0 0] [bo s (a:Int) 0 w b l])=some (.d (.b true),[bo s (a':Int) 0 w b l])):
  rk Tryz.prog aE (wB s (bo s (a:Int) 0 w b l))=rk Tryz.prog aE (wB s (bo s (a':Int) 0 w b l)):=by
 unfold wB
 unfold bo at h⊢
 rw[jR,gB h (by rfl) (by rfl),bk,aA]
theorem F3(s:List UInt8)(a w':Nat)(x w:Int)(b:Bool)(l:List D)(h:rk Tryz.prog aE (Task.call 43 [V.p 0 0] [bo s (a:Int) 0 w b l])=some (.d (.b false),[bo s x 2 (w':Int) b l])):
  rk Tryz.prog aE (wB s (bo s (a:Int) 0 w b l))=some (gm ([],2,w')):=by
 unfold wB
 unfold bo at h⊢
 rw[jR,gB h (by rfl) (by rfl),aY,aJ (a:=V.d (D.i .i64 2)) (by rfl),bj,bL,jl (by decide),aJ (a:=V.d (D.i .i64 2)) (by rfl),bj,bL,
  aJ (a:=V.d (D.i .i64 (w':Int))) (by rfl),bj,bL,aD]
 rfl
theorem Hs(s:List UInt8)(a:Nat)(ha:s.length<=a)(w:Int)(b:Bool)(L:List Tok)(hL:L.length<=100000)
  (h:rk Tryz.prog aE (Task.call 43 [V.p 0 0] [bo s (a:Int) 0 w b (cF L)])=some (.d (.b false),[bo s (a:Int) 0 w b (cF L)])):
  rk Tryz.prog aE (wB s (bo s (a:Int) 0 w b (cF L)))=some (gm (L++[⟨6,[],0,0,s.length⟩],0,0)):=by
 have hsn:=iP L ⟨6,[],0,0,s.length⟩
 have hD:Tok.D ⟨6,[],0,0,s.length⟩=D.g [D.i .i64 6,D.s [],D.i .i64 0,D.i .u64 0,D.i .i64 (s.length:Int)]:=rfl
 rw[hD]at hsn
 have hemp:(L++[(⟨6,[],0,0,s.length⟩:Tok)]).isEmpty=false:=by cases L<;>rfl
 unfold gm
 simp only
 rw[hemp]
 unfold wB
 unfold bo at h⊢
 rw[jR,gB h (by rfl) (by rfl),aY,aJ (a:=V.d (D.i .i64 0)) (by rfl),bj,bL,eM rfl,aJ (a:=V.d (D.i .i64 (a:Int))) (by rfl),bj,bL,
  aJ (a:=V.d (D.s s)) (by rfl),bj,fU,bf (by omega),aJ (a:=V.d (D.l b (cF L))) (by rfl)]
 show aC (rk Tryz.prog aE) (aW (V.d (D.l b (cF L))) _)=_
 rw[bj,ed,iO,ba,Bool.or_true,ba,aH (by rw[iu];omega),aD,Bool.and_false,hsn]
 rfl
theorem E5(s:List UInt8)(a:Nat)(ha:a<s.length)(hs:s.length<=10000)(w:Int)(b:Bool)(L:List Tok)(hL:L.length<=100000)
  (h:rk Tryz.prog aE (Task.call 43 [V.p 0 0] [bo s (a:Int) 0 w b (cF L)])=some (.d (.b false),[bo s (a:Int) 0 w b (cF L)])):
  match jo (s.drop a) a with
  | .inr (e,w')=>rk Tryz.prog aE (wB s (bo s (a:Int) 0 w b (cF L)))=some (gm ([],e,w'))
  | .inl (t,n)=>rk Tryz.prog aE (wB s (bo s (a:Int) 0 w b (cF L)))=rk Tryz.prog aE (wB s (bo s ((a+n:Nat):Int) 0 w false (cF (L++[t])))):=by
 have hw:=JZ s a ha hs w b L hL
 generalize jo (s.drop a) a=W at *
 match W,hw with
 | .inr (e,w'),⟨he,x,b',L',hw⟩=>
  simp only
  unfold wB
  unfold bo at h hw⊢
  rw[jR,gB h (by rfl) (by rfl),aY,aJ (a:=V.d (D.i .i64 0)) (by rfl),bj,bL,eM rfl,aJ (a:=V.d (D.i .i64 (a:Int))) (by rfl),bj,bL,
   aJ (a:=V.d (D.s s)) (by rfl),bj,fU,bc (by omega),dz hw (by rfl) (by rfl),aJ (a:=V.d (D.i .i64 e)) (by rfl),bj,bL,jl he,
   aJ (a:=V.d (D.i .i64 e)) (by rfl),bj,bL,aJ (a:=V.d (D.i .i64 (w':Int))) (by rfl),bj,bL,aD]
  rfl
 | .inl (t,n),hw=>
  have hw:rk Tryz.prog aE (Task.call 44 [V.p 0 0] [bo s (a:Int) 0 w b (cF L)])=some (.t [],[bo s ((a+n:Nat):Int) 0 w false (cF (L++[t]))]):=hw
  simp only
  unfold wB
  unfold bo at h hw⊢
  rw[jR,gB h (by rfl) (by rfl),aY,aJ (a:=V.d (D.i .i64 0)) (by rfl),bj,bL,eM rfl,aJ (a:=V.d (D.i .i64 (a:Int))) (by rfl),bj,bL,
   aJ (a:=V.d (D.s s)) (by rfl),bj,fU,bc (by omega),dz hw (by rfl) (by rfl),aJ (a:=V.d (D.i .i64 0)) (by rfl),bj,bL,eM rfl,aA,zw,aA]
theorem F4(s:List UInt8)(a:Nat)(hs:s.length<=10000)(w:Int)(b:Bool)(l:List D):∀(f k:Nat),s.length<=a+k+f->a+k<=s.length->
  match gv f (s.drop (a+k)) k with
  |(k',false)=>rk Tryz.prog aE (wB s (bo s ((a+k:Nat):Int) 0 w b l))=some (gm ([],2,a+k'))
  |(k',true)=>rk Tryz.prog aE (wB s (bo s ((a+k:Nat):Int) 0 w b l))=rk Tryz.prog aE (wB s (bo s ((a+k':Nat):Int) 0 w b l))/\
    rk Tryz.prog aE (Task.call 43 [V.p 0 0] [bo s ((a+k':Nat):Int) 0 w b l])=some (.d (.b false),[bo s ((a+k':Nat):Int) 0 w b l])
 |0,k,hf,hk=>by
  have hp:=B5 s (a+k) hk hs w b l
  unfold wO at hp
  rw[List.drop_eq_nil_of_le (by omega)]at hp
  exact⟨rfl,hp⟩
 |f+1,k,hf,hk=>by
  have hp:=B5 s (a+k) hk hs w b l
  have hlen:(s.drop (a+k)).length=s.length-(a+k):=List.length_drop ..
  unfold wO at hp
  unfold gv
  cases hd:s.drop (a+k) with
  |nil=>
   rw[hd]at hp
   exact⟨rfl,hp⟩
  |cons c q=>
   have hln:=(lE (s.drop (a+k))).1
   have hln1:=(lE (s.drop (a+k))).2 (by rw[hd];simp)
   rw[hd]at hp hln hln1
   rw[hd,List.length_cons]at hlen
   rw[List.length_cons]at hln
   simp only at hp⊢
   have nxt:∀m:Nat,1<=m->a+k+m<=s.length->rk Tryz.prog aE (Task.call 43 [V.p 0 0] [bo s ((a+k:Nat):Int) 0 w b l])=some (.d (.b true),[bo s ((a+k+m:Nat):Int) 0 w b l])->
     match gv f ((c::q).drop m) (k+m) with
     |(k',false)=>rk Tryz.prog aE (wB s (bo s ((a+k:Nat):Int) 0 w b l))=some (gm ([],2,a+k'))
     |(k',true)=>rk Tryz.prog aE (wB s (bo s ((a+k:Nat):Int) 0 w b l))=rk Tryz.prog aE (wB s (bo s ((a+k':Nat):Int) 0 w b l))/\
       rk Tryz.prog aE (Task.call 43 [V.p 0 0] [bo s ((a+k':Nat):Int) 0 w b l])=some (.d (.b false),[bo s ((a+k':Nat):Int) 0 w b l]):=by
    intro m h1 h2 h3
    have ih:=F4 s a hs w b l f (k+m) (by omega) (by omega)
    rw[JJ s (a+k) (a+k+m) w b l h3]
    rw[<-hd,List.drop_drop,Nat.add_assoc]
    exact ih
   by_cases h1:Ea c=true
   ·rw[if_pos h1]at hp⊢
    exact nxt 1 (by omega) (by omega) hp
   ·rw[if_neg h1]at hp⊢
    by_cases h2:c=35\/(c=47/\q.head?=some 47)
    ·rw[if_pos h2]at hp⊢
     exact nxt _ hln1 (by omega) hp
    ·rw[if_neg h2]at hp⊢
     by_cases h3:c=47/\q.head?=some 42
     ·rw[if_pos h3]at hp⊢
      cases he:mZ (q.drop 1) with
      |none=>
       rw[he]at hp
       exact F3 s (a+k) (a+k) _ w b l hp
      |some n=>
       rw[he]at hp
       have hn:=qY _ _ he
       rw[List.length_drop]at hn
       have hq1:1<=q.length:=by
        cases q with
        |nil=>exact absurd h3.2 (by simp)
        |cons d q=>rw[List.length_cons];omega
       exact nxt (2+n) (by omega) (by omega) hp
     ·rw[if_neg h3]at hp⊢
      exact⟨rfl,hp⟩
theorem yo(s:List UInt8)(hs:s.length<=10000)(w:Int):∀(f a:Nat) (b:Bool) (L:List Tok),s.length-a<f->a<=s.length->L.length<=a->
  rk Tryz.prog aE (wB s (bo s (a:Int) 0 w b (cF L)))=some (gm (wy f (s.drop a) a L))
 |0,a,b,L,h,_,_=>by omega
 |f+1,a,b,L,h,ha,hL=>by
  have hlen:(s.drop a).length=s.length-a:=List.length_drop ..
  have hk:=mh (s.drop a).length (s.drop a) 0
  have hsk:=F4 s a hs w b (cF L) (s.drop a).length 0 (by omega) (by omega)
  unfold wy
  rw[Nat.add_zero]at hsk
  generalize gv (s.drop a).length (s.drop a) 0=K at *
  obtain⟨k,bb⟩:=K
  simp only at hk
  cases bb with
  |false=>exact hsk
  |true=>
   simp only at hsk⊢
   rw[hsk.1]
   by_cases he:(s.drop a).length<=k
   ·rw[if_pos he]
    have e1:a+(s.drop a).length=s.length:=by omega
    rw[e1]
    exact Hs s (a+k) (by omega) w b L (by omega) hsk.2
   ·rw[if_neg he]
    have hw:=E5 s (a+k) (by omega) hs w b L (by omega) hsk.2
    have hok:=xb (s.drop (a+k)) (a+k)
    rw[List.drop_drop]
    generalize jo (s.drop (a+k)) (a+k)=W at *
    match W,hw,hok with
    | .inr (e,w'),hw,hok=>exact hw
    | .inl (t,n),hw,hok=>
     simp only at hw⊢
     obtain⟨-,h1,h2,-⟩:=hok
     rw[List.length_drop]at h2
     rw[hw,List.drop_drop,<-Nat.add_assoc]
     exact yo s hs w f (a+k+n) false (L++[t]) (by omega) (by omega) (by rw[List.length_append,List.length_singleton];omega)
theorem E4(s:List UInt8):rk Tryz.prog aE (Task.call 19 [V.d (D.s s)] [])=some (gm (lexB s)):=by
 unfold lexB
 by_cases h:2000<s.length
 ·rw[t10,bf (by omega),aD,if_pos h]
  rfl
 ·rw[t10,bc (by omega),aA,if_neg h,zw,aA]
  have:=yo s (by omega) 0 (s.length+1) 0 true [] (by omega) (by omega) (by simp)
  exact this
end Go.Dn.Dec
namespace Go.Dn.Dec
open Go.Proofs
theorem Ms(c:Int):rk Tryz.prog aE (.call 96 [.d (.i .u8 c)] [])=aC (rk Tryz.prog aE) (aT (decide (c ≥ 97)) (aT (decide (c<=122)) (.ret (vb true,[])) (aT (decide (c ≥ 65)) (aT (decide (c<=90)) (.ret (vb true,[])) (.ret (vb (c==95),[]))) (.ret (vb (c==95),[])))) (aT (decide (c ≥ 65)) (aT (decide (c<=90)) (.ret (vb true,[])) (.ret (vb (c==95),[]))) (.ret (vb (c==95),[])))):=
 aF (by kernel_rfl)
theorem Mu(c:Int):rk Tryz.prog aE (.call 98 [.d (.i .u8 c)] [])=aC (rk Tryz.prog aE) (aT (decide (c ≥ 48)) (.ret (vb (decide (c<=57)),[])) (.ret (vb false,[]))):=
 aF (by kernel_rfl)
theorem Lt(c:Int):rk Tryz.prog aE (.call 145 [.d (.i .u8 c)] [])=aC (rk Tryz.prog aE) (cV (.call 98 [.d (.i .u8 c)] []) fun a=>aW a fun e=>dQ e fun f=>aT f (.ret (vi (IntKind.i64.wrap (IntKind.u8.wrap (c-48))),[])) (aT (decide (c ≥ 97)) (.call (.at_ 145 0 [true,true,true,false,false,true] (sv 31 [(0,.d (.i .u8 c)),(9,vb (decide (c<=102)))]) [] []) .ret) (.call (.at_ 145 0 [true,true,true,false,false,true] (sv 31 [(0,.d (.i .u8 c)),(9,vb false)]) [] []) .ret))):=
 aF (by kernel_rfl)
theorem Mr(s:List UInt8)(a:Int)(t:List UInt8):rk Tryz.prog aE (.call 94 [vs s,vi a,vs t] [])=aC (rk Tryz.prog aE) (aT (decide (IntKind.i64.wrap (a+(t.length:Int))<=(s.length:Int))) (aM (decide (0<=IntKind.i64.wrap (a+(t.length:Int))/\IntKind.i64.wrap (a+(t.length:Int))<=(s.length:Int))) (aM (decide (0<=a/\a<=((IntKind.i64.wrap (a+(t.length:Int))).toNat:Int))) (.ret (vb (List.take ((IntKind.i64.wrap (a+(t.length:Int))).toNat-a.toNat) (List.drop a.toNat s)==t),[])))) (.ret (vb false,[]))):=
 aF (by kernel_rfl)
theorem I7(n m:Int)(s:List UInt8)(i e a:Int):rk Tryz.prog aE (.call 95 [.p 0 0,vi n,vi m] [.cells [vs s,vi i,vi e,vi a] []])=aC (rk Tryz.prog aE) (.ret (.t [],[.cells [vs s,vi i,vi n,vi m] []])):=
 aF (by kernel_rfl)
theorem Lv(s:List UInt8)(i e a:Int):rk Tryz.prog aE (.call 147 [.p 0 0] [.cells [vs s,vi i,vi e,vi a] []])=aC (rk Tryz.prog aE) (.call (.at_ 147 1 [false,false,true,true] (sv 43 [(0,.p 0 0),(3,vi i)]) [] [.cells [vs s,vi i,vi e,vi a] []]) .ret):=
 aF (by kernel_rfl)
theorem Lw(n:Int)(s:List UInt8)(i e a:Int):rk Tryz.prog aE (.call 148 [.p 0 0,vi n] [.cells [vs s,vi i,vi e,vi a] []])=aC (rk Tryz.prog aE) (aT (decide (IntKind.i64.wrap (i+n)<(s.length:Int))) (ob (bh s (IntKind.i64.wrap (i+n))) fun c=>cV (.call 98 [.d (.i .u8 (c.toNat:Int))] []) fun f=>aW f fun g=>dQ g fun h => .ret (vb h,[.cells [vs s,vi i,vi e,vi a] []])) (.ret (vb false,[.cells [vs s,vi i,vi e,vi a] []]))):=
 aF (by kernel_rfl)
theorem xk(s:List UInt8)(i e a:Int):rk Tryz.prog aE (.call 45 [.p 0 0] [.cells [vs s,vi i,vi e,vi a] []])=aC (rk Tryz.prog aE) (.call (.at_ 45 1 [false] (sv 146 [(0,.p 0 0)]) [] [.cells [vs s,vi i,vi e,vi a] []]) .ret):=
 aF (by kernel_rfl)
theorem Mt(s:List UInt8)(i e a:Int):rk Tryz.prog aE (.call 97 [.p 0 0] [.cells [vs s,vi i,vi e,vi a] []])=aC (rk Tryz.prog aE) (.call (.at_ 97 1 [false,false,true,true] (sv 110 [(0,.p 0 0),(2,.p 1 0),(3,vi i)]) [] [.cells [vi 0,vs [],vi 0,vu 0,vi 0] [],.cells [vs s,vi i,vi e,vi a] []]) .ret):=
 aF (by kernel_rfl)
theorem I6(k:Int)(t:List UInt8)(n d b m:Int)(s:List UInt8)(i e a:Int):rk Tryz.prog aE (.call 151 [.p 0 0,.d (.g [.i .i64 k,.s t,.i .i64 n,.i .u64 d,.i .i64 b]),vi m] [.cells [vs s,vi i,vi e,vi a] []])=aC (rk Tryz.prog aE) (aT (m != 0) (c1 (.call 95 [.p 0 0,vi m,vi b] [.cells [vs s,vi i,vi e,vi a] []]) 4 [] fun c f=>dY c fun h=>aM (h.length==0) (.ret (.d (.g [.i .i64 k,.s t,.i .i64 n,.i .u64 d,.i .i64 b]),[.cells f []]))) (aT (decide (i<(s.length:Int))) (ob (bh s i) fun j=>cV (.call 96 [.d (.i .u8 (j.toNat:Int))] []) fun l=>aW l fun o=>dQ o fun q=>aT q (.call (.at_ 151 1 [true,true,true,false,true] (sv 55 [(0,.p 0 0),(4,.p 1 0),(6,.p 2 0),(47,vb true)]) [] [.cells [vi 0,vs [],vi 0,vu 0,vi 0] [],.cells [vi k,vs t,vi n,vu d,vi b] [],.cells [vs s,vi i,vi e,vi a] []]) .ret) (ob (bh s i) fun r => .call (.at_ 151 1 [true,true,true,false,true] (sv 55 [(0,.p 0 0),(4,.p 1 0),(6,.p 2 0),(47,vb ((r.toNat:Int)==46))]) [] [.cells [vi 0,vs [],vi 0,vu 0,vi 0] [],.cells [vi k,vs t,vi n,vu d,vi b] [],.cells [vs s,vi i,vi e,vi a] []]) .ret)) (.call (.at_ 151 1 [true,true,true,false,true] (sv 55 [(0,.p 0 0),(4,.p 1 0),(6,.p 2 0),(47,vb false)]) [] [.cells [vi 0,vs [],vi 0,vu 0,vi 0] [],.cells [vi k,vs t,vi n,vu d,vi b] [],.cells [vs s,vi i,vi e,vi a] []]) .ret))):=
 aF (by kernel_rfl)
theorem Lu(s:List UInt8)(i e a:Int):rk Tryz.prog aE (.call 146 [.p 0 0] [.cells [vs s,vi i,vi e,vi a] []])=aC (rk Tryz.prog aE) (.call (.at_ 146 1 [false,false,true,true,true,true,true] (sv 84 [(0,.p 0 0),(2,.p 1 0),(3,.p 2 0),(4,vi (IntKind.i64.wrap (i+2))),(5,vu 0)]) [] [.cells [vi 2,vs [],vi 0,vu 0,vi i] [],.cells [vi 0,vs [],vi 0,vu 0,vi 0] [],.cells [vs s,vi (IntKind.i64.wrap (i+2)),vi e,vi a] []]) .ret):=
 aF (by kernel_rfl)
theorem I5(s:List UInt8):rk Tryz.prog aE (.call 149 [vs s] [])=aC (rk Tryz.prog aE) (ob (bh s 0) fun a=>aT ((a.toNat:Int)==45) (.call (.at_ 149 0 [true,false,true,true] (sv 56 [(0,vs s),(4,vb ((a.toNat:Int)==45)),(16,vb true)]) [] []) .ret) (ob (bh s 0) fun c => .call (.at_ 149 0 [true,false,true,true] (sv 56 [(0,vs s),(4,vb ((a.toNat:Int)==45)),(16,vb ((c.toNat:Int)==43))]) [] []) .ret)):=
 aF (by kernel_rfl)
theorem Lx(s:List UInt8)(i e a:Int):rk Tryz.prog aE (.call 99 [.p 0 0] [.cells [vs s,vi i,vi e,vi a] []])=aC (rk Tryz.prog aE) (cV (.call 94 [vs s,vi i,vs [48,120]] []) fun c=>aW c fun f=>dQ f fun g=>aT g (aT (decide (IntKind.i64.wrap (i+2)<(s.length:Int))) (ob (bh s (IntKind.i64.wrap (i+2))) fun h=>cV (.call 145 [.d (.i .u8 (h.toNat:Int))] []) fun j=>aW j fun k=>bD .i64 k fun l => .call (.at_ 99 1 [true,false,true,true] (sv 242 [(0,.p 0 0),(2,.p 1 0),(3,vi i),(38,vb (decide (l ≥ 0)))]) [] [.cells [vi 0,vs [],vi 0,vu 0,vi 0] [],.cells [vs s,vi i,vi e,vi a] []]) .ret) (.call (.at_ 99 1 [true,false,true,true] (sv 242 [(0,.p 0 0),(2,.p 1 0),(3,vi i),(38,vb false)]) [] [.cells [vi 0,vs [],vi 0,vu 0,vi 0] [],.cells [vs s,vi i,vi e,vi a] []]) .ret)) (.call (.at_ 99 1 [true,false,true,true] (sv 242 [(0,.p 0 0),(2,.p 1 0),(3,vi i),(38,vb false)]) [] [.cells [vi 0,vs [],vi 0,vu 0,vi 0] [],.cells [vs s,vi i,vi e,vi a] []]) .ret)):=
 aF (by kernel_rfl)
theorem om(s:List UInt8)(i e a:Int):rk Tryz.prog aE (.call 46 [.p 0 0] [.cells [vs s,vi i,vi e,vi a] []])=aC (rk Tryz.prog aE) (aT (i==(s.length:Int)) (.ret (.d (.g [.i .i64 6,.s [],.i .i64 0,.i .u64 0,.i .i64 i]),[.cells [vs s,vi i,vi e,vi a] []])) (ob (bh s i) fun b=>aT (decide (IntKind.i64.wrap (i+1)<(s.length:Int))) (ob (bh s (IntKind.i64.wrap (i+1))) fun c => .call (.at_ 46 1 [true,true,true,true,true,true] (sv 194 [(0,.p 0 0),(2,.p 1 0),(3,vi i),(4,.d (.i .u8 (b.toNat:Int))),(5,.d (.i .u8 (c.toNat:Int)))]) [] [.cells [vi 0,vs [],vi 0,vu 0,vi 0] [],.cells [vs s,vi i,vi e,vi a] []]) .ret) (.call (.at_ 46 1 [true,true,true,true,true,true] (sv 194 [(0,.p 0 0),(2,.p 1 0),(3,vi i),(4,.d (.i .u8 (b.toNat:Int))),(5,.d (.i .u8 0))]) [] [.cells [vi 0,vs [],vi 0,vu 0,vi 0] [],.cells [vs s,vi i,vi e,vi a] []]) .ret))):=
 aF (by kernel_rfl)
theorem Me(s:List UInt8):rk Tryz.prog aE (.call 20 [vs s] [])=aC (rk Tryz.prog aE) (aT (decide ((s.length:Int)>2000)) (.ret (.t [vl true [],vi 4,vi 0],[])) (.call (.at_ 20 0 [false,true,true,true,true] (sv 52 [(5,.p 0 0),(6,vl true [])]) [(6,5)] [.cells [vs s,vi 0,vi 0,vi 0] []]) .ret)):=
 aF (by kernel_rfl)
theorem Mq(b:Bool)(xs:List D)(c:Bool)(ys:List D):rk Tryz.prog aE (.call 21 [vl b xs,vl c ys] [])=aC (rk Tryz.prog aE) (aT ((xs.length:Int) != (ys.length:Int)) (.ret (vb false,[])) (.call (.at_ 21 0 [false,true,false,true,true] (sv 26 [(0,vl b xs),(1,vl c ys),(5,vi 0)]) [] []) .ret)):=
 aF (by kernel_rfl)
theorem e6(s:List UInt8):rk Tryz.prog aE (.call 6 [vs s] [])=aC (rk Tryz.prog aE) (cV (.call 18 [] []) fun a=>aW a fun c=>dQ c fun e=>aT (!e) (.ret (vb false,[])) (aT (decide ((s.length:Int)>300)) (.ret (vb true,[])) (cV (.call 19 [vs s] []) fun f=>dY f fun g=>aM (g.length==3) (aW (g.getD 0 (vb false)) fun h=>dZ h fun i j=>aW (g.getD 1 (vb false)) fun k=>bD .i64 k fun m=>aW (g.getD 2 (vb false)) fun n=>bD .i64 n fun o=>cV (.call 20 [vs s] []) fun p=>dY p fun q=>aM (q.length==3) (aW (q.getD 0 (vb false)) fun r=>dZ r fun t zu=>aW (q.getD 1 (vb false)) fun v=>bD .i64 v fun w=>aW (q.getD 2 (vb false)) fun x=>bD .i64 x fun y=>aT (m==w) (aT (o==y) (cV (.call 21 [vl i j,vl t zu] []) fun z=>aW z fun a0=>dQ a0 fun a1 => .ret (vb a1,[])) (.ret (vb false,[]))) (.ret (vb false,[]))))))):=
 aF (by kernel_rfl)
theorem rO(n_0:Int)(b_1:Bool):rk Tryz.prog aE (.at_ 145 0 [true,true,true,false,false,true] (sv 31 [(0,.d (.i .u8 n_0)),(9,vb b_1)]) [] [])=aC (rk Tryz.prog aE) (aT b_1 (.ret (vi (IntKind.i64.wrap (IntKind.i64.wrap (IntKind.u8.wrap (n_0-97))+10)),[])) (aT (decide (n_0 ≥ 65)) (.call (.at_ 145 0 [true,true,true,true,true,false,false,true] (sv 31 [(0,.d (.i .u8 n_0)),(20,vb (decide (n_0<=70)))]) [] []) .ret) (.call (.at_ 145 0 [true,true,true,true,true,false,false,true] (sv 31 [(0,.d (.i .u8 n_0)),(20,vb false)]) [] []) .ret))):=
 aF (by kernel_rfl)
theorem ug(n_0:Int)(l_1:List UInt8)(n_2 n_3 n_4:Int):rk Tryz.prog aE (.at_ 147 1 [false,false,true,true] (sv 43 [(0,.p 0 0),(3,vi n_0)]) [] [.cells [vs l_1,vi n_2,vi n_3,vi n_4] []])=aC (rk Tryz.prog aE) (aT (decide (n_2<(l_1.length:Int))) (ob (bh l_1 n_2) fun a=>cV (.call 98 [.d (.i .u8 (a.toNat:Int))] []) fun c=>aW c fun e=>dQ e fun f => .call (.at_ 147 1 [true,false,false,false,false,true,true] (sv 43 [(0,.p 0 0),(3,vi n_0),(29,vb f)]) [] [.cells [vs l_1,vi n_2,vi n_3,vi n_4] []]) .ret) (.call (.at_ 147 1 [true,false,false,false,false,true,true] (sv 43 [(0,.p 0 0),(3,vi n_0),(29,vb false)]) [] [.cells [vs l_1,vi n_2,vi n_3,vi n_4] []]) .ret)):=
 aF (by kernel_rfl)
theorem vU(l_0:List UInt8)(n_1 n_2 n_3:Int):rk Tryz.prog aE (.at_ 45 1 [false] (sv 146 [(0,.p 0 0)]) [] [.cells [vs l_0,vi n_1,vi n_2,vi n_3] []])=aC (rk Tryz.prog aE) (aT (decide (n_1<(l_0.length:Int))) (.call (.at_ 45 1 [true,false,false,false] (sv 146 [(0,.p 0 0),(20,vb (n_2==0))]) [] [.cells [vs l_0,vi n_1,vi n_2,vi n_3] []]) .ret) (.call (.at_ 45 1 [true,false,false,false] (sv 146 [(0,.p 0 0),(20,vb false)]) [] [.cells [vs l_0,vi n_1,vi n_2,vi n_3] []]) .ret)):=
 aF (by kernel_rfl)
theorem xM(n_0 n_1:Int)(l_2:List UInt8)(n_3 n_4 n_5:Int)(l_6:List UInt8)(n_7 n_8 n_9:Int):rk Tryz.prog aE (.at_ 97 1 [false,false,true,true] (sv 110 [(0,.p 0 0),(2,.p 1 0),(3,vi n_0)]) [] [.cells [vi n_1,vs l_2,vi n_3,vu n_4,vi n_5] [],.cells [vs l_6,vi n_7,vi n_8,vi n_9] []])=aC (rk Tryz.prog aE) (aT (decide (n_7<(l_6.length:Int))) (ob (bh l_6 n_7) fun a=>cV (.call 96 [.d (.i .u8 (a.toNat:Int))] []) fun c=>aW c fun e=>dQ e fun f=>aT f (.call (.at_ 97 1 [true,false,false,false,false,true,true] (sv 110 [(0,.p 0 0),(2,.p 1 0),(3,vi n_0),(55,vb true)]) [] [.cells [vi n_1,vs l_2,vi n_3,vu n_4,vi n_5] [],.cells [vs l_6,vi n_7,vi n_8,vi n_9] []]) .ret) (ob (bh l_6 n_7) fun g=>cV (.call 98 [.d (.i .u8 (g.toNat:Int))] []) fun h=>aW h fun j=>dQ j fun k=>aT k (.call (.at_ 97 1 [true,false,false,false,false,true,true] (sv 110 [(0,.p 0 0),(2,.p 1 0),(3,vi n_0),(55,vb true)]) [] [.cells [vi n_1,vs l_2,vi n_3,vu n_4,vi n_5] [],.cells [vs l_6,vi n_7,vi n_8,vi n_9] []]) .ret) (ob (bh l_6 n_7) fun l => .call (.at_ 97 1 [true,false,false,false,false,true,true] (sv 110 [(0,.p 0 0),(2,.p 1 0),(3,vi n_0),(55,vb ((l.toNat:Int)==46))]) [] [.cells [vi n_1,vs l_2,vi n_3,vu n_4,vi n_5] [],.cells [vs l_6,vi n_7,vi n_8,vi n_9] []]) .ret))) (.call (.at_ 97 1 [true,false,false,false,false,true,true] (sv 110 [(0,.p 0 0),(2,.p 1 0),(3,vi n_0),(55,vb false)]) [] [.cells [vi n_1,vs l_2,vi n_3,vu n_4,vi n_5] [],.cells [vs l_6,vi n_7,vi n_8,vi n_9] []]) .ret)):=
 aF (by kernel_rfl)
theorem CP(b_0:Bool)(n_1:Int)(l_2:List UInt8)(n_3 n_4 n_5 n_6:Int)(l_7:List UInt8)(n_8 n_9 n_10:Int)(l_11:List UInt8)(n_12 n_13 n_14:Int):rk Tryz.prog aE (.at_ 151 1 [true,true,true,false,true] (sv 55 [(0,.p 0 0),(4,.p 1 0),(6,.p 2 0),(47,vb b_0)]) [] [.cells [vi n_1,vs l_2,vi n_3,vu n_4,vi n_5] [],.cells [vi n_6,vs l_7,vi n_8,vu n_9,vi n_10] [],.cells [vs l_11,vi n_12,vi n_13,vi n_14] []])=aC (rk Tryz.prog aE) (aT b_0 (c1 (.call 95 [.p 0 0,vi 2,vi n_12] [.cells [vs l_11,vi n_12,vi n_13,vi n_14] []]) 4 [] fun a c=>dY a fun e=>aM (e.length==0) (.ret (.d (.g [.i .i64 n_6,.s l_7,.i .i64 n_8,.i .u64 n_9,.i .i64 n_10]),[.cells c []]))) (.ret (.d (.g [.i .i64 n_6,.s l_7,.i .i64 n_8,.i .u64 n_9,.i .i64 n_10]),[.cells [vs l_11,vi n_12,vi n_13,vi n_14] []]))):=
 aF (by kernel_rfl)
theorem mX(n_0 n_1 n_2:Int)(l_3:List UInt8)(n_4 n_5 n_6 n_7:Int)(l_8:List UInt8)(n_9 n_10 n_11:Int)(l_12:List UInt8)(n_13 n_14 n_15:Int):rk Tryz.prog aE (.at_ 146 1 [false,false,true,true,true,true,true] (sv 84 [(0,.p 0 0),(2,.p 1 0),(3,.p 2 0),(4,vi n_0),(5,vu n_1)]) [] [.cells [vi n_2,vs l_3,vi n_4,vu n_5,vi n_6] [],.cells [vi n_7,vs l_8,vi n_9,vu n_10,vi n_11] [],.cells [vs l_12,vi n_13,vi n_14,vi n_15] []])=aC (rk Tryz.prog aE) (aT (decide (n_13<(l_12.length:Int))) (ob (bh l_12 n_13) fun a=>cV (.call 145 [.d (.i .u8 (a.toNat:Int))] []) fun c=>aW c fun e=>bD .i64 e fun f => .call (.at_ 146 1 [true,false,false,false,false,true,true,true,true,true] (sv 84 [(0,.p 0 0),(2,.p 1 0),(3,.p 2 0),(4,vi n_0),(5,vu n_1),(46,vb (decide (f ≥ 0)))]) [] [.cells [vi n_2,vs l_3,vi n_4,vu n_5,vi n_6] [],.cells [vi n_7,vs l_8,vi n_9,vu n_10,vi n_11] [],.cells [vs l_12,vi n_13,vi n_14,vi n_15] []]) .ret) (.call (.at_ 146 1 [true,false,false,false,false,true,true,true,true,true] (sv 84 [(0,.p 0 0),(2,.p 1 0),(3,.p 2 0),(4,vi n_0),(5,vu n_1),(46,vb false)]) [] [.cells [vi n_2,vs l_3,vi n_4,vu n_5,vi n_6] [],.cells [vi n_7,vs l_8,vi n_9,vu n_10,vi n_11] [],.cells [vs l_12,vi n_13,vi n_14,vi n_15] []]) .ret)):=
 aF (by kernel_rfl)
theorem pw(l_0:List UInt8)(b_1 b_2:Bool):rk Tryz.prog aE (.at_ 149 0 [true,false,true,true] (sv 56 [(0,vs l_0),(4,vb b_1),(16,vb b_2)]) [] [])=aC (rk Tryz.prog aE) (aT b_2 (aM (decide ((0:Int)<=1/\1<=(l_0.length:Int))) (aT (decide (((List.take (l_0.length-1) (List.drop 1 l_0)).length:Int)>60)) (.ret (.t [vi 0,vi 4],[])) (.call (.at_ 149 0 [false,true,false,true,true,true,true,true] (sv 56 [(0,vs (List.take (l_0.length-1) (List.drop 1 l_0))),(4,vb b_1),(5,vu 0),(6,vi 0)]) [] []) .ret))) (aT (decide ((l_0.length:Int)>60)) (.ret (.t [vi 0,vi 4],[])) (.call (.at_ 149 0 [false,true,false,true,true,true,true,true] (sv 56 [(0,vs l_0),(4,vb b_1),(5,vu 0),(6,vi 0)]) [] []) .ret))):=
 aF (by kernel_rfl)
theorem xN(n_0:Int)(b_1:Bool)(n_2:Int)(l_3:List UInt8)(n_4 n_5 n_6:Int)(l_7:List UInt8)(n_8 n_9 n_10:Int):rk Tryz.prog aE (.at_ 99 1 [true,false,true,true] (sv 242 [(0,.p 0 0),(2,.p 1 0),(3,vi n_0),(38,vb b_1)]) [] [.cells [vi n_2,vs l_3,vi n_4,vu n_5,vi n_6] [],.cells [vs l_7,vi n_8,vi n_9,vi n_10] []])=aC (rk Tryz.prog aE) (aT b_1 (c1 (.call 146 [.p 0 0] [.cells [vs l_7,vi n_8,vi n_9,vi n_10] []]) 4 [] fun o_0 l_3=>aW o_0 fun d_5=>xj 5 d_5 fun l_6=>aM ([.d (l_6.getD 0 (.b false)),.d (l_6.getD 1 (.b false)),.d (l_6.getD 2 (.b false)),.d (l_6.getD 3 (.b false)),.d (l_6.getD 4 (.b false))].all V.one) (.ret (.d (.g [l_6.getD 0 (.b false),l_6.getD 1 (.b false),l_6.getD 2 (.b false),l_6.getD 3 (.b false),l_6.getD 4 (.b false)]),[.cells l_3 []]))) (ob (bh l_7 n_8) fun c_7=>aT ((c_7.toNat:Int)==43) (.call (.at_ 99 1 [true,false,true,true,true] (sv 242 [(0,.p 0 0),(2,.p 1 0),(3,vi n_0),(62,vb true)]) [] [.cells [vi n_2,vs l_3,vi n_4,vu n_5,vi n_6] [],.cells [vs l_7,vi n_8,vi n_9,vi n_10] []]) .ret) (ob (bh l_7 n_8) fun c_8 => .call (.at_ 99 1 [true,false,true,true,true] (sv 242 [(0,.p 0 0),(2,.p 1 0),(3,vi n_0),(62,vb ((c_8.toNat:Int)==45))]) [] [.cells [vi n_2,vs l_3,vi n_4,vu n_5,vi n_6] [],.cells [vs l_7,vi n_8,vi n_9,vi n_10] []]) .ret))):=
 aF (by kernel_rfl)
theorem uh(n_0 n_1 n_2 n_3:Int)(l_4:List UInt8)(n_5 n_6 n_7:Int)(l_8:List UInt8)(n_9 n_10 n_11:Int):rk Tryz.prog aE (.at_ 46 1 [true,true,true,true,true,true] (sv 194 [(0,.p 0 0),(2,.p 1 0),(3,vi n_0),(4,.d (.i .u8 n_1)),(5,.d (.i .u8 n_2))]) [] [.cells [vi n_3,vs l_4,vi n_5,vu n_6,vi n_7] [],.cells [vs l_8,vi n_9,vi n_10,vi n_11] []])=aC (rk Tryz.prog aE) (cV (.call 96 [.d (.i .u8 n_1)] []) fun a=>aW a fun c=>dQ c fun e=>aT e (c1 (.call 97 [.p 0 0] [.cells [vs l_8,vi n_9,vi n_10,vi n_11] []]) 4 [] fun f h=>aW f fun j=>xj 5 j fun k=>aM ([.d (k.getD 0 (.b false)),.d (k.getD 1 (.b false)),.d (k.getD 2 (.b false)),.d (k.getD 3 (.b false)),.d (k.getD 4 (.b false))].all V.one) (.ret (.d (.g [k.getD 0 (.b false),k.getD 1 (.b false),k.getD 2 (.b false),k.getD 3 (.b false),k.getD 4 (.b false)]),[.cells h []]))) (cV (.call 98 [.d (.i .u8 n_1)] []) fun l=>aW l fun m=>dQ m fun n=>aT n (.call (.at_ 46 1 [true,true,true,false,false,true,true,true,true,true,true] (sv 194 [(0,.p 0 0),(2,.p 1 0),(3,vi n_0),(4,.d (.i .u8 n_1)),(5,.d (.i .u8 n_2)),(72,vb n)]) [] [.cells [vi n_3,vs l_4,vi n_5,vu n_6,vi n_7] [],.cells [vs l_8,vi n_9,vi n_10,vi n_11] []]) .ret) (aT (n_1==46) (cV (.call 98 [.d (.i .u8 n_2)] []) fun o=>aW o fun q=>dQ q fun r => .call (.at_ 46 1 [true,true,true,false,false,true,true,true,true,true,true] (sv 194 [(0,.p 0 0),(2,.p 1 0),(3,vi n_0),(4,.d (.i .u8 n_1)),(5,.d (.i .u8 n_2)),(72,vb r)]) [] [.cells [vi n_3,vs l_4,vi n_5,vu n_6,vi n_7] [],.cells [vs l_8,vi n_9,vi n_10,vi n_11] []]) .ret) (.call (.at_ 46 1 [true,true,true,false,false,true,true,true,true,true,true] (sv 194 [(0,.p 0 0),(2,.p 1 0),(3,vi n_0),(4,.d (.i .u8 n_1)),(5,.d (.i .u8 n_2)),(72,vb false)]) [] [.cells [vi n_3,vs l_4,vi n_5,vu n_6,vi n_7] [],.cells [vs l_8,vi n_9,vi n_10,vi n_11] []]) .ret)))):=
 aF (by kernel_rfl)
theorem xL(b_0:Bool)(l_1:List D)(b_2:Bool)(l_3:List D)(n_4:Int):rk Tryz.prog aE (.at_ 21 0 [false,true,false,true,true] (sv 26 [(0,vl b_0 l_1),(1,vl b_2 l_3),(5,vi n_4)]) [] [])=aC (rk Tryz.prog aE) (aT (decide (n_4<(l_1.length:Int))) (ob (bh l_1 n_4) fun a=>aM (a.width==5) (ob l_1[n_4.toNat]? fun c=>aM (decide (5<=c.width)) (ob (bh l_3 n_4) fun e=>aM (e.width==5) (ob l_3[n_4.toNat]? fun f=>aM (decide (5<=f.width)) (ob (GH [2,3,2,2,2] (.d (.g [gD 5 0 c 0,gD 5 0 c 1,gD 5 0 c 2,gD 5 0 c 3,gD 5 0 c 4])) (.d (.g [gD 5 0 f 0,gD 5 0 f 1,gD 5 0 f 2,gD 5 0 f 3,gD 5 0 f 4]))) fun h=>aT (!h) (.ret (vb false,[])) (.call (.at_ 21 0 [false,true,false,true,true] (sv 26 [(0,vl b_0 l_1),(1,vl b_2 l_3),(5,vi (IntKind.i64.wrap (n_4+1)))]) [] []) .ret)))))) (.ret (vb true,[]))):=
 aF (by kernel_rfl)
theorem mW(n_0:Int)(b_1:Bool):rk Tryz.prog aE (.at_ 145 0 [true,true,true,true,true,false,false,true] (sv 31 [(0,.d (.i .u8 n_0)),(20,vb b_1)]) [] [])=aC (rk Tryz.prog aE) (aT b_1 (.ret (vi (IntKind.i64.wrap (IntKind.i64.wrap (IntKind.u8.wrap (n_0-65))+10)),[])) (.ret (vi (-1),[]))):=
 aF (by kernel_rfl)
theorem rP(n_0:Int)(b_1:Bool)(l_2:List UInt8)(n_3 n_4 n_5:Int):rk Tryz.prog aE (.at_ 147 1 [true,false,false,false,false,true,true] (sv 43 [(0,.p 0 0),(3,vi n_0),(29,vb b_1)]) [] [.cells [vs l_2,vi n_3,vi n_4,vi n_5] []])=aC (rk Tryz.prog aE) (aT b_1 (.call (.at_ 147 1 [false,false,true,true] (sv 43 [(0,.p 0 0),(3,vi n_0)]) [] [.cells [vs l_2,vi (IntKind.i64.wrap (n_3+1)),vi n_4,vi n_5] []]) .ret) (.ret (vb (decide (n_3>n_0)),[.cells [vs l_2,vi n_3,vi n_4,vi n_5] []]))):=
 aF (by kernel_rfl)
theorem rS(b_0:Bool)(l_1:List UInt8)(n_2 n_3 n_4:Int):rk Tryz.prog aE (.at_ 45 1 [true,false,false,false] (sv 146 [(0,.p 0 0),(20,vb b_0)]) [] [.cells [vs l_1,vi n_2,vi n_3,vi n_4] []])=aC (rk Tryz.prog aE) (aT b_0 (ob (bh l_1 n_2) fun a=>aT ((a.toNat:Int)==9) (.call (.at_ 45 1 [true,false,true,false,true,false,false] (sv 146 [(0,.p 0 0),(2,.d (.i .u8 (a.toNat:Int))),(30,vb true)]) [] [.cells [vs l_1,vi n_2,vi n_3,vi n_4] []]) .ret) (aT ((a.toNat:Int)==10) (.call (.at_ 45 1 [true,false,true,false,true,false,false] (sv 146 [(0,.p 0 0),(2,.d (.i .u8 (a.toNat:Int))),(30,vb true)]) [] [.cells [vs l_1,vi n_2,vi n_3,vi n_4] []]) .ret) (aT ((a.toNat:Int)==13) (.call (.at_ 45 1 [true,false,true,false,true,false,false] (sv 146 [(0,.p 0 0),(2,.d (.i .u8 (a.toNat:Int))),(30,vb true)]) [] [.cells [vs l_1,vi n_2,vi n_3,vi n_4] []]) .ret) (.call (.at_ 45 1 [true,false,true,false,true,false,false] (sv 146 [(0,.p 0 0),(2,.d (.i .u8 (a.toNat:Int))),(30,vb ((a.toNat:Int)==32))]) [] [.cells [vs l_1,vi n_2,vi n_3,vi n_4] []]) .ret)))) (.ret (.t [],[.cells [vs l_1,vi n_2,vi n_3,vi n_4] []]))):=
 aF (by kernel_rfl)
theorem pz(n_0:Int)(b_1:Bool)(n_2:Int)(l_3:List UInt8)(n_4 n_5 n_6:Int)(l_7:List UInt8)(n_8 n_9 n_10:Int):rk Tryz.prog aE (.at_ 97 1 [true,false,false,false,false,true,true] (sv 110 [(0,.p 0 0),(2,.p 1 0),(3,vi n_0),(55,vb b_1)]) [] [.cells [vi n_2,vs l_3,vi n_4,vu n_5,vi n_6] [],.cells [vs l_7,vi n_8,vi n_9,vi n_10] []])=aC (rk Tryz.prog aE) (aT b_1 (.call (.at_ 97 1 [false,false,true,true] (sv 110 [(0,.p 0 0),(2,.p 1 0),(3,vi n_0)]) [] [.cells [vi n_2,vs l_3,vi n_4,vu n_5,vi n_6] [],.cells [vs l_7,vi (IntKind.i64.wrap (n_8+1)),vi n_9,vi n_10] []]) .ret) (aM (decide (0<=n_8/\n_8<=(l_7.length:Int))) (aM (decide (0<=n_0/\n_0<=(n_8.toNat:Int))) (aT (decide (((List.take (n_8.toNat-n_0.toNat) (List.drop n_0.toNat l_7)).length:Int)>120)) (c1 (.call 95 [.p 0 0,vi 4,vi n_0] [.cells [vs l_7,vi n_8,vi n_9,vi n_10] []]) 4 [] fun o_0 l_3=>dY o_0 fun l_5=>aM (l_5.length==0) (.ret (.d (.g [.i .i64 0,.s [],.i .i64 0,.i .u64 0,.i .i64 0]),[.cells l_3 []]))) (.call (.at_ 97 1 [false,true,false,true,true,true,true,true] (sv 110 [(0,.p 0 0),(2,.p 1 0),(3,vi n_0),(4,vs (List.take (n_8.toNat-n_0.toNat) (List.drop n_0.toNat l_7))),(5,vi 0)]) [] [.cells [vi n_2,vs l_3,vi n_4,vu n_5,vi n_6] [],.cells [vs l_7,vi n_8,vi n_9,vi n_10] []]) .ret))))):=
 aF (by kernel_rfl)
theorem jg(n_0 n_1:Int)(b_2:Bool)(n_3:Int)(l_4:List UInt8)(n_5 n_6 n_7 n_8:Int)(l_9:List UInt8)(n_10 n_11 n_12:Int)(l_13:List UInt8)(n_14 n_15 n_16:Int):rk Tryz.prog aE (.at_ 146 1 [true,false,false,false,false,true,true,true,true,true] (sv 84 [(0,.p 0 0),(2,.p 1 0),(3,.p 2 0),(4,vi n_0),(5,vu n_1),(46,vb b_2)]) [] [.cells [vi n_3,vs l_4,vi n_5,vu n_6,vi n_7] [],.cells [vi n_8,vs l_9,vi n_10,vu n_11,vi n_12] [],.cells [vs l_13,vi n_14,vi n_15,vi n_16] []])=aC (rk Tryz.prog aE) (aT b_2 (ob (bh l_13 n_14) fun a=>cV (.call 145 [.d (.i .u8 (a.toNat:Int))] []) fun c=>aW c fun e=>bD .i64 e fun f => .call (.at_ 146 1 [false,false,true,true,true,true,true] (sv 84 [(0,.p 0 0),(2,.p 1 0),(3,.p 2 0),(4,vi n_0),(5,vu (IntKind.u64.wrap ((BitVec.ofInt IntKind.u64.bits (IntKind.u64.wrap (n_1*16)) ||| BitVec.ofInt IntKind.u64.bits (IntKind.u64.wrap f)).toNat:Int)))]) [] [.cells [vi n_3,vs l_4,vi n_5,vu n_6,vi n_7] [],.cells [vi n_8,vs l_9,vi n_10,vu n_11,vi n_12] [],.cells [vs l_13,vi (IntKind.i64.wrap (n_14+1)),vi n_15,vi n_16] []]) .ret) (aT (decide (IntKind.i64.wrap (n_14-n_0)>16)) (.call (.at_ 146 1 [true,true,true,true,true,true,true,true] (sv 84 [(0,.p 0 0),(2,.p 1 0),(3,.p 2 0),(5,vu n_1),(6,vi 4)]) [] [.cells [vi n_3,vs l_4,vi n_5,vu n_6,vi n_7] [],.cells [vi n_8,vs l_9,vi n_10,vu n_11,vi n_12] [],.cells [vs l_13,vi n_14,vi n_15,vi n_16] []]) .ret) (aT (decide (n_1>9223372036854775807)) (.call (.at_ 146 1 [true,true,true,true,true,true,true,true] (sv 84 [(0,.p 0 0),(2,.p 1 0),(3,.p 2 0),(5,vu n_1),(6,vi 5)]) [] [.cells [vi n_3,vs l_4,vi n_5,vu n_6,vi n_7] [],.cells [vi n_8,vs l_9,vi n_10,vu n_11,vi n_12] [],.cells [vs l_13,vi n_14,vi n_15,vi n_16] []]) .ret) (.call (.at_ 146 1 [true,true,true,true,true,true,true,true] (sv 84 [(0,.p 0 0),(2,.p 1 0),(3,.p 2 0),(5,vu n_1),(6,vi 0)]) [] [.cells [vi n_3,vs l_4,vi n_5,vu n_6,vi n_7] [],.cells [vi n_8,vs l_9,vi n_10,vu n_11,vi n_12] [],.cells [vs l_13,vi n_14,vi n_15,vi n_16] []]) .ret)))):=
 aF (by kernel_rfl)
theorem rQ(l_0:List UInt8)(b_1:Bool)(n_2 n_3:Int):rk Tryz.prog aE (.at_ 149 0 [false,true,false,true,true,true,true,true] (sv 56 [(0,vs l_0),(4,vb b_1),(5,vu n_2),(6,vi n_3)]) [] [])=aC (rk Tryz.prog aE) (aT (decide (n_3<(l_0.length:Int))) (ob (bh l_0 n_3) fun a=>aT (decide (n_2>IntKind.u64.wrap ((IntKind.u64.wrap (9223372036854775808-IntKind.u64.wrap (IntKind.u8.wrap ((a.toNat:Int)-48)))).tdiv 10))) (.ret (.t [vi 0,vi 5],[])) (.call (.at_ 149 0 [false,true,false,true,true,true,true,true] (sv 56 [(0,vs l_0),(4,vb b_1),(5,vu (IntKind.u64.wrap (IntKind.u64.wrap (n_2*10)+IntKind.u64.wrap (IntKind.u8.wrap ((a.toNat:Int)-48))))),(6,vi (IntKind.i64.wrap (n_3+1)))]) [] []) .ret)) (aT (!b_1) (.call (.at_ 149 0 [true,false,true,true,true,true,true,true] (sv 56 [(4,vb b_1),(5,vu n_2),(47,vb (decide (n_2>9223372036854775807)))]) [] []) .ret) (.call (.at_ 149 0 [true,false,true,true,true,true,true,true] (sv 56 [(4,vb b_1),(5,vu n_2),(47,vb false)]) [] []) .ret))):=
 aF (by kernel_rfl)
theorem oq(n_0:Int)(b_1:Bool)(n_2:Int)(l_3:List UInt8)(n_4 n_5 n_6:Int)(l_7:List UInt8)(n_8 n_9 n_10:Int):rk Tryz.prog aE (.at_ 99 1 [true,false,true,true,true] (sv 242 [(0,.p 0 0),(2,.p 1 0),(3,vi n_0),(62,vb b_1)]) [] [.cells [vi n_2,vs l_3,vi n_4,vu n_5,vi n_6] [],.cells [vs l_7,vi n_8,vi n_9,vi n_10] []])=aC (rk Tryz.prog aE) (aT b_1 (c1 (.call 147 [.p 0 0] [.cells [vs l_7,vi (IntKind.i64.wrap (n_8+1)),vi n_9,vi n_10] []]) 4 [] fun o_0 l_3_1=>aW o_0 fun d_5=>dQ d_5 fun b_6=>ob l_3_1[1]? fun v_7=>aW v_7 fun d_8=>bD .i64 d_8 fun n_9=>ob l_3_1[0]? fun v_10=>aW v_10 fun d_11=>fF d_11 fun l_12=>aT (decide (n_9<(l_12.length:Int))) (ob l_3_1[0]? fun v_13=>aW v_13 fun d_14=>fF d_14 fun l_15=>ob l_3_1[1]? fun v_16=>aW v_16 fun d_17=>bD .i64 d_17 fun n_18=>ob (bh l_15 n_18) fun c_19=>aT ((c_19.toNat:Int)==46) (c1 (.call 148 [.p 0 0,vi 1] [.cells l_3_1 []]) l_3_1.length [] fun o_20 l_23=>aW o_20 fun d_25=>dQ d_25 fun b_26 => .call (.at_ 99 1 [true,false,true,true,true,true,true,true] (sv 242 [(0,.p 0 0),(2,.p 1 0),(3,vi n_0),(4,vb true),(97,vb b_26)]) [] [.cells [vi n_2,vs l_3,vi n_4,vu n_5,vi n_6] [],.cells l_23 []]) .ret) (.call (.at_ 99 1 [true,false,true,true,true,true,true,true] (sv 242 [(0,.p 0 0),(2,.p 1 0),(3,vi n_0),(4,vb true),(97,vb false)]) [] [.cells [vi n_2,vs l_3,vi n_4,vu n_5,vi n_6] [],.cells l_3_1 []]) .ret)) (.call (.at_ 99 1 [true,false,true,true,true,true,true,true] (sv 242 [(0,.p 0 0),(2,.p 1 0),(3,vi n_0),(4,vb true),(97,vb false)]) [] [.cells [vi n_2,vs l_3,vi n_4,vu n_5,vi n_6] [],.cells l_3_1 []]) .ret)) (c1 (.call 147 [.p 0 0] [.cells [vs l_7,vi n_8,vi n_9,vi n_10] []]) 4 [] fun o_27 l_30=>aW o_27 fun d_32=>dQ d_32 fun b_33=>ob l_30[1]? fun v_34=>aW v_34 fun d_35=>bD .i64 d_35 fun n_36=>ob l_30[0]? fun v_37=>aW v_37 fun d_38=>fF d_38 fun l_39=>aT (decide (n_36<(l_39.length:Int))) (ob l_30[0]? fun v_40=>aW v_40 fun d_41=>fF d_41 fun l_42=>ob l_30[1]? fun v_43=>aW v_43 fun d_44=>bD .i64 d_44 fun n_45=>ob (bh l_42 n_45) fun c_46=>aT ((c_46.toNat:Int)==46) (c1 (.call 148 [.p 0 0,vi 1] [.cells l_30 []]) l_30.length [] fun o_47 l_50=>aW o_47 fun d_52=>dQ d_52 fun b_53 => .call (.at_ 99 1 [true,false,true,true,true,true,true,true] (sv 242 [(0,.p 0 0),(2,.p 1 0),(3,vi n_0),(4,vb true),(97,vb b_53)]) [] [.cells [vi n_2,vs l_3,vi n_4,vu n_5,vi n_6] [],.cells l_50 []]) .ret) (.call (.at_ 99 1 [true,false,true,true,true,true,true,true] (sv 242 [(0,.p 0 0),(2,.p 1 0),(3,vi n_0),(4,vb true),(97,vb false)]) [] [.cells [vi n_2,vs l_3,vi n_4,vu n_5,vi n_6] [],.cells l_30 []]) .ret)) (.call (.at_ 99 1 [true,false,true,true,true,true,true,true] (sv 242 [(0,.p 0 0),(2,.p 1 0),(3,vi n_0),(4,vb true),(97,vb false)]) [] [.cells [vi n_2,vs l_3,vi n_4,vu n_5,vi n_6] [],.cells l_30 []]) .ret))):=
 aF (by kernel_rfl)
theorem rU(n_0 n_1 n_2:Int)(b_3:Bool)(n_4:Int)(l_5:List UInt8)(n_6 n_7 n_8:Int)(l_9:List UInt8)(n_10 n_11 n_12:Int):rk Tryz.prog aE (.at_ 46 1 [true,true,true,false,false,true,true,true,true,true,true] (sv 194 [(0,.p 0 0),(2,.p 1 0),(3,vi n_0),(4,.d (.i .u8 n_1)),(5,.d (.i .u8 n_2)),(72,vb b_3)]) [] [.cells [vi n_4,vs l_5,vi n_6,vu n_7,vi n_8] [],.cells [vs l_9,vi n_10,vi n_11,vi n_12] []])=aC (rk Tryz.prog aE) (aT b_3 (c1 (.call 99 [.p 0 0] [.cells [vs l_9,vi n_10,vi n_11,vi n_12] []]) 4 [] fun a c=>aW a fun e=>xj 5 e fun f=>aM ([.d (f.getD 0 (.b false)),.d (f.getD 1 (.b false)),.d (f.getD 2 (.b false)),.d (f.getD 3 (.b false)),.d (f.getD 4 (.b false))].all V.one) (.ret (.d (.g [f.getD 0 (.b false),f.getD 1 (.b false),f.getD 2 (.b false),f.getD 3 (.b false),f.getD 4 (.b false)]),[.cells c []]))) (aT (n_1==43) (.call (.at_ 46 1 [true,true,true,true,true,false,false,true,true,true,true,true,true] (sv 194 [(0,.p 0 0),(2,.p 1 0),(3,vi n_0),(4,.d (.i .u8 n_1)),(5,.d (.i .u8 n_2)),(83,vb true)]) [] [.cells [vi n_4,vs l_5,vi n_6,vu n_7,vi n_8] [],.cells [vs l_9,vi n_10,vi n_11,vi n_12] []]) .ret) (.call (.at_ 46 1 [true,true,true,true,true,false,false,true,true,true,true,true,true] (sv 194 [(0,.p 0 0),(2,.p 1 0),(3,vi n_0),(4,.d (.i .u8 n_1)),(5,.d (.i .u8 n_2)),(83,vb (n_1==45))]) [] [.cells [vi n_4,vs l_5,vi n_6,vu n_7,vi n_8] [],.cells [vs l_9,vi n_10,vi n_11,vi n_12] []]) .ret))):=
 aF (by kernel_rfl)
theorem mY(b_0:Bool)(l_1:List D)(l_2:List V):rk Tryz.prog aE (.at_ 20 0 [false,true,true,true,true] (sv 52 [(5,.p 0 0),(6,vl b_0 l_1)]) [(6,5)] [.cells l_2 []])=aC (rk Tryz.prog aE) (c1 (.call 45 [.p 0 0] [.cells l_2 []]) l_2.length [] fun a c=>dY a fun e=>aM (e.length==0) (ob c[2]? fun f=>aW f fun h=>bD .i64 h fun j=>aT (j != 0) (ob c[2]? fun k=>aW k fun m=>bD .i64 m fun n=>ob c[3]? fun o=>aW o fun q=>bD .i64 q fun r => .ret (.t [vl true [],vi n,vi r],[])) (c1 (.call 46 [.p 0 0] [.cells c []]) c.length [] fun s zu=>aW s fun v=>xj 5 v fun w=>aM ([.d (w.getD 0 (.b false)),.d (w.getD 1 (.b false)),.d (w.getD 2 (.b false)),.d (w.getD 3 (.b false)),.d (w.getD 4 (.b false))].all V.one) (ob zu[2]? fun x=>aW x fun y=>bD .i64 y fun z=>aT (z != 0) (ob zu[2]? fun a0=>aW a0 fun a1=>bD .i64 a1 fun a2=>ob zu[3]? fun a3=>aW a3 fun a4=>bD .i64 a4 fun a5 => .ret (.t [vl true [],vi a2,vi a5],[])) (aM (bw 5 l_1) (aM (b_0||gM [.g [w.getD 0 (.b false),w.getD 1 (.b false),w.getD 2 (.b false),w.getD 3 (.b false),w.getD 4 (.b false)]]) (aM (decide (l_1.length+1<=4294967296)) (bD .i64 (w.getD 0 (.b false)) fun a6=>aT (a6==6) (.ret (.t [vl (b_0&&false) (l_1++[.g [w.getD 0 (.b false),w.getD 1 (.b false),w.getD 2 (.b false),w.getD 3 (.b false),w.getD 4 (.b false)]]),vi 0,vi 0],[])) (.call (.at_ 20 0 [false,true,true,true,true] (sv 52 [(5,.p 0 0),(6,vl (b_0&&false) (l_1++[.g [w.getD 0 (.b false),w.getD 1 (.b false),w.getD 2 (.b false),w.getD 3 (.b false),w.getD 4 (.b false)]]))]) [(6,5)] [.cells zu []]) .ret))))))))):=
 aF (by kernel_rfl)
theorem gJ(n_0:Int)(b_1:Bool)(l_2:List UInt8)(n_3 n_4 n_5:Int):rk Tryz.prog aE (.at_ 45 1 [true,false,true,false,true,false,false] (sv 146 [(0,.p 0 0),(2,.d (.i .u8 n_0)),(30,vb b_1)]) [] [.cells [vs l_2,vi n_3,vi n_4,vi n_5] []])=aC (rk Tryz.prog aE) (aT b_1 (.call (.at_ 45 1 [false] (sv 146 [(0,.p 0 0)]) [] [.cells [vs l_2,vi (IntKind.i64.wrap (n_3+1)),vi n_4,vi n_5] []]) .ret) (aT (n_0==35) (.call (.at_ 45 1 [true,true,true,false,true,false,true,false,false] (sv 146 [(0,.p 0 0),(52,vb true)]) [] [.cells [vs l_2,vi n_3,vi n_4,vi n_5] []]) .ret) (cV (.call 94 [vs l_2,vi n_3,vs [47,47]] []) fun a=>aW a fun c=>dQ c fun e => .call (.at_ 45 1 [true,true,true,false,true,false,true,false,false] (sv 146 [(0,.p 0 0),(52,vb e)]) [] [.cells [vs l_2,vi n_3,vi n_4,vi n_5] []]) .ret))):=
 aF (by kernel_rfl)
theorem Al(n_0 n_1 n_2:Int)(l_3:List UInt8)(n_4 n_5 n_6 n_7:Int)(l_8:List UInt8)(n_9 n_10 n_11:Int)(l_12:List UInt8)(n_13 n_14 n_15:Int):rk Tryz.prog aE (.at_ 146 1 [true,true,true,true,true,true,true,true] (sv 84 [(0,.p 0 0),(2,.p 1 0),(3,.p 2 0),(5,vu n_0),(6,vi n_1)]) [] [.cells [vi n_2,vs l_3,vi n_4,vu n_5,vi n_6] [],.cells [vi n_7,vs l_8,vi n_9,vu n_10,vi n_11] [],.cells [vs l_12,vi n_13,vi n_14,vi n_15] []])=aC (rk Tryz.prog aE) (c1 (.call 151 [.p 0 0,.d (.g [.i .i64 n_2,.s l_3,.i .i64 (IntKind.i64.wrap n_0),.i .u64 n_5,.i .i64 n_6]),vi n_1] [.cells [vs l_12,vi n_13,vi n_14,vi n_15] []]) 4 [] fun o_0 l_3=>aW o_0 fun d_5=>xj 5 d_5 fun l_6=>aM ([.d (l_6.getD 0 (.b false)),.d (l_6.getD 1 (.b false)),.d (l_6.getD 2 (.b false)),.d (l_6.getD 3 (.b false)),.d (l_6.getD 4 (.b false))].all V.one) (.ret (.d (.g [l_6.getD 0 (.b false),l_6.getD 1 (.b false),l_6.getD 2 (.b false),l_6.getD 3 (.b false),l_6.getD 4 (.b false)]),[.cells l_3 []]))):=
 aF (by kernel_rfl)
theorem rR(b_0:Bool)(n_1:Int)(b_2:Bool):rk Tryz.prog aE (.at_ 149 0 [true,false,true,true,true,true,true,true] (sv 56 [(4,vb b_0),(5,vu n_1),(47,vb b_2)]) [] [])=aC (rk Tryz.prog aE) (aT b_2 (.ret (.t [vi 0,vi 5],[])) (aT b_0 (.ret (.t [vi (IntKind.i64.wrap (IntKind.i64.wrap (0-IntKind.i64.wrap (IntKind.u64.wrap (n_1-1)))-1)),vi 0],[])) (.ret (.t [vi (IntKind.i64.wrap n_1),vi 0],[])))):=
 aF (by kernel_rfl)
theorem lZ(n_0:Int)(b_1 b_2:Bool)(n_3:Int)(l_4:List UInt8)(n_5 n_6 n_7:Int)(l_8:List V):rk Tryz.prog aE (.at_ 99 1 [true,false,true,true,true,true,true,true] (sv 242 [(0,.p 0 0),(2,.p 1 0),(3,vi n_0),(4,vb b_1),(97,vb b_2)]) [] [.cells [vi n_3,vs l_4,vi n_5,vu n_6,vi n_7] [],.cells l_8 []])=aC (rk Tryz.prog aE) (aT b_2 (ob l_8[1]? fun a=>aW a fun c=>bD .i64 c fun e=>aM (decide (1<l_8.length)&&true) (c1 (.call 147 [.p 0 0] [.cells (l_8.set 1 (vi (IntKind.i64.wrap (e+1)))) []]) ((l_8.set 1 (vi (IntKind.i64.wrap (e+1)))).length) [] fun f g=>aW f fun h=>dQ h fun j=>ob g[1]? fun k=>aW k fun l=>bD .i64 l fun m=>ob g[0]? fun n=>aW n fun o=>fF o fun q=>aT (decide (m<(q.length:Int))) (ob g[0]? fun r=>aW r fun t=>fF t fun zu=>ob g[1]? fun v=>aW v fun w=>bD .i64 w fun x=>ob (bh zu x) fun y=>aT ((y.toNat:Int)==101) (.call (.at_ 99 1 [true,false,true,true,true,true,true,true,true] (sv 242 [(0,.p 0 0),(2,.p 1 0),(3,vi n_0),(4,vb false),(140,vb true)]) [] [.cells [vi n_3,vs l_4,vi n_5,vu n_6,vi n_7] [],.cells g []]) .ret) (ob g[0]? fun z=>aW z fun a0=>fF a0 fun a1=>ob g[1]? fun a2=>aW a2 fun a3=>bD .i64 a3 fun a4=>ob (bh a1 a4) fun a5 => .call (.at_ 99 1 [true,false,true,true,true,true,true,true,true] (sv 242 [(0,.p 0 0),(2,.p 1 0),(3,vi n_0),(4,vb false),(140,vb ((a5.toNat:Int)==69))]) [] [.cells [vi n_3,vs l_4,vi n_5,vu n_6,vi n_7] [],.cells g []]) .ret)) (.call (.at_ 99 1 [true,false,true,true,true,true,true,true,true] (sv 242 [(0,.p 0 0),(2,.p 1 0),(3,vi n_0),(4,vb false),(140,vb false)]) [] [.cells [vi n_3,vs l_4,vi n_5,vu n_6,vi n_7] [],.cells g []]) .ret))) (ob l_8[1]? fun a6=>aW a6 fun a7=>bD .i64 a7 fun a8=>ob l_8[0]? fun a9=>aW a9 fun aa=>fF aa fun ab=>aT (decide (a8<(ab.length:Int))) (ob l_8[0]? fun ac=>aW ac fun ad=>fF ad fun ae=>ob l_8[1]? fun af=>aW af fun ag=>bD .i64 ag fun ah=>ob (bh ae ah) fun ai=>aT ((ai.toNat:Int)==101) (.call (.at_ 99 1 [true,false,true,true,true,true,true,true,true] (sv 242 [(0,.p 0 0),(2,.p 1 0),(3,vi n_0),(4,vb b_1),(140,vb true)]) [] [.cells [vi n_3,vs l_4,vi n_5,vu n_6,vi n_7] [],.cells l_8 []]) .ret) (ob l_8[0]? fun aj=>aW aj fun ak=>fF ak fun al=>ob l_8[1]? fun am=>aW am fun an=>bD .i64 an fun ao=>ob (bh al ao) fun ap => .call (.at_ 99 1 [true,false,true,true,true,true,true,true,true] (sv 242 [(0,.p 0 0),(2,.p 1 0),(3,vi n_0),(4,vb b_1),(140,vb ((ap.toNat:Int)==69))]) [] [.cells [vi n_3,vs l_4,vi n_5,vu n_6,vi n_7] [],.cells l_8 []]) .ret)) (.call (.at_ 99 1 [true,false,true,true,true,true,true,true,true] (sv 242 [(0,.p 0 0),(2,.p 1 0),(3,vi n_0),(4,vb b_1),(140,vb false)]) [] [.cells [vi n_3,vs l_4,vi n_5,vu n_6,vi n_7] [],.cells l_8 []]) .ret))):=
 aF (by kernel_rfl)
theorem qd(n_0 n_1 n_2:Int)(b_3:Bool)(n_4:Int)(l_5:List UInt8)(n_6 n_7 n_8:Int)(l_9:List UInt8)(n_10 n_11 n_12:Int):rk Tryz.prog aE (.at_ 46 1 [true,true,true,true,true,false,false,true,true,true,true,true,true] (sv 194 [(0,.p 0 0),(2,.p 1 0),(3,vi n_0),(4,.d (.i .u8 n_1)),(5,.d (.i .u8 n_2)),(83,vb b_3)]) [] [.cells [vi n_4,vs l_5,vi n_6,vu n_7,vi n_8] [],.cells [vs l_9,vi n_10,vi n_11,vi n_12] []])=aC (rk Tryz.prog aE) (aT b_3 (cV (.call 98 [.d (.i .u8 n_2)] []) fun a=>aW a fun c=>dQ c fun e=>aT e (.call (.at_ 46 1 [true,false,true,true,true,true,true,false,false,true,true,true,true,true,true] (sv 194 [(0,.p 0 0),(2,.p 1 0),(3,vi n_0),(115,vb true)]) [] [.cells [vi n_4,vs l_5,vi n_6,vu n_7,vi n_8] [],.cells [vs l_9,vi n_10,vi n_11,vi n_12] []]) .ret) (aT (n_2==46) (aT (decide (IntKind.i64.wrap (n_0+2)<(l_9.length:Int))) (ob (bh l_9 (IntKind.i64.wrap (n_0+2))) fun f=>cV (.call 98 [.d (.i .u8 (f.toNat:Int))] []) fun g=>aW g fun h=>dQ h fun j => .call (.at_ 46 1 [true,false,true,true,true,true,true,false,false,true,true,true,true,true,true] (sv 194 [(0,.p 0 0),(2,.p 1 0),(3,vi n_0),(115,vb j)]) [] [.cells [vi n_4,vs l_5,vi n_6,vu n_7,vi n_8] [],.cells [vs l_9,vi n_10,vi n_11,vi n_12] []]) .ret) (.call (.at_ 46 1 [true,false,true,true,true,true,true,false,false,true,true,true,true,true,true] (sv 194 [(0,.p 0 0),(2,.p 1 0),(3,vi n_0),(115,vb false)]) [] [.cells [vi n_4,vs l_5,vi n_6,vu n_7,vi n_8] [],.cells [vs l_9,vi n_10,vi n_11,vi n_12] []]) .ret)) (.call (.at_ 46 1 [true,false,true,true,true,true,true,false,false,true,true,true,true,true,true] (sv 194 [(0,.p 0 0),(2,.p 1 0),(3,vi n_0),(115,vb false)]) [] [.cells [vi n_4,vs l_5,vi n_6,vu n_7,vi n_8] [],.cells [vs l_9,vi n_10,vi n_11,vi n_12] []]) .ret))) (aT (n_1==34) (.call (.at_ 46 1 [true,true,true,true,true,true,true,false,false,true,true,true,true,true,true] (sv 194 [(0,.p 0 0),(2,.p 1 0),(3,vi n_0),(4,.d (.i .u8 n_1)),(118,vb true)]) [] [.cells [vi n_4,vs l_5,vi n_6,vu n_7,vi n_8] [],.cells [vs l_9,vi n_10,vi n_11,vi n_12] []]) .ret) (.call (.at_ 46 1 [true,true,true,true,true,true,true,false,false,true,true,true,true,true,true] (sv 194 [(0,.p 0 0),(2,.p 1 0),(3,vi n_0),(4,.d (.i .u8 n_1)),(118,vb (n_1==39))]) [] [.cells [vi n_4,vs l_5,vi n_6,vu n_7,vi n_8] [],.cells [vs l_9,vi n_10,vi n_11,vi n_12] []]) .ret))):=
 aF (by kernel_rfl)
theorem lW(b_0:Bool)(l_1:List UInt8)(n_2 n_3 n_4:Int):rk Tryz.prog aE (.at_ 45 1 [true,true,true,false,true,false,true,false,false] (sv 146 [(0,.p 0 0),(52,vb b_0)]) [] [.cells [vs l_1,vi n_2,vi n_3,vi n_4] []])=aC (rk Tryz.prog aE) (aT b_0 (.call (.at_ 45 1 [false,false,true,true,true,false,true,false,true,false,false] (sv 146 [(0,.p 0 0)]) [] [.cells [vs l_1,vi n_2,vi n_3,vi n_4] []]) .ret) (cV (.call 94 [vs l_1,vi n_2,vs [47,42]] []) fun a=>aW a fun c=>dQ c fun e=>aT e (.call (.at_ 45 1 [false,false,true,false,true,true,true,true,true,false,true,false,true,false,false] (sv 146 [(0,.p 0 0),(3,vi (IntKind.i64.wrap (n_2+2)))]) [] [.cells [vs l_1,vi n_2,vi n_3,vi n_4] []]) .ret) (.ret (.t [],[.cells [vs l_1,vi n_2,vi n_3,vi n_4] []])))):=
 aF (by kernel_rfl)
theorem l4(n_0:Int)(b_1 b_2:Bool)(n_3:Int)(l_4:List UInt8)(n_5 n_6 n_7:Int)(l_8:List V):rk Tryz.prog aE (.at_ 99 1 [true,false,true,true,true,true,true,true,true] (sv 242 [(0,.p 0 0),(2,.p 1 0),(3,vi n_0),(4,vb b_1),(140,vb b_2)]) [] [.cells [vi n_3,vs l_4,vi n_5,vu n_6,vi n_7] [],.cells l_8 []])=aC (rk Tryz.prog aE) (aT b_2 (ob l_8[1]? fun a=>aW a fun c=>bD .i64 c fun e=>ob l_8[0]? fun f=>aW f fun g=>fF g fun h=>aT (decide (IntKind.i64.wrap (e+1)<(h.length:Int))) (ob l_8[0]? fun j=>aW j fun k=>fF k fun l=>ob l_8[1]? fun m=>aW m fun n=>bD .i64 n fun o=>ob (bh l (IntKind.i64.wrap (o+1))) fun q=>aT ((q.toNat:Int)==43) (.call (.at_ 99 1 [true,false,true,false,true,true,true,true,true,true,true] (sv 242 [(0,.p 0 0),(2,.p 1 0),(3,vi n_0),(4,vb b_1),(5,vb true)]) [] [.cells [vi n_3,vs l_4,vi n_5,vu n_6,vi n_7] [],.cells l_8 []]) .ret) (ob l_8[0]? fun r=>aW r fun t=>fF t fun zu=>ob l_8[1]? fun v=>aW v fun w=>bD .i64 w fun x=>ob (bh zu (IntKind.i64.wrap (x+1))) fun y => .call (.at_ 99 1 [true,false,true,false,true,true,true,true,true,true,true] (sv 242 [(0,.p 0 0),(2,.p 1 0),(3,vi n_0),(4,vb b_1),(5,vb ((y.toNat:Int)==45))]) [] [.cells [vi n_3,vs l_4,vi n_5,vu n_6,vi n_7] [],.cells l_8 []]) .ret)) (.call (.at_ 99 1 [true,false,true,false,true,true,true,true,true,true,true] (sv 242 [(0,.p 0 0),(2,.p 1 0),(3,vi n_0),(4,vb b_1),(5,vb false)]) [] [.cells [vi n_3,vs l_4,vi n_5,vu n_6,vi n_7] [],.cells l_8 []]) .ret)) (aT b_1 (ob l_8[0]? fun z=>aW z fun a0=>fF a0 fun a1=>ob l_8[1]? fun a2=>aW a2 fun a3=>bD .i64 a3 fun a4=>aM (decide (0<=a4/\a4<=(a1.length:Int))) (aM (decide (0<=n_0/\n_0<=(a4.toNat:Int))) (cV (.call 149 [vs (List.take (a4.toNat-n_0.toNat) (List.drop n_0.toNat a1))] []) fun a5=>dY a5 fun a6=>aM (a6.length==2) (aW (a6.getD 0 (vb false)) fun a7=>bD .i64 a7 fun a8=>aW (a6.getD 1 (vb false)) fun a9=>bD .i64 a9 fun aa => .call (.at_ 99 1 [true,true,true,true,true,true,true,true,true,true,true] (sv 242 [(0,.p 0 0),(2,.p 1 0),(6,.p 2 0),(7,vi aa)]) [] [.cells [vi 2,vs [],vi a8,vu 0,vi n_0] [],.cells [vi n_3,vs l_4,vi n_5,vu n_6,vi n_7] [],.cells l_8 []]) .ret)))) (ob l_8[0]? fun ab=>aW ab fun ac=>fF ac fun ad=>ob l_8[1]? fun ae=>aW ae fun af=>bD .i64 af fun ag=>aM (decide (0<=ag/\ag<=(ad.length:Int))) (aM (decide (0<=n_0/\n_0<=(ag.toNat:Int))) (cV (.call 150 [vs (List.take (ag.toNat-n_0.toNat) (List.drop n_0.toNat ad))] []) fun ah=>dY ah fun ai=>aM (ai.length==2) (aW (ai.getD 0 (vb false)) fun aj=>bD .u64 aj fun ak=>aW (ai.getD 1 (vb false)) fun al=>bD .i64 al fun am => .call (.at_ 99 1 [true,true,true,true,true,true,true,true,true,true,true] (sv 242 [(0,.p 0 0),(2,.p 1 0),(6,.p 2 0),(7,vi am)]) [] [.cells [vi 3,vs [],vi 0,vu ak,vi n_0] [],.cells [vi n_3,vs l_4,vi n_5,vu n_6,vi n_7] [],.cells l_8 []]) .ret)))))):=
 aF (by kernel_rfl)
theorem qe(n_0:Int)(b_1:Bool)(n_2:Int)(l_3:List UInt8)(n_4 n_5 n_6:Int)(l_7:List UInt8)(n_8 n_9 n_10:Int):rk Tryz.prog aE (.at_ 46 1 [true,false,true,true,true,true,true,false,false,true,true,true,true,true,true] (sv 194 [(0,.p 0 0),(2,.p 1 0),(3,vi n_0),(115,vb b_1)]) [] [.cells [vi n_2,vs l_3,vi n_4,vu n_5,vi n_6] [],.cells [vs l_7,vi n_8,vi n_9,vi n_10] []])=aC (rk Tryz.prog aE) (aT b_1 (c1 (.call 99 [.p 0 0] [.cells [vs l_7,vi n_8,vi n_9,vi n_10] []]) 4 [] fun o_0 l_3=>aW o_0 fun d_5=>xj 5 d_5 fun l_6=>aM ([.d (l_6.getD 0 (.b false)),.d (l_6.getD 1 (.b false)),.d (l_6.getD 2 (.b false)),.d (l_6.getD 3 (.b false)),.d (l_6.getD 4 (.b false))].all V.one) (.ret (.d (.g [l_6.getD 0 (.b false),l_6.getD 1 (.b false),l_6.getD 2 (.b false),l_6.getD 3 (.b false),l_6.getD 4 (.b false)]),[.cells l_3 []]))) (c1 (.call 95 [.p 0 0,vi 2,vi n_0] [.cells [vs l_7,vi n_8,vi n_9,vi n_10] []]) 4 [] fun o_7 l_10=>dY o_7 fun l_12=>aM (l_12.length==0) (.ret (.d (.g [.i .i64 0,.s [],.i .i64 0,.i .u64 0,.i .i64 0]),[.cells l_10 []])))):=
 aF (by kernel_rfl)
theorem qf(n_0 n_1:Int)(b_2:Bool)(n_3:Int)(l_4:List UInt8)(n_5 n_6 n_7:Int)(l_8:List UInt8)(n_9 n_10 n_11:Int):rk Tryz.prog aE (.at_ 46 1 [true,true,true,true,true,true,true,false,false,true,true,true,true,true,true] (sv 194 [(0,.p 0 0),(2,.p 1 0),(3,vi n_0),(4,.d (.i .u8 n_1)),(118,vb b_2)]) [] [.cells [vi n_3,vs l_4,vi n_5,vu n_6,vi n_7] [],.cells [vs l_8,vi n_9,vi n_10,vi n_11] []])=aC (rk Tryz.prog aE) (aT b_2 (.call (.at_ 46 1 [false,false,true,false,true,true,true,true,true,true,true,false,false,true,true,true,true,true,true] (sv 194 [(0,.p 0 0),(2,.p 1 0),(3,vi n_0),(4,.d (.i .u8 n_1)),(6,vi (IntKind.i64.wrap (n_0+1)))]) [] [.cells [vi n_3,vs l_4,vi n_5,vu n_6,vi n_7] [],.cells [vs l_8,vi n_9,vi n_10,vi n_11] []]) .ret) (.call (.at_ 46 1 [false,true,true,true,true,true,true,true,true,true,false,false,true,true,true,true,true,true] (sv 194 [(0,.p 0 0),(2,.p 1 0),(3,vi n_0),(4,.d (.i .u8 n_1)),(7,vi 0)]) [] [.cells [vi n_3,vs l_4,vi n_5,vu n_6,vi n_7] [],.cells [vs l_8,vi n_9,vi n_10,vi n_11] []]) .ret)):=
 aF (by kernel_rfl)
theorem rT(l_0:List UInt8)(n_1 n_2 n_3:Int):rk Tryz.prog aE (.at_ 45 1 [false,false,true,true,true,false,true,false,true,false,false] (sv 146 [(0,.p 0 0)]) [] [.cells [vs l_0,vi n_1,vi n_2,vi n_3] []])=aC (rk Tryz.prog aE) (aT (decide (n_1<(l_0.length:Int))) (ob (bh l_0 n_1) fun a => .call (.at_ 45 1 [true,false,false,false,false,true,true,true,false,true,false,true,false,false] (sv 146 [(0,.p 0 0),(87,vb ((a.toNat:Int) != 10))]) [] [.cells [vs l_0,vi n_1,vi n_2,vi n_3] []]) .ret) (.call (.at_ 45 1 [true,false,false,false,false,true,true,true,false,true,false,true,false,false] (sv 146 [(0,.p 0 0),(87,vb false)]) [] [.cells [vs l_0,vi n_1,vi n_2,vi n_3] []]) .ret)):=
 aF (by kernel_rfl)
theorem lh(n_0:Int)(l_1:List UInt8)(n_2 n_3 n_4:Int):rk Tryz.prog aE (.at_ 45 1 [false,false,true,false,true,true,true,true,true,false,true,false,true,false,false] (sv 146 [(0,.p 0 0),(3,vi n_0)]) [] [.cells [vs l_1,vi n_2,vi n_3,vi n_4] []])=aC (rk Tryz.prog aE) (aT (decide (n_0<(l_1.length:Int))) (cV (.call 94 [vs l_1,vi n_0,vs [42,47]] []) fun a=>aW a fun c=>dQ c fun e => .call (.at_ 45 1 [true,false,false,false,false,true,false,true,true,true,true,true,false,true,false,true,false,false] (sv 146 [(0,.p 0 0),(3,vi n_0),(125,vb !e)]) [] [.cells [vs l_1,vi n_2,vi n_3,vi n_4] []]) .ret) (.call (.at_ 45 1 [true,false,false,false,false,true,false,true,true,true,true,true,false,true,false,true,false,false] (sv 146 [(0,.p 0 0),(3,vi n_0),(125,vb false)]) [] [.cells [vs l_1,vi n_2,vi n_3,vi n_4] []]) .ret)):=
 aF (by kernel_rfl)
theorem qg(n_0:Int)(l_1:List UInt8)(n_2 n_3:Int)(l_4:List UInt8)(n_5 n_6 n_7:Int)(l_8:List V):rk Tryz.prog aE (.at_ 97 1 [false,true,false,true,true,true,true,true] (sv 110 [(0,.p 0 0),(2,.p 1 0),(3,vi n_0),(4,vs l_1),(5,vi n_2)]) [] [.cells [vi n_3,vs l_4,vi n_5,vu n_6,vi n_7] [],.cells l_8 []])=aC (rk Tryz.prog aE) (aT (decide (n_2<(l_1.length:Int))) (ob (bh l_1 n_2) fun a=>aT ((a.toNat:Int)==46) (aT (n_2==IntKind.i64.wrap ((l_1.length:Int)-1)) (.call (.at_ 97 1 [true,false,false,true,false,false,true,false,true,true,true,true,true] (sv 110 [(0,.p 0 0),(2,.p 1 0),(3,vi n_0),(4,vs l_1),(5,vi n_2),(103,vb true)]) [] [.cells [vi n_3,vs l_4,vi n_5,vu n_6,vi n_7] [],.cells l_8 []]) .ret) (ob (bh l_1 (IntKind.i64.wrap (n_2+1))) fun c => .call (.at_ 97 1 [true,false,false,true,false,false,true,false,true,true,true,true,true] (sv 110 [(0,.p 0 0),(2,.p 1 0),(3,vi n_0),(4,vs l_1),(5,vi n_2),(103,vb ((c.toNat:Int)==46))]) [] [.cells [vi n_3,vs l_4,vi n_5,vu n_6,vi n_7] [],.cells l_8 []]) .ret)) (.call (.at_ 97 1 [true,false,false,true,false,false,true,false,true,true,true,true,true] (sv 110 [(0,.p 0 0),(2,.p 1 0),(3,vi n_0),(4,vs l_1),(5,vi n_2),(103,vb false)]) [] [.cells [vi n_3,vs l_4,vi n_5,vu n_6,vi n_7] [],.cells l_8 []]) .ret)) (.ret (.d (.g [.i .i64 1,.s l_1,.i .i64 0,.i .u64 0,.i .i64 n_0]),[.cells l_8 []]))):=
 aF (by kernel_rfl)
theorem kl(n_0:Int)(b_1 b_2:Bool)(n_3:Int)(l_4:List UInt8)(n_5 n_6 n_7:Int)(l_8:List V):rk Tryz.prog aE (.at_ 99 1 [true,false,true,false,true,true,true,true,true,true,true] (sv 242 [(0,.p 0 0),(2,.p 1 0),(3,vi n_0),(4,vb b_1),(5,vb b_2)]) [] [.cells [vi n_3,vs l_4,vi n_5,vu n_6,vi n_7] [],.cells l_8 []])=aC (rk Tryz.prog aE) (c1 (.call 148 [.p 0 0,vi 1] [.cells l_8 []]) l_8.length [] fun a c=>aW a fun e=>dQ e fun f=>aT f (.call (.at_ 99 1 [true,true,false,true,false,true,true,true,true,true,true,true] (sv 242 [(0,.p 0 0),(2,.p 1 0),(3,vi n_0),(4,vb b_1),(5,vb b_2),(186,vb true)]) [] [.cells [vi n_3,vs l_4,vi n_5,vu n_6,vi n_7] [],.cells c []]) .ret) (aT b_2 (c1 (.call 148 [.p 0 0,vi 2] [.cells c []]) c.length [] fun g h=>aW g fun j=>dQ j fun k => .call (.at_ 99 1 [true,true,false,true,false,true,true,true,true,true,true,true] (sv 242 [(0,.p 0 0),(2,.p 1 0),(3,vi n_0),(4,vb b_1),(5,vb b_2),(186,vb k)]) [] [.cells [vi n_3,vs l_4,vi n_5,vu n_6,vi n_7] [],.cells h []]) .ret) (.call (.at_ 99 1 [true,true,false,true,false,true,true,true,true,true,true,true] (sv 242 [(0,.p 0 0),(2,.p 1 0),(3,vi n_0),(4,vb b_1),(5,vb b_2),(186,vb false)]) [] [.cells [vi n_3,vs l_4,vi n_5,vu n_6,vi n_7] [],.cells c []]) .ret))):=
 aF (by kernel_rfl)
theorem Am(n_0 n_1:Int)(l_2:List UInt8)(n_3 n_4 n_5 n_6:Int)(l_7:List UInt8)(n_8 n_9 n_10:Int)(l_11:List V):rk Tryz.prog aE (.at_ 99 1 [true,true,true,true,true,true,true,true,true,true,true] (sv 242 [(0,.p 0 0),(2,.p 1 0),(6,.p 2 0),(7,vi n_0)]) [] [.cells [vi n_1,vs l_2,vi n_3,vu n_4,vi n_5] [],.cells [vi n_6,vs l_7,vi n_8,vu n_9,vi n_10] [],.cells l_11 []])=aC (rk Tryz.prog aE) (c1 (.call 151 [.p 0 0,.d (.g [.i .i64 n_1,.s l_2,.i .i64 n_3,.i .u64 n_4,.i .i64 n_5]),vi n_0] [.cells l_11 []]) l_11.length [] fun a c=>aW a fun e=>xj 5 e fun f=>aM ([.d (f.getD 0 (.b false)),.d (f.getD 1 (.b false)),.d (f.getD 2 (.b false)),.d (f.getD 3 (.b false)),.d (f.getD 4 (.b false))].all V.one) (.ret (.d (.g [f.getD 0 (.b false),f.getD 1 (.b false),f.getD 2 (.b false),f.getD 3 (.b false),f.getD 4 (.b false)]),[.cells c []]))):=
 aF (by kernel_rfl)
theorem oo(n_0 n_1 n_2 n_3:Int)(l_4:List UInt8)(n_5 n_6 n_7:Int)(l_8:List UInt8)(n_9 n_10 n_11:Int):rk Tryz.prog aE (.at_ 46 1 [false,false,true,false,true,true,true,true,true,true,true,false,false,true,true,true,true,true,true] (sv 194 [(0,.p 0 0),(2,.p 1 0),(3,vi n_0),(4,.d (.i .u8 n_1)),(6,vi n_2)]) [] [.cells [vi n_3,vs l_4,vi n_5,vu n_6,vi n_7] [],.cells [vs l_8,vi n_9,vi n_10,vi n_11] []])=aC (rk Tryz.prog aE) (aT (decide (n_2<(l_8.length:Int))) (ob (bh l_8 n_2) fun a=>aT ((a.toNat:Int) != n_1) (ob (bh l_8 n_2) fun c => .call (.at_ 46 1 [true,false,false,false,false,true,false,true,true,true,true,true,true,true,false,false,true,true,true,true,true,true] (sv 194 [(0,.p 0 0),(2,.p 1 0),(3,vi n_0),(4,.d (.i .u8 n_1)),(6,vi n_2),(152,vb ((c.toNat:Int) != 10))]) [] [.cells [vi n_3,vs l_4,vi n_5,vu n_6,vi n_7] [],.cells [vs l_8,vi n_9,vi n_10,vi n_11] []]) .ret) (.call (.at_ 46 1 [true,false,false,false,false,true,false,true,true,true,true,true,true,true,false,false,true,true,true,true,true,true] (sv 194 [(0,.p 0 0),(2,.p 1 0),(3,vi n_0),(4,.d (.i .u8 n_1)),(6,vi n_2),(152,vb false)]) [] [.cells [vi n_3,vs l_4,vi n_5,vu n_6,vi n_7] [],.cells [vs l_8,vi n_9,vi n_10,vi n_11] []]) .ret)) (.call (.at_ 46 1 [true,false,false,false,false,true,false,true,true,true,true,true,true,true,false,false,true,true,true,true,true,true] (sv 194 [(0,.p 0 0),(2,.p 1 0),(3,vi n_0),(4,.d (.i .u8 n_1)),(6,vi n_2),(152,vb false)]) [] [.cells [vi n_3,vs l_4,vi n_5,vu n_6,vi n_7] [],.cells [vs l_8,vi n_9,vi n_10,vi n_11] []]) .ret)):=
 aF (by kernel_rfl)
theorem kj(n_0 n_1 n_2 n_3:Int)(l_4:List UInt8)(n_5 n_6 n_7:Int)(l_8:List UInt8)(n_9 n_10 n_11:Int):rk Tryz.prog aE (.at_ 46 1 [false,true,true,true,true,true,true,true,true,true,false,false,true,true,true,true,true,true] (sv 194 [(0,.p 0 0),(2,.p 1 0),(3,vi n_0),(4,.d (.i .u8 n_1)),(7,vi n_2)]) [] [.cells [vi n_3,vs l_4,vi n_5,vu n_6,vi n_7] [],.cells [vs l_8,vi n_9,vi n_10,vi n_11] []])=aC (rk Tryz.prog aE) (aT (decide (n_2<13)) (ob (bh ([123,125,40,41,91,93,60,62,44,59,58,61,42]:List UInt8) n_2) fun c_0=>aT ((c_0.toNat:Int)==n_1) (aM (decide (0<=IntKind.i64.wrap (n_0+1)/\IntKind.i64.wrap (n_0+1)<=(l_8.length:Int))) (aM (decide (0<=n_0/\n_0<=((IntKind.i64.wrap (n_0+1)).toNat:Int))) (.ret (.d (.g [.i .i64 5,.s (List.take ((IntKind.i64.wrap (n_0+1)).toNat-n_0.toNat) (List.drop n_0.toNat l_8)),.i .i64 0,.i .u64 0,.i .i64 n_0]),[.cells [vs l_8,vi (IntKind.i64.wrap (n_9+1)),vi n_10,vi n_11] []])))) (.call (.at_ 46 1 [false,true,true,true,true,true,true,true,true,true,false,false,true,true,true,true,true,true] (sv 194 [(0,.p 0 0),(2,.p 1 0),(3,vi n_0),(4,.d (.i .u8 n_1)),(7,vi (IntKind.i64.wrap (n_2+1)))]) [] [.cells [vi n_3,vs l_4,vi n_5,vu n_6,vi n_7] [],.cells [vs l_8,vi n_9,vi n_10,vi n_11] []]) .ret)) (c1 (.call 95 [.p 0 0,vi 2,vi n_0] [.cells [vs l_8,vi n_9,vi n_10,vi n_11] []]) 4 [] fun o_1 l_4=>dY o_1 fun l_6=>aM (l_6.length==0) (.ret (.d (.g [.i .i64 0,.s [],.i .i64 0,.i .u64 0,.i .i64 0]),[.cells l_4 []])))):=
 aF (by kernel_rfl)
theorem qb(b_0:Bool)(l_1:List UInt8)(n_2 n_3 n_4:Int):rk Tryz.prog aE (.at_ 45 1 [true,false,false,false,false,true,true,true,false,true,false,true,false,false] (sv 146 [(0,.p 0 0),(87,vb b_0)]) [] [.cells [vs l_1,vi n_2,vi n_3,vi n_4] []])=aC (rk Tryz.prog aE) (aT b_0 (.call (.at_ 45 1 [false,false,true,true,true,false,true,false,true,false,false] (sv 146 [(0,.p 0 0)]) [] [.cells [vs l_1,vi (IntKind.i64.wrap (n_2+1)),vi n_3,vi n_4] []]) .ret) (.call (.at_ 45 1 [false] (sv 146 [(0,.p 0 0)]) [] [.cells [vs l_1,vi n_2,vi n_3,vi n_4] []]) .ret)):=
 aF (by kernel_rfl)
theorem ki(n_0:Int)(b_1:Bool)(l_2:List UInt8)(n_3 n_4 n_5:Int):rk Tryz.prog aE (.at_ 45 1 [true,false,false,false,false,true,false,true,true,true,true,true,false,true,false,true,false,false] (sv 146 [(0,.p 0 0),(3,vi n_0),(125,vb b_1)]) [] [.cells [vs l_2,vi n_3,vi n_4,vi n_5] []])=aC (rk Tryz.prog aE) (aT b_1 (.call (.at_ 45 1 [false,false,true,false,true,true,true,true,true,false,true,false,true,false,false] (sv 146 [(0,.p 0 0),(3,vi (IntKind.i64.wrap (n_0+1)))]) [] [.cells [vs l_2,vi n_3,vi n_4,vi n_5] []]) .ret) (aT (decide (n_0 ≥ (l_2.length:Int))) (c1 (.call 95 [.p 0 0,vi 2,vi n_3] [.cells [vs l_2,vi n_3,vi n_4,vi n_5] []]) 4 [] fun a c=>dY a fun e=>aM (e.length==0) (.ret (.t [],[.cells c []]))) (.call (.at_ 45 1 [false] (sv 146 [(0,.p 0 0)]) [] [.cells [vs l_2,vi (IntKind.i64.wrap (n_0+2)),vi n_4,vi n_5] []]) .ret))):=
 aF (by kernel_rfl)
theorem mz(n_0:Int)(l_1:List UInt8)(n_2:Int)(b_3:Bool)(n_4:Int)(l_5:List UInt8)(n_6 n_7 n_8:Int)(l_9:List V):rk Tryz.prog aE (.at_ 97 1 [true,false,false,true,false,false,true,false,true,true,true,true,true] (sv 110 [(0,.p 0 0),(2,.p 1 0),(3,vi n_0),(4,vs l_1),(5,vi n_2),(103,vb b_3)]) [] [.cells [vi n_4,vs l_5,vi n_6,vu n_7,vi n_8] [],.cells l_9 []])=aC (rk Tryz.prog aE) (aT b_3 (c1 (.call 95 [.p 0 0,vi 2,vi n_0] [.cells l_9 []]) l_9.length [] fun a c=>dY a fun e=>aM (e.length==0) (.call (.at_ 97 1 [false,true,false,true,true,true,true,true] (sv 110 [(0,.p 0 0),(2,.p 1 0),(3,vi n_0),(4,vs l_1),(5,vi (IntKind.i64.wrap (n_2+1)))]) [] [.cells [vi n_4,vs l_5,vi n_6,vu n_7,vi n_8] [],.cells c []]) .ret)) (.call (.at_ 97 1 [false,true,false,true,true,true,true,true] (sv 110 [(0,.p 0 0),(2,.p 1 0),(3,vi n_0),(4,vs l_1),(5,vi (IntKind.i64.wrap (n_2+1)))]) [] [.cells [vi n_4,vs l_5,vi n_6,vu n_7,vi n_8] [],.cells l_9 []]) .ret)):=
 aF (by kernel_rfl)
theorem km(n_0:Int)(b_1 b_2 b_3:Bool)(n_4:Int)(l_5:List UInt8)(n_6 n_7 n_8:Int)(l_9:List V):rk Tryz.prog aE (.at_ 99 1 [true,true,false,true,false,true,true,true,true,true,true,true] (sv 242 [(0,.p 0 0),(2,.p 1 0),(3,vi n_0),(4,vb b_1),(5,vb b_2),(186,vb b_3)]) [] [.cells [vi n_4,vs l_5,vi n_6,vu n_7,vi n_8] [],.cells l_9 []])=aC (rk Tryz.prog aE) (aT b_3 (ob l_9[1]? fun a=>aW a fun c=>bD .i64 c fun e=>aM (decide (1<l_9.length)&&true) (aT b_2 (ob (l_9.set 1 (vi (IntKind.i64.wrap (e+1))))[1]? fun f=>aW f fun g=>bD .i64 g fun h=>aM (decide (1<(l_9.set 1 (vi (IntKind.i64.wrap (e+1)))).length)&&true) (c1 (.call 147 [.p 0 0] [.cells ((l_9.set 1 (vi (IntKind.i64.wrap (e+1)))).set 1 (vi (IntKind.i64.wrap (h+1)))) []]) (((l_9.set 1 (vi (IntKind.i64.wrap (e+1)))).set 1 (vi (IntKind.i64.wrap (h+1)))).length) [] fun j k=>aW j fun l=>dQ l fun m=>ob k[0]? fun n=>aW n fun o=>fF o fun q=>ob k[1]? fun r=>aW r fun t=>bD .i64 t fun zu=>aM (decide (0<=zu/\zu<=(q.length:Int))) (aM (decide (0<=n_0/\n_0<=(zu.toNat:Int))) (cV (.call 150 [vs (List.take (zu.toNat-n_0.toNat) (List.drop n_0.toNat q))] []) fun v=>dY v fun w=>aM (w.length==2) (aW (w.getD 0 (vb false)) fun x=>bD .u64 x fun y=>aW (w.getD 1 (vb false)) fun z=>bD .i64 z fun a0 => .call (.at_ 99 1 [true,true,true,true,true,true,true,true,true,true,true] (sv 242 [(0,.p 0 0),(2,.p 1 0),(6,.p 2 0),(7,vi a0)]) [] [.cells [vi 3,vs [],vi 0,vu y,vi n_0] [],.cells [vi n_4,vs l_5,vi n_6,vu n_7,vi n_8] [],.cells k []]) .ret))))) (c1 (.call 147 [.p 0 0] [.cells (l_9.set 1 (vi (IntKind.i64.wrap (e+1)))) []]) ((l_9.set 1 (vi (IntKind.i64.wrap (e+1)))).length) [] fun a1 a2=>aW a1 fun a3=>dQ a3 fun a4=>ob a2[0]? fun a5=>aW a5 fun a6=>fF a6 fun a7=>ob a2[1]? fun a8=>aW a8 fun a9=>bD .i64 a9 fun aa=>aM (decide (0<=aa/\aa<=(a7.length:Int))) (aM (decide (0<=n_0/\n_0<=(aa.toNat:Int))) (cV (.call 150 [vs (List.take (aa.toNat-n_0.toNat) (List.drop n_0.toNat a7))] []) fun ab=>dY ab fun ac=>aM (ac.length==2) (aW (ac.getD 0 (vb false)) fun ad=>bD .u64 ad fun ae=>aW (ac.getD 1 (vb false)) fun af=>bD .i64 af fun ag => .call (.at_ 99 1 [true,true,true,true,true,true,true,true,true,true,true] (sv 242 [(0,.p 0 0),(2,.p 1 0),(6,.p 2 0),(7,vi ag)]) [] [.cells [vi 3,vs [],vi 0,vu ae,vi n_0] [],.cells [vi n_4,vs l_5,vi n_6,vu n_7,vi n_8] [],.cells a2 []]) .ret)))))) (aT b_1 (ob l_9[0]? fun ah=>aW ah fun ai=>fF ai fun aj=>ob l_9[1]? fun ak=>aW ak fun al=>bD .i64 al fun am=>aM (decide (0<=am/\am<=(aj.length:Int))) (aM (decide (0<=n_0/\n_0<=(am.toNat:Int))) (cV (.call 149 [vs (List.take (am.toNat-n_0.toNat) (List.drop n_0.toNat aj))] []) fun an=>dY an fun ao=>aM (ao.length==2) (aW (ao.getD 0 (vb false)) fun ap=>bD .i64 ap fun aq=>aW (ao.getD 1 (vb false)) fun ar=>bD .i64 ar fun au => .call (.at_ 99 1 [true,true,true,true,true,true,true,true,true,true,true] (sv 242 [(0,.p 0 0),(2,.p 1 0),(6,.p 2 0),(7,vi au)]) [] [.cells [vi 2,vs [],vi aq,vu 0,vi n_0] [],.cells [vi n_4,vs l_5,vi n_6,vu n_7,vi n_8] [],.cells l_9 []]) .ret)))) (ob l_9[0]? fun av=>aW av fun aw=>fF aw fun ax=>ob l_9[1]? fun ay=>aW ay fun az=>bD .i64 az fun b0=>aM (decide (0<=b0/\b0<=(ax.length:Int))) (aM (decide (0<=n_0/\n_0<=(b0.toNat:Int))) (cV (.call 150 [vs (List.take (b0.toNat-n_0.toNat) (List.drop n_0.toNat ax))] []) fun b1=>dY b1 fun b2=>aM (b2.length==2) (aW (b2.getD 0 (vb false)) fun b3=>bD .u64 b3 fun b4=>aW (b2.getD 1 (vb false)) fun b5=>bD .i64 b5 fun b6 => .call (.at_ 99 1 [true,true,true,true,true,true,true,true,true,true,true] (sv 242 [(0,.p 0 0),(2,.p 1 0),(6,.p 2 0),(7,vi b6)]) [] [.cells [vi 3,vs [],vi 0,vu b4,vi n_0] [],.cells [vi n_4,vs l_5,vi n_6,vu n_7,vi n_8] [],.cells l_9 []]) .ret)))))):=
 aF (by kernel_rfl)
theorem jt(n_0 n_1 n_2:Int)(b_3:Bool)(n_4:Int)(l_5:List UInt8)(n_6 n_7 n_8:Int)(l_9:List UInt8)(n_10 n_11 n_12:Int):rk Tryz.prog aE (.at_ 46 1 [true,false,false,false,false,true,false,true,true,true,true,true,true,true,false,false,true,true,true,true,true,true] (sv 194 [(0,.p 0 0),(2,.p 1 0),(3,vi n_0),(4,.d (.i .u8 n_1)),(6,vi n_2),(152,vb b_3)]) [] [.cells [vi n_4,vs l_5,vi n_6,vu n_7,vi n_8] [],.cells [vs l_9,vi n_10,vi n_11,vi n_12] []])=aC (rk Tryz.prog aE) (aT b_3 (.call (.at_ 46 1 [false,false,true,false,true,true,true,true,true,true,true,false,false,true,true,true,true,true,true] (sv 194 [(0,.p 0 0),(2,.p 1 0),(3,vi n_0),(4,.d (.i .u8 n_1)),(6,vi (IntKind.i64.wrap (n_2+1)))]) [] [.cells [vi n_4,vs l_5,vi n_6,vu n_7,vi n_8] [],.cells [vs l_9,vi n_10,vi n_11,vi n_12] []]) .ret) (aT (n_2==(l_9.length:Int)) (.call (.at_ 46 1 [true,false,true,true,false,true,true,true,true,true,true,true,false,false,true,true,true,true,true,true] (sv 194 [(0,.p 0 0),(2,.p 1 0),(3,vi n_0),(6,vi n_2),(170,vb true)]) [] [.cells [vi n_4,vs l_5,vi n_6,vu n_7,vi n_8] [],.cells [vs l_9,vi n_10,vi n_11,vi n_12] []]) .ret) (ob (bh l_9 n_2) fun a => .call (.at_ 46 1 [true,false,true,true,false,true,true,true,true,true,true,true,false,false,true,true,true,true,true,true] (sv 194 [(0,.p 0 0),(2,.p 1 0),(3,vi n_0),(6,vi n_2),(170,vb ((a.toNat:Int)==10))]) [] [.cells [vi n_4,vs l_5,vi n_6,vu n_7,vi n_8] [],.cells [vs l_9,vi n_10,vi n_11,vi n_12] []]) .ret))):=
 aF (by kernel_rfl)
theorem my(n_0 n_1:Int)(b_2:Bool)(n_3:Int)(l_4:List UInt8)(n_5 n_6 n_7:Int)(l_8:List UInt8)(n_9 n_10 n_11:Int):rk Tryz.prog aE (.at_ 46 1 [true,false,true,true,false,true,true,true,true,true,true,true,false,false,true,true,true,true,true,true] (sv 194 [(0,.p 0 0),(2,.p 1 0),(3,vi n_0),(6,vi n_1),(170,vb b_2)]) [] [.cells [vi n_3,vs l_4,vi n_5,vu n_6,vi n_7] [],.cells [vs l_8,vi n_9,vi n_10,vi n_11] []])=aC (rk Tryz.prog aE) (aT b_2 (c1 (.call 95 [.p 0 0,vi 2,vi n_0] [.cells [vs l_8,vi n_9,vi n_10,vi n_11] []]) 4 [] fun a c=>dY a fun e=>aM (e.length==0) (.ret (.d (.g [.i .i64 0,.s [],.i .i64 0,.i .u64 0,.i .i64 0]),[.cells c []]))) (aM (decide (0<=n_1/\n_1<=(l_8.length:Int))) (aM (decide (0<=IntKind.i64.wrap (n_0+1)/\IntKind.i64.wrap (n_0+1)<=(n_1.toNat:Int))) (.ret (.d (.g [.i .i64 4,.s (List.take (n_1.toNat-(IntKind.i64.wrap (n_0+1)).toNat) (List.drop (IntKind.i64.wrap (n_0+1)).toNat l_8)),.i .i64 0,.i .u64 0,.i .i64 n_0]),[.cells [vs l_8,vi (IntKind.i64.wrap (n_1+1)),vi n_10,vi n_11] []]))))):=
 aF (by kernel_rfl)
end Go.Dn.Dec
namespace Go.Dn.Dec
open Go.Proofs
def aQ(s:List UInt8)(i e a:Int):Ob := .cells [.d (.s s),.d (.i .i64 i),.d (.i .i64 e),.d (.i .i64 a)] []
theorem drop_at{s:List UInt8}{i:Nat}(h:i<s.length):∃c,s.drop i=c::s.drop (i+1)/\bh s (i:Int)=some c:=
 ⟨s[i],List.drop_eq_getElem_cons h,by rw[bp,List.getElem?_eq_getElem h]⟩
theorem Ai(c:UInt8):rk Tryz.prog aE (Task.call 96 [V.d (D.i .u8 (c.toNat:Int))] [])=some (.d (.b (ns c)),[]):=by
 have I7:((c.toNat:Int)==95)=(c==95):=bG c 95
 have fin:ns c=((decide (97<=c.toNat)&&decide (c.toNat<=122))||(decide (65<=c.toNat)&&decide (c.toNat<=90))||c==95):=by
  unfold ns
  cases (c==95)<;>cases decide (97<=c.toNat)<;>cases decide (c.toNat<=122)<;>cases decide (65<=c.toNat)<;>cases decide (c.toNat<=90)<;>rfl
 rw[Ms,fin]
 by_cases h1:97<=c.toNat
 ·rw[bf (by omega)]
  by_cases h2:c.toNat<=122
  ·rw[bf (by omega),aD,decide_eq_true h1,decide_eq_true h2];rfl
  ·rw[bc (by omega),bf (by omega),bc (by omega),aD,decide_eq_false h2,decide_eq_false (show ¬c.toNat<=90 by omega),Bool.and_false,Bool.and_false,I7];rfl
 ·rw[bc (by omega),decide_eq_false h1]
  by_cases h3:65<=c.toNat
  ·rw[bf (by omega)]
   by_cases h4:c.toNat<=90
   ·rw[bf (by omega),aD,decide_eq_true h3,decide_eq_true h4];rfl
   ·rw[bc (by omega),aD,decide_eq_false h4,Bool.and_false,I7];rfl
  ·rw[bc (by omega),aD,decide_eq_false h3,I7];rfl
theorem mR(c:UInt8):rk Tryz.prog aE (Task.call 98 [V.d (D.i .u8 (c.toNat:Int))] [])=some (.d (.b (aG c)),[]):=by
 rw[Mu]
 unfold aG
 have d57:decide ((c.toNat:Int)<=57)=decide (c.toNat<=57):=by congr 1;exact propext (by omega)
 by_cases h:48<=c.toNat
 ·rw[bf (by omega),aD,d57,decide_eq_true h];rfl
 ·rw[bc (by omega),aD,decide_eq_false h];rfl
theorem ED(c:UInt8):rk Tryz.prog aE (Task.call 145 [V.d (D.i .u8 (c.toNat:Int))] [])=some (.d (.i .i64 (if cX c=true then(bT c:Int)else -1)),[]):=by
 have hlt:=c.toNat_lt
 have last:∀b:Bool,b=decide (65<=c.toNat/\c.toNat<=70)->cX c=b->¬(97<=c.toNat)->¬c.toNat<=57->
   rk Tryz.prog aE (Task.at_ 145 0 [true,true,true,true,true,false,false,true] (sv 31 [(0,V.d (D.i .u8 (c.toNat:Int))),(20,V.d (D.b b))]) [] [])=some (.d (.i .i64 (if cX c=true then(bT c:Int)else -1)),[]):=by
  intro b hb hx h1 h2
  rw[mW,hx]
  cases b with
  |false=>rw[aY,aD];rfl
  |true=>
   have h3:=of_decide_eq_true hb.symm
   have w1:IntKind.u8.wrap ((c.toNat:Int)-65)=(c.toNat:Int)-65:=by rw[wrap_u8]<;>omega
   have w2:IntKind.i64.wrap ((c.toNat:Int)-65)=(c.toNat:Int)-65:=by rw[wrap_i64]<;>omega
   have w3:IntKind.i64.wrap ((c.toNat:Int)-65+10)=(bT c:Int):=by
    unfold bT;rw[if_neg h2,if_neg h1,wrap_i64]<;>omega
   rw[bk,aD,w1,w2,w3];rfl
 rw[Lt,dh (mR c)]
 have hB:cX c=(aG c||(decide (97<=c.toNat)&&decide (c.toNat<=102))||(decide (65<=c.toNat)&&decide (c.toNat<=70))):=rfl
 cases hd:aG c with
 |true=>
  have:=(dW c).1 hd
  have w1:IntKind.u8.wrap ((c.toNat:Int)-48)=(c.toNat:Int)-48:=by rw[wrap_u8]<;>omega
  have w2:IntKind.i64.wrap ((c.toNat:Int)-48)=(bT c:Int):=by unfold bT;rw[if_pos (by omega),wrap_i64]<;>omega
  rw[bk,aD,w1,w2,hB,hd];rfl
 |false=>
  have hnd:¬(48<=c.toNat/\c.toNat<=57):=fun h=>by have:=(dW c).2 h;rw[hd]at this;cases this
  rw[hd,Bool.false_or]at hB
  rw[aY]
  by_cases h1:97<=c.toNat
  ·rw[decide_eq_true h1,Bool.true_and]at hB
   rw[bf (by omega),aA,rO]
   by_cases h2:c.toNat<=102
   ·have w1:IntKind.u8.wrap ((c.toNat:Int)-97)=(c.toNat:Int)-97:=by rw[wrap_u8]<;>omega
    have w2:IntKind.i64.wrap ((c.toNat:Int)-97)=(c.toNat:Int)-97:=by rw[wrap_i64]<;>omega
    have w3:IntKind.i64.wrap ((c.toNat:Int)-97+10)=(bT c:Int):=by
     unfold bT;rw[if_neg (by omega),if_pos h1,wrap_i64]<;>omega
    rw[decide_eq_true h2]at hB
    rw[decide_eq_true (show (c.toNat:Int)<=102 by omega),bk,aD,w1,w2,w3,hB];rfl
   ·rw[decide_eq_false h2,decide_eq_false (show ¬c.toNat<=70 by omega)]at hB
    have hB':cX c=false:=by rw[hB];simp
    rw[decide_eq_false (show ¬(c.toNat:Int)<=102 by omega),aY,bf (by omega),aA,decide_eq_false (show ¬(c.toNat:Int)<=70 by omega),mW,aY,aD,hB'];rfl
  ·rw[decide_eq_false h1,Bool.false_and,Bool.false_or]at hB
   rw[bc (by omega),aA,rO,aY]
   by_cases h3:65<=c.toNat
   ·have d70:decide ((c.toNat:Int)<=70)=decide (c.toNat<=70):=by congr 1;exact propext (by omega)
    rw[decide_eq_true h3,Bool.true_and]at hB
    rw[bf (by omega),aA,d70]
    exact last _ (by congr 1;exact propext (by omega)) hB h1 (by omega)
   ·rw[decide_eq_false h3,Bool.false_and]at hB
    rw[bc (by omega),aA,mW,aY,aD,hB];rfl
theorem oU(s t:List UInt8)(a:Nat)(ha:a<=s.length)(hs:s.length<=100000)(ht:t.length<=100):rk Tryz.prog aE (Task.call 94 [V.d (D.s s),V.d (D.i .i64 (a:Int)),V.d (D.s t)] [])=some (.d (.b ((s.drop a).take t.length==t)),[]):=by
 have w:IntKind.i64.wrap ((a:Int)+(t.length:Int))=((a+t.length:Nat):Int):=by rw[wrap_i64]<;>omega
 rw[Mr,w]
 by_cases h:a+t.length<=s.length
 ·rw[bf (by omega),aH (by omega),aH (by omega),aD,Int.toNat_natCast,Int.toNat_natCast,Nat.add_sub_cancel_left]
 ·have hne:((s.drop a).take t.length==t)=false:=by
   rw[beq_eq_false_iff_ne]
   intro e
   have:=congrArg List.length e
   rw[List.length_take,List.length_drop]at this
   omega
  rw[bc (by omega),aD,hne]
theorem wX(c:UInt8)(q:List UInt8)(x y:UInt8):((c::q).take 2==[x,y])=decide (c=x/\q.head?=some y):=by
 rw[Bool.eq_iff_iff,beq_iff_eq,decide_eq_true_iff]
 cases q with
 |nil=>simp
 |cons d q=>simp
theorem jf(s:List UInt8)(i e a n m:Int):rk Tryz.prog aE (Task.call 95 [V.p 0 0,V.d (D.i .i64 n),V.d (D.i .i64 m)] [aQ s i e a])=some (.t [],[aQ s i n m]):=by
 unfold aQ;rw[I7,aD]
theorem oh(s:List UInt8)(hs:s.length<=100000)(e a:Int)(n0:Nat):∀(m i:Nat),i+m=s.length->
  rk Tryz.prog aE (Task.at_ 147 1 [false,false,true,true] (sv 43 [(0,V.p 0 0),(3,V.d (D.i .i64 (n0:Int)))]) [] [aQ s (i:Int) e a])=
   some (.d (.b (decide (n0<i+((s.drop i).takeWhile aG).length))),[aQ s ((i+((s.drop i).takeWhile aG).length:Nat):Int) e a])
 |0,i,h=>by
  unfold aQ
  rw[ug,bc (by omega),aA,rP,aY,aD,List.drop_eq_nil_of_le (by omega)]
  rw[show decide ((i:Int)>(n0:Int))=decide (n0<i+(List.takeWhile aG []).length) by congr 1;exact propext (by simp)]
  rfl
 |m+1,i,h=>by
  obtain⟨c,hd,hg⟩:=drop_at (show i<s.length by omega)
  have ih:=oh s hs e a n0 m (i+1) (by omega)
  have w1:IntKind.i64.wrap ((i:Int)+1)=((i+1:Nat):Int):=by rw[wrap_i64]<;>omega
  unfold aQ at ih⊢
  rw[ug,bf (by omega),aJ hg,dh (mR c),aA,rP,hd,List.takeWhile_cons]
  cases hc:aG c with
  |true=>
   rw[bk,w1,aA,ih,if_pos rfl,List.length_cons,show i+1+((s.drop (i+1)).takeWhile aG).length=i+(((s.drop (i+1)).takeWhile aG).length+1) by omega]
  |false=>
   rw[aY,aD,if_neg (by decide),List.length_nil,Nat.add_zero]
   rw[show decide ((i:Int)>(n0:Int))=decide (n0<i) by congr 1;exact propext (by omega)]
theorem pv(s:List UInt8)(hs:s.length<=100000)(i:Nat)(hi:i<=s.length)(e a:Int):
  rk Tryz.prog aE (Task.call 147 [V.p 0 0] [aQ s (i:Int) e a])=some (.d (.b (decide ((s.drop i).takeWhile aG≠[]))),[aQ s ((i+((s.drop i).takeWhile aG).length:Nat):Int) e a]):=by
 have h:=oh s hs e a i (s.length-i) i (by omega)
 have e1:decide (i<i+((s.drop i).takeWhile aG).length)=decide ((s.drop i).takeWhile aG≠[]):=by
  congr 1;apply propext
  rw[<-List.length_pos_iff];omega
 rw[<-e1,<-h]
 unfold aQ
 rw[Lv,aA]
theorem Ah(s:List UInt8)(hs:s.length<=100000)(i n:Nat)(hi:i<=s.length)(hn:n<=100)(e a:Int):
  rk Tryz.prog aE (Task.call 148 [V.p 0 0,V.d (D.i .i64 (n:Int))] [aQ s (i:Int) e a])=some (.d (.b (aG ((s.drop i).getD n 0))),[aQ s (i:Int) e a]):=by
 have w1:IntKind.i64.wrap ((i:Int)+(n:Int))=((i+n:Nat):Int):=by rw[wrap_i64]<;>omega
 have hg:(s.drop i).getD n 0=s.getD (i+n) 0:=by
  rw[List.getD_eq_getElem?_getD,List.getD_eq_getElem?_getD,List.getElem?_drop]
 unfold aQ
 rw[Lw,w1,hg]
 by_cases h:i+n<s.length
 ·have g:bh s ((i+n:Nat):Int)=some (s.getD (i+n) 0):=by
   rw[bp,List.getD_eq_getElem?_getD,List.getElem?_eq_getElem h];rfl
  rw[bf (by omega),aJ g,dh (mR _),aD]
 ·have g:s.getD (i+n) 0=0:=by rw[List.getD_eq_getElem?_getD,List.getElem?_eq_none (by omega)];rfl
  rw[bc (by omega),aD,g];rfl
abbrev qX(o:Ob):Task:=Task.at_ 45 1 [false] (sv 146 [(0,V.p 0 0)]) [] [o]
theorem uM(s:List UInt8)(hs:s.length<=100000)(e a:Int):∀(m i:Nat),i+m=s.length->
  rk Tryz.prog aE (Task.at_ 45 1 [false,false,true,true,true,false,true,false,true,false,false] (sv 146 [(0,V.p 0 0)]) [] [aQ s (i:Int) e a])=
   rk Tryz.prog aE (qX (aQ s ((i+((s.drop i).takeWhile (· != 10)).length:Nat):Int) e a))
 |0,i,h=>by
  unfold aQ
  rw[rT,bc (by omega),aA,qb,aY,aA,List.drop_eq_nil_of_le (by omega)]
  rfl
 |m+1,i,h=>by
  obtain⟨c,hd,hg⟩:=drop_at (show i<s.length by omega)
  have ih:=uM s hs e a m (i+1) (by omega)
  have w1:IntKind.i64.wrap ((i:Int)+1)=((i+1:Nat):Int):=by rw[wrap_i64]<;>omega
  have e10:((c.toNat:Int) != 10)=(c != 10):=by rw[bne,bne,show ((c.toNat:Int)==10)=(c==10)from bG c 10]
  unfold aQ at ih⊢
  rw[rT,bf (by omega),aJ hg,aA,qb,e10,hd,List.takeWhile_cons]
  cases hc:(c != 10) with
  |true=>rw[bk,w1,aA,ih,if_pos rfl,List.length_cons,show i+1+((s.drop (i+1)).takeWhile (· != 10)).length=i+(((s.drop (i+1)).takeWhile (· != 10)).length+1) by omega]
  |false=>rw[aY,aA,if_neg (by decide),List.length_nil,Nat.add_zero]
theorem uU(s:List UInt8)(hs:s.length<=100000)(p:Nat)(a:Int):∀(m k:Nat),k+m=s.length->
  rk Tryz.prog aE (Task.at_ 45 1 [false,false,true,false,true,true,true,true,true,false,true,false,true,false,false] (sv 146 [(0,V.p 0 0),(3,V.d (D.i .i64 (k:Int)))]) [] [aQ s (p:Int) 0 a])=
   match mZ (s.drop k) with
   |none=>some (.t [],[aQ s (p:Int) 2 (p:Int)])
   |some n=>rk Tryz.prog aE (qX (aQ s ((k+n:Nat):Int) 0 a))
 |0,k,h=>by
  have hf:=jf s (p:Int) 0 a 2 (p:Int)
  rw[List.drop_eq_nil_of_le (by omega)]
  unfold aQ at hf⊢
  rw[lh,bc (by omega),aA,ki,aY,bf (by omega),dz hf (by rfl) (by rfl),aD]
  rfl
 |m+1,k,h=>by
  obtain⟨c,hd,hg⟩:=drop_at (show k<s.length by omega)
  have ih:=uU s hs p a m (k+1) (by omega)
  have hst:=oU s [42,47] k (by omega) hs (by decide)
  have hl:([42,47]:List UInt8).length=2:=rfl
  rw[hl,hd,wX]at hst
  have w1:IntKind.i64.wrap ((k:Int)+1)=((k+1:Nat):Int):=by rw[wrap_i64]<;>omega
  have w2:IntKind.i64.wrap ((k:Int)+2)=((k+2:Nat):Int):=by rw[wrap_i64]<;>omega
  rw[hd]
  unfold mZ
  by_cases hc:c=42/\(s.drop (k+1)).head?=some 47
  ·rw[decide_eq_true hc]at hst
   rw[if_pos hc]
   unfold aQ
   rw[lh,bf (by omega),dh hst,aA,ki,Bool.not_true,aY,bc (by omega),w2,aA]
  ·rw[decide_eq_false hc]at hst
   rw[if_neg hc]
   have go:rk Tryz.prog aE (Task.at_ 45 1 [false,false,true,false,true,true,true,true,true,false,true,false,true,false,false] (sv 146 [(0,V.p 0 0),(3,V.d (D.i .i64 (k:Int)))]) [] [aQ s (p:Int) 0 a])=
     rk Tryz.prog aE (Task.at_ 45 1 [false,false,true,false,true,true,true,true,true,false,true,false,true,false,false] (sv 146 [(0,V.p 0 0),(3,V.d (D.i .i64 ((k+1:Nat):Int)))]) [] [aQ s (p:Int) 0 a]):=by
    unfold aQ
    rw[lh,bf (by omega),dh hst,aA,ki,Bool.not_false,bk,w1,aA]
   rw[go,ih]
   cases mZ (s.drop (k+1)) with
   |none=>rfl
   |some n=>
    show _=rk Tryz.prog aE (qX (aQ s ((k+(n+1):Nat):Int) 0 a))
    rw[show k+(n+1)=k+1+n by omega]
theorem rN(s:List UInt8)(i:Nat)(hi:s.length<=i)(e a:Int):rk Tryz.prog aE (qX (aQ s (i:Int) e a))=some (.t [],[aQ s (i:Int) e a]):=by
 unfold qX aQ
 rw[vU,bc (by omega),aA,rS,aY,aD]
theorem ue(s:List UInt8)(hs:s.length<=100000)(i:Nat)(a:Int)(c:UInt8)(hi:i<s.length)(hg:bh s (i:Int)=some c)(hc:Ea c=true):
  rk Tryz.prog aE (qX (aQ s (i:Int) 0 a))=rk Tryz.prog aE (qX (aQ s ((i+1:Nat):Int) 0 a)):=by
 have w1:IntKind.i64.wrap ((i:Int)+1)=((i+1:Nat):Int):=by rw[wrap_i64]<;>omega
 have e9:((c.toNat:Int)==9)=(c==9):=bG c 9
 have e10:((c.toNat:Int)==10)=(c==10):=bG c 10
 have e13:((c.toNat:Int)==13)=(c==13):=bG c 13
 have e32:((c.toNat:Int)==32)=(c==32):=bG c 32
 unfold Ea at hc
 unfold qX aQ
 rw[vU,bf (by omega),aA,beq_self_eq_true,rS,bk,aJ hg,e9]
 cases h9:(c==9) with
 |true=>rw[bk,aA,gJ,bk,w1,aA]
 |false=>
  rw[aY,e10]
  cases h10:(c==10) with
  |true=>rw[bk,aA,gJ,bk,w1,aA]
  |false=>
   rw[aY,e13]
   cases h13:(c==13) with
   |true=>rw[bk,aA,gJ,bk,w1,aA]
   |false=>
    rw[h9,h10,h13,Bool.false_or,Bool.false_or,Bool.false_or]at hc
    rw[aY,e32,hc,aA,gJ,bk,w1,aA]
theorem CO(s:List UInt8)(i:Nat)(a:Int)(c:UInt8)(hi:i<s.length)(hg:bh s (i:Int)=some c)(hc:Ea c=false):
  rk Tryz.prog aE (qX (aQ s (i:Int) 0 a))=rk Tryz.prog aE (Task.at_ 45 1 [true,false,true,false,true,false,false] (sv 146 [(0,V.p 0 0),(2,V.d (D.i .u8 (c.toNat:Int))),(30,V.d (D.b false))]) [] [aQ s (i:Int) 0 a]):=by
 have e9:((c.toNat:Int)==9)=(c==9):=bG c 9
 have e10:((c.toNat:Int)==10)=(c==10):=bG c 10
 have e13:((c.toNat:Int)==13)=(c==13):=bG c 13
 have e32:((c.toNat:Int)==32)=(c==32):=bG c 32
 unfold Ea at hc
 simp only[Bool.or_eq_false_iff]at hc
 obtain⟨⟨⟨h9,h10⟩,h13⟩,h32⟩:=hc
 unfold qX aQ
 rw[vU,bf (by omega),aA,beq_self_eq_true,rS,bk,aJ hg,e9,h9,aY,e10,h10,aY,e13,h13,aY,e32,h32,aA]
theorem xK(s:List UInt8)(hs:s.length<=100000)(a:Int)(b:Nat):∀(f k:Nat),s.length<=b+k+f->b+k<=s.length->
  match gv f (s.drop (b+k)) k with
  |(k',false)=>rk Tryz.prog aE (qX (aQ s ((b+k:Nat):Int) 0 a))=some (.t [],[aQ s ((b+k':Nat):Int) 2 ((b+k':Nat):Int)])
  |(k',true)=>rk Tryz.prog aE (qX (aQ s ((b+k:Nat):Int) 0 a))=some (.t [],[aQ s ((b+k':Nat):Int) 0 a])
 |0,k,hf,hk=>rN s (b+k) (by omega) 0 a
 |f+1,k,hf,hk=>by
  unfold gv
  rcases Nat.lt_or_ge (b+k) s.length with hlt|hge
  ·obtain⟨c,hd,hg⟩:=drop_at hlt
   have hln:=(lE (s.drop (b+k))).1
   have hln1:=(lE (s.drop (b+k))).2 (by rw[hd];simp)
   have hdl:(s.drop (b+k)).length=s.length-(b+k):=List.length_drop ..
   have nxt:∀m:Nat,1<=m->b+k+m<=s.length->rk Tryz.prog aE (qX (aQ s ((b+k:Nat):Int) 0 a))=rk Tryz.prog aE (qX (aQ s ((b+k+m:Nat):Int) 0 a))->
     match gv f ((s.drop (b+k)).drop m) (k+m) with
     |(k',false)=>rk Tryz.prog aE (qX (aQ s ((b+k:Nat):Int) 0 a))=some (.t [],[aQ s ((b+k':Nat):Int) 2 ((b+k':Nat):Int)])
     |(k',true)=>rk Tryz.prog aE (qX (aQ s ((b+k:Nat):Int) 0 a))=some (.t [],[aQ s ((b+k':Nat):Int) 0 a]):=by
    intro m h1 h2 h3
    have ih:=xK s hs a b f (k+m) (by omega) (by omega)
    rw[h3,List.drop_drop,Nat.add_assoc]
    exact ih
   have st1:=oU s [47,47] (b+k) (by omega) hs (by decide)
   have st2:=oU s [47,42] (b+k) (by omega) hs (by decide)
   have hl1:([47,47]:List UInt8).length=2:=rfl
   have hl2:([47,42]:List UInt8).length=2:=rfl
   rw[hl1,hd,wX]at st1
   rw[hl2,hd,wX]at st2
   have e35:((c.toNat:Int)==35)=(c==35):=bG c 35
   cases hsp:Ea c with
   |true=>
    rw[hd]
    simp only[hsp,if_true]
    have:=nxt 1 (by omega) (by omega) (ue s hs (b+k) a c hlt hg hsp)
    rw[hd]at this
    exact this
   |false=>
    have h0:=CO s (b+k) a c hlt hg hsp
    have line:(c=35\/(c=47/\(s.drop (b+k+1)).head?=some 47))->rk Tryz.prog aE (qX (aQ s ((b+k:Nat):Int) 0 a))=rk Tryz.prog aE (qX (aQ s ((b+k+ij (s.drop (b+k)):Nat):Int) 0 a)):=by
     intro h
     have hL:=uM s hs 0 a (s.length-(b+k)) (b+k) (by omega)
     have hto:rk Tryz.prog aE (qX (aQ s ((b+k:Nat):Int) 0 a))=rk Tryz.prog aE (qX (aQ s ((b+k+((s.drop (b+k)).takeWhile (· != 10)).length:Nat):Int) 0 a)):=by
      rw[h0,<-hL]
      unfold aQ
      rw[gJ,aY,e35]
      by_cases h35:c=35
      ·rw[da (beq_iff_eq.2 h35),aA,lW,bk,aA]
      ·have h47:c=47/\(s.drop (b+k+1)).head?=some 47:=h.resolve_left h35
       rw[decide_eq_true h47]at st1
       rw[cj (beq_eq_false_iff_ne.2 h35),dh st1,aA,lW,bk,aA]
     rw[hto]
     unfold ij
     have hsum:((s.drop (b+k)).takeWhile (· != 10)).length+((s.drop (b+k)).dropWhile (· != 10)).length=(s.drop (b+k)).length:=by
      have:=congrArg List.length (List.takeWhile_append_dropWhile (p:=(· != (10:UInt8))) (l:=s.drop (b+k)))
      rwa[List.length_append]at this
     by_cases hnil:(s.drop (b+k)).dropWhile (· != 10)=[]
     ·rw[if_pos hnil]
      rw[hnil,List.length_nil]at hsum
      rw[show ((s.drop (b+k)).takeWhile (· != 10)).length=(s.drop (b+k)).length by omega]
     ·rw[if_neg hnil,<-Nat.add_assoc]
      have hpos:0<((s.drop (b+k)).dropWhile (· != 10)).length:=List.length_pos_iff.2 hnil
      have h10:bh s ((b+k+((s.drop (b+k)).takeWhile (· != 10)).length:Nat):Int)=some 10:=by
       have h1:=List.head?_dropWhile_not (fun x:UInt8=>x != 10) (s.drop (b+k))
       have h2:s.drop (b+k+((s.drop (b+k)).takeWhile (· != 10)).length)=(s.drop (b+k)).dropWhile (· != 10):=by
        rw[<-List.drop_drop]
        have h3:=List.takeWhile_append_dropWhile (p:=(· != (10:UInt8))) (l:=s.drop (b+k))
        calc (s.drop (b+k)).drop ((s.drop (b+k)).takeWhile (· != 10)).length
          = ((s.drop (b+k)).takeWhile (· != 10)++(s.drop (b+k)).dropWhile (· != 10)).drop ((s.drop (b+k)).takeWhile (· != 10)).length:=by rw[h3]
         _=_:=by rw[List.drop_left]
       rw[bp,<-List.head?_drop,h2]
       cases hh:((s.drop (b+k)).dropWhile (· != 10)).head? with
       |none=>rw[List.head?_eq_none_iff]at hh;exact absurd hh hnil
       |some x=>
        rw[hh]at h1
        simp at h1
        rw[h1]
      exact ue s hs _ a 10 (by omega) h10 (by rfl)
    rw[hd]at hln hln1 hdl line nxt
    rw[hd]
    simp only[hsp,Bool.false_eq_true,if_false]
    by_cases h2:c=35\/(c=47/\(s.drop (b+k+1)).head?=some 47)
    ·rw[if_pos h2]
     exact nxt _ (by omega) (by omega) (line h2)
    ·rw[if_neg h2]
     have h35:c≠35:=fun e=>h2 (Or.inl e)
     have hn1:¬(c=47/\(s.drop (b+k+1)).head?=some 47):=fun e=>h2 (Or.inr e)
     rw[decide_eq_false hn1]at st1
     by_cases h3:c=47/\(s.drop (b+k+1)).head?=some 42
     ·rw[if_pos h3]
      rw[decide_eq_true h3]at st2
      have hlen1:b+k+2<=s.length:=by
       rcases Nat.lt_or_ge (b+k+1) s.length with h|h
       ·omega
       ·rw[List.drop_eq_nil_of_le h]at h3;exact absurd h3.2 (by simp)
      have w2:IntKind.i64.wrap (((b+k:Nat):Int)+2)=((b+k+2:Nat):Int):=by rw[wrap_i64]<;>omega
      have hN:=uU s hs (b+k) a (s.length-(b+k+2)) (b+k+2) (by omega)
      have hto:rk Tryz.prog aE (qX (aQ s ((b+k:Nat):Int) 0 a))=rk Tryz.prog aE (Task.at_ 45 1 [false,false,true,false,true,true,true,true,true,false,true,false,true,false,false] (sv 146 [(0,V.p 0 0),(3,V.d (D.i .i64 ((b+k+2:Nat):Int)))]) [] [aQ s ((b+k:Nat):Int) 0 a]):=by
       rw[h0]
       unfold aQ
       rw[gJ,aY,e35,cj (beq_eq_false_iff_ne.2 h35),dh st1,aA,lW,aY,dh st2,bk,w2,aA]
      have hdd:(s.drop (b+k+1)).drop 1=s.drop (b+k+2):=by rw[List.drop_drop]
      rw[hdd]
      cases he:mZ (s.drop (b+k+2)) with
      |none=>
       rw[he]at hN
       exact hto.trans hN
      |some n=>
       rw[he]at hN
       have hn:=qY _ _ he
       rw[List.length_drop]at hn
       refine nxt (2+n) (by omega) (by omega) ?_
       rw[hto,show b+k+(2+n)=b+k+2+n by omega]
       exact hN
     ·rw[if_neg h3]
      rw[decide_eq_false h3]at st2
      show rk Tryz.prog aE (qX (aQ s ((b+k:Nat):Int) 0 a))=_
      rw[h0]
      unfold aQ
      rw[gJ,aY,e35,cj (beq_eq_false_iff_ne.2 h35),dh st1,aA,lW,aY,dh st2,aY,aD]
  ·have:=rN s (b+k) hge 0 a
   rw[List.drop_eq_nil_of_le hge]
   exact this
end Go.Dn.Dec
namespace Go.Dn.Dec
open Go.Proofs
section
variable {f : Task → Option Out}
theorem xJ{t:Task}{a b c d e:D}{cs:List V}{fl fl':Fl}{m:Nat}{dv:D}{K:List V->List D->Tr}(h:f t=some (.d (.g [a,b,c,d,e]),[.cells cs fl]))(hm:cs.length=m)(hf:(fl==fl')=true)
  (h1:([V.d a,V.d b,V.d c,V.d d,V.d e].all V.one)=true):
  aC f (.call t fun o=>gE o.snd fun x l2=>fk x fun c g=>aM (c.length==m) (aM (g==fl') (jZ l2 (aW o.fst fun d=>xj 5 d fun l=>
   aM ([V.d (l.getD 0 dv),V.d (l.getD 1 dv),V.d (l.getD 2 dv),V.d (l.getD 3 dv),V.d (l.getD 4 dv)].all V.one) (K c l)))))=aC f (K cs [a,b,c,d,e]):=by
 rw[cE h]
 show aC f (aM (cs.length==m) (aM (fl==fl') (aM true (aM ([V.d a,V.d b,V.d c,V.d d,V.d e].all V.one) (K cs [a,b,c,d,e])))))=_
 rw[hm,beq_self_eq_true,ba,hf,ba,ba,h1,ba]
end
def kV(s:List UInt8)(i:Nat)(m w:Int)(at_:Nat):Ob:=
 if m≠0 then aQ s (i:Int) m (at_:Int)else if nW s i=true then aQ s (i:Int) 2 (i:Int)else aQ s (i:Int) 0 w
def eP(s:List UInt8)(a:Nat)(w:Int)(r:Cz)(o:Option Out):Prop:=
 match r with
 | .inr (e,w')=>e≠0/\∃(x:Int) (T:Tok),o=some (.d T.D,[aQ s x e (w':Int)])
 | .inl (t,n)=>o=some (.d t.D,[aQ s ((a+n:Nat):Int) 0 w])
theorem nN(s:List UInt8)(a n:Nat)(w:Int)(T:Tok):eP s a w (nX (s.drop a) n a T) (some (.d T.D,[kV s (a+n) 0 w a])):=by
 have h0:¬((0:Int)≠0):=by decide
 rw[El]
 unfold kV
 rw[if_neg h0]
 cases h:nW s (a+n) with
 |true=>exact⟨by decide,_,_,rfl⟩
 |false=>rfl
theorem iT(s:List UInt8)(a x:Nat)(m w:Int)(hm:m≠0)(T:Tok):eP s a w (.inr (m,a)) (some (.d T.D,[kV s x m w a])):=by
 unfold kV
 rw[if_pos hm]
 exact⟨hm,_,_,rfl⟩
theorem uc(s:List UInt8)(i:Nat)(hi:i<=s.length)(T:Tok)(m w:Int):
  rk Tryz.prog aE (Task.call 151 [V.p 0 0,V.d T.D,V.d (D.i .i64 m)] [aQ s (i:Int) 0 w])=some (.d T.D,[kV s i m w T.at_]):=by
 unfold kV
 by_cases hm:m≠0
 ·have hf:=jf s (i:Int) 0 w m (T.at_:Int)
  rw[if_pos hm]
  unfold Tok.D aQ at *
  rw[I6,jl hm,dz hf (by rfl) (by rfl),aD]
 ·have hm0:m=0:=by omega
  have hf:=jf s (i:Int) 0 w 2 (i:Int)
  rw[if_neg hm]
  have two:∀b:Bool,rk Tryz.prog aE (Task.at_ 151 1 [true,true,true,false,true] (sv 55 [(0,V.p 0 0),(4,V.p 1 0),(6,V.p 2 0),(47,V.d (D.b b))]) []
    [Ob.cells [V.d (D.i .i64 0),V.d (D.s []),V.d (D.i .i64 0),V.d (D.i .u64 0),V.d (D.i .i64 0)] [],
     Ob.cells [V.d (D.i .i64 (T.kind:Int)),V.d (D.s T.text),V.d (D.i .i64 T.n),V.d (D.i .u64 (T.d:Int)),V.d (D.i .i64 (T.at_:Int))] [],aQ s (i:Int) 0 w])=
    some (.d T.D,[if b=true then aQ s (i:Int) 2 (i:Int)else aQ s (i:Int) 0 w]):=by
   intro b
   unfold Tok.D aQ at *
   rw[CP]
   cases b with
   |true=>rw[bk,dz hf (by rfl) (by rfl),aD,if_pos rfl]
   |false=>rw[aY,aD,if_neg (by decide)]
  have h:=two (nW s i)
  rw[<-h]
  unfold nW
  rcases Nat.lt_or_ge i s.length with hlt|hge
  ·obtain⟨c,hd,hg⟩:=drop_at hlt
   have om:((c.toNat:Int)==46)=(c==46):=bG c 46
   rw[hd,List.getD_cons_zero]
   unfold Tok.D aQ at *
   rw[I6,eM hm0,bf (by omega),aJ hg,dh (Ai c)]
   cases hl:ns c with
   |true=>rw[bk,aA];rfl
   |false=>rw[aY,aJ hg,aA,om];rfl
  ·rw[List.drop_eq_nil_of_le hge]
   unfold Tok.D aQ at *
   rw[I6,eM hm0,bc (by omega),aA]
   rfl
def lb:List UInt8->Bool
 | []=>false
 |c::r=>(c==46&&(r.isEmpty||r.head?==some 46))||lb r
theorem rC:∀t:List UInt8,lb t=true↔(t.getLast?=some 46\/mw t=true)
 | []=>by simp[lb,mw]
 | [c]=>by simp[lb,mw]
 |c::d::r=>by
  have ih:=rC (d::r)
  unfold lb mw
  rw[Bool.or_eq_true,ih,Bool.or_eq_true,List.getLast?_cons_cons]
  simp only[List.isEmpty_cons,Bool.false_or]
  constructor
  ·rintro(h|h|h)
   ·exact Or.inr (Or.inl h)
   ·exact Or.inl h
   ·exact Or.inr (Or.inr h)
  ·rintro(h|h|h)
   ·exact Or.inr (Or.inl h)
   ·exact Or.inl h
   ·exact Or.inr (Or.inr h)
def cQ:Ob := .cells [V.d (D.i .i64 0),V.d (D.s []),V.d (D.i .i64 0),V.d (D.i .u64 0),V.d (D.i .i64 0)] []
theorem pL(s t:List UInt8)(ht:t.length<=4000)(a:Nat)(x w:Int):∀(m i:Nat) (e w':Int),i+m=t.length->
  rk Tryz.prog aE (Task.at_ 97 1 [false,true,false,true,true,true,true,true] (sv 110 [(0,V.p 0 0),(2,V.p 1 0),(3,V.d (D.i .i64 (a:Int))),(4,V.d (D.s t)),(5,V.d (D.i .i64 (i:Int)))]) [] [cQ,aQ s x e w'])=
   some (.d (Tok.D ⟨1,t,0,0,a⟩),[aQ s x (if lb (t.drop i)=true then 2 else e) (if lb (t.drop i)=true then(a:Int)else w')])
 |0,i,e,w',h=>by
  unfold cQ aQ Tok.D
  rw[qg,bc (by omega),aD,List.drop_eq_nil_of_le (by omega)]
  rfl
 |m+1,i,e,w',h=>by
  obtain⟨c,hd,hg⟩:=drop_at (show i<t.length by omega)
  have w1:IntKind.i64.wrap ((i:Int)+1)=((i+1:Nat):Int):=by rw[wrap_i64]<;>omega
  have w2:IntKind.i64.wrap ((t.length:Int)-1)=((t.length-1:Nat):Int):=by rw[wrap_i64]<;>omega
  have om:((c.toNat:Int)==46)=(c==46):=bG c 46
  have ih0:=pL s t ht a x w m (i+1) e w' (by omega)
  have ih1:=pL s t ht a x w m (i+1) 2 (a:Int) (by omega)
  have hf:=jf s x e w' 2 (a:Int)
  have step:∀b:Bool,rk Tryz.prog aE (Task.at_ 97 1 [true,false,false,true,false,false,true,false,true,true,true,true,true]
    (sv 110 [(0,V.p 0 0),(2,V.p 1 0),(3,V.d (D.i .i64 (a:Int))),(4,V.d (D.s t)),(5,V.d (D.i .i64 (i:Int))),(103,V.d (D.b b))]) [] [cQ,aQ s x e w'])=
    some (.d (Tok.D ⟨1,t,0,0,a⟩),[aQ s x (if (b||lb (t.drop (i+1)))=true then 2 else e) (if (b||lb (t.drop (i+1)))=true then(a:Int)else w')]):=by
   intro b
   cases b with
   |false=>
    rw[Bool.false_or,<-ih0]
    unfold cQ aQ
    rw[mz,aY,w1,aA]
   |true=>
    have:some ((V.d (Tok.D ⟨1,t,0,0,a⟩)),[aQ s x 2 (a:Int)])=some ((V.d (Tok.D ⟨1,t,0,0,a⟩)),[aQ s x (if lb (t.drop (i+1))=true then 2 else 2) (if lb (t.drop (i+1))=true then(a:Int) else(a:Int))]):=by
     split<;>rfl
    rw[Bool.true_or,if_pos rfl,if_pos rfl,this,<-ih1]
    unfold cQ aQ at *
    rw[mz,bk,dz hf (by rfl) (by rfl),w1,aA]
  rw[hd]
  have hb:lb (c::t.drop (i+1))=((c==46&&((t.drop (i+1)).isEmpty||(t.drop (i+1)).head?==some 46))||lb (t.drop (i+1))):=rfl
  rw[hb,<-step]
  unfold cQ aQ
  rw[qg,bf (by omega),aJ hg,om]
  cases h46:(c==46) with
  |false=>rw[aY,aA];rfl
  |true=>
   rw[bk,w2]
   by_cases hlast:i+1=t.length
   ·rw[cm (by omega),aA,List.drop_eq_nil_of_le (by omega)]
    rfl
   ·obtain⟨d,hd2,hg2⟩:=drop_at (show i+1<t.length by omega)
    have e46d:((d.toNat:Int)==46)=(d==46):=bG d 46
    have e46o:(some d==some (46:UInt8))=(d==46):=by
     rw[Bool.eq_iff_iff,beq_iff_eq,beq_iff_eq];exact⟨fun h=>Option.some.inj h,fun h=>by rw[h]⟩
    rw[bO (by omega),w1,aJ hg2,aA,e46d,hd2]
    show _=rk Tryz.prog aE (Task.at_ 97 1 _ (sv 110 [(0,V.p 0 0),(2,V.p 1 0),(3,V.d (D.i .i64 (a:Int))),(4,V.d (D.s t)),(5,V.d (D.i .i64 (i:Int))),(103,V.d (D.b (some d==some 46)))]) [] _)
    rw[e46o]
theorem uQ(s:List UInt8)(hs:s.length<=10000)(a:Nat)(w:Int):∀(m i:Nat),i+m=s.length->
  rk Tryz.prog aE (Task.at_ 97 1 [false,false,true,true] (sv 110 [(0,V.p 0 0),(2,V.p 1 0),(3,V.d (D.i .i64 (a:Int)))]) [] [cQ,aQ s (i:Int) 0 w])=
   rk Tryz.prog aE (Task.at_ 97 1 [true,false,false,false,false,true,true] (sv 110 [(0,V.p 0 0),(2,V.p 1 0),(3,V.d (D.i .i64 (a:Int))),(55,V.d (D.b false))]) [] [cQ,aQ s ((i+((s.drop i).takeWhile du).length:Nat):Int) 0 w])
 |0,i,h=>by
  unfold cQ aQ
  rw[xM,bc (by omega),aA,List.drop_eq_nil_of_le (by omega)]
  rfl
 |m+1,i,h=>by
  obtain⟨c,hd,hg⟩:=drop_at (show i<s.length by omega)
  have ih:=uQ s hs a w m (i+1) (by omega)
  have w1:IntKind.i64.wrap ((i:Int)+1)=((i+1:Nat):Int):=by rw[wrap_i64]<;>omega
  have om:((c.toNat:Int)==46)=(c==46):=bG c 46
  have go:rk Tryz.prog aE (Task.at_ 97 1 [false,false,true,true] (sv 110 [(0,V.p 0 0),(2,V.p 1 0),(3,V.d (D.i .i64 (a:Int)))]) [] [cQ,aQ s (i:Int) 0 w])=
    rk Tryz.prog aE (Task.at_ 97 1 [true,false,false,false,false,true,true] (sv 110 [(0,V.p 0 0),(2,V.p 1 0),(3,V.d (D.i .i64 (a:Int))),(55,V.d (D.b (du c)))]) [] [cQ,aQ s (i:Int) 0 w]):=by
   unfold cQ aQ du
   rw[xM,bf (by omega),aJ hg,dh (Ai c)]
   cases hl:ns c with
   |true=>rw[bk,aA];rfl
   |false=>
    rw[aY,aJ hg,dh (mR c)]
    cases hd:aG c with
    |true=>rw[bk,aA];rfl
    |false=>rw[aY,aJ hg,aA,om];rfl
  rw[go,hd,List.takeWhile_cons]
  cases hn:du c with
  |false=>rw[if_neg (by decide)];rfl
  |true=>
   rw[if_pos rfl,List.length_cons,show i+(((s.drop (i+1)).takeWhile du).length+1)=i+1+((s.drop (i+1)).takeWhile du).length by omega,<-ih]
   unfold cQ aQ
   rw[pz,bk,w1,aA]
theorem Hb(s:List UInt8)(hs:s.length<=4000)(a:Nat)(ha:a<=s.length)(w:Int):eP s a w (uP (s.drop a) a) (rk Tryz.prog aE (Task.call 97 [V.p 0 0] [aQ s (a:Int) 0 w])):=by
 have hL:=uQ s (by omega) a w (s.length-a) a (by omega)
 have hself:=gb (s.drop a) du
 have hle:=fe (s.drop a) du
 rw[List.length_drop]at hle
 have go:rk Tryz.prog aE (Task.call 97 [V.p 0 0] [aQ s (a:Int) 0 w])=rk Tryz.prog aE (Task.at_ 97 1 [false,false,true,true] (sv 110 [(0,V.p 0 0),(2,V.p 1 0),(3,V.d (D.i .i64 (a:Int)))]) [] [cQ,aQ s (a:Int) 0 w]):=by
  unfold cQ aQ;rw[Mt,aA]
 have htk:List.take ((((a+((s.drop a).takeWhile du).length:Nat):Int)).toNat-(a:Int).toNat) (List.drop (a:Int).toNat s)=(s.drop a).takeWhile du:=by
  rw[Int.toNat_natCast,Int.toNat_natCast,Nat.add_sub_cancel_left,<-hself]
 rw[go,hL]
 unfold uP
 simp only
 generalize (s.drop a).takeWhile du=t at *
 have hf:=jf s ((a+t.length:Nat):Int) 0 w 4 (a:Int)
 have hD:=pL s t (by omega) a ((a+t.length:Nat):Int) w t.length 0 0 w (by omega)
 rw[List.drop_zero]at hD
 by_cases h1:120<t.length
 ·rw[if_pos h1]
  refine⟨by decide,((a+t.length:Nat):Int),⟨0,[],0,0,0⟩,?_⟩
  unfold cQ aQ at *
  rw[pz,aY,aH (by omega),aH (by omega),htk,bf (by omega),dz hf (by rfl) (by rfl),aD]
  rfl
 ·rw[if_neg h1]
  have go2:rk Tryz.prog aE (Task.at_ 97 1 [true,false,false,false,false,true,true] (sv 110 [(0,V.p 0 0),(2,V.p 1 0),(3,V.d (D.i .i64 (a:Int))),(55,V.d (D.b false))]) [] [cQ,aQ s ((a+t.length:Nat):Int) 0 w])=
    some (.d (Tok.D ⟨1,t,0,0,a⟩),[aQ s ((a+t.length:Nat):Int) (if lb t=true then 2 else 0) (if lb t=true then(a:Int)else w)]):=by
   rw[<-hD]
   unfold cQ aQ
   rw[pz,aY,aH (by omega),aH (by omega),htk,bc (by omega),aA]
   rfl
  rw[go2]
  by_cases h2:t.getLast?=some 46\/mw t=true
  ·rw[if_pos h2,(rC t).2 h2]
   exact⟨by decide,_,_,rfl⟩
  ·rw[if_neg h2]
   have hb:lb t=false:=by
    cases e:lb t with
    |false=>rfl
    |true=>exact absurd ((rC t).1 e) h2
   rw[hb]
   rfl
theorem LN(y d:Nat)(hd:d<16)(hy:16*y<18446744073709551616):IntKind.u64.wrap ((BitVec.ofInt IntKind.u64.bits ((16*y:Nat):Int) ||| BitVec.ofInt IntKind.u64.bits ((d:Nat):Int)).toNat:Int)=((16*y+d:Nat):Int):=by
 have h1:2^4*y+d=2^4*y ||| d:=Nat.two_pow_add_eq_or_of_lt (by omega) y
 have e64:IntKind.u64.bits=64:=rfl
 rw[e64,BitVec.toNat_or,BitVec.ofInt_natCast,BitVec.ofInt_natCast,BitVec.toNat_ofNat,BitVec.toNat_ofNat,Nat.mod_eq_of_lt (by omega),Nat.mod_eq_of_lt (by omega),show 16*y=2^4*y by omega,<-h1,aO]
 omega
def uE(v:Nat)(l:List UInt8):Nat:=l.foldl (fun a c=>a*16%18446744073709551616+bT c) v
theorem qp:∀(l:List UInt8) (k v:Nat),v<16^k->k+l.length<=16->(∀c∈l,cX c=true)->uE v l=l.foldl (fun a c=>a*16+bT c) v
 | [],_,_,_,_,_=>rfl
 |c::l,k,v,hv,hk,hd=>by
  rw[List.length_cons]at hk
  have hx:=pH c (hd c (by simp))
  have h15:16^k<=16^15:=Nat.pow_le_pow_right (by decide) (by omega)
  have hv1:v<1152921504606846976:=Nat.lt_of_lt_of_le hv (Nat.le_trans h15 (by decide))
  have hm:v*16%18446744073709551616=v*16:=Nat.mod_eq_of_lt (by omega)
  have hn:v*16+bT c<16^(k+1):=by rw[Nat.pow_succ];omega
  have ih:=qp l (k+1) (v*16+bT c) hn (by omega) (fun c h=>hd c (by simp[h]))
  show uE (v*16%18446744073709551616+bT c) l=l.foldl (fun a c=>a*16+bT c) (v*16+bT c)
  rw[hm,ih]
theorem zn(s:List UInt8)(hs:s.length<=10000)(f0 a:Nat)(w:Int):∀(m i v:Nat),i+m=s.length->v<18446744073709551616->
  rk Tryz.prog aE (Task.at_ 146 1 [false,false,true,true,true,true,true] (sv 84 [(0,V.p 0 0),(2,V.p 1 0),(3,V.p 2 0),(4,V.d (D.i .i64 (f0:Int))),(5,V.d (D.i .u64 (v:Int)))]) []
   [Ob.cells [V.d (D.i .i64 2),V.d (D.s []),V.d (D.i .i64 0),V.d (D.i .u64 0),V.d (D.i .i64 (a:Int))] [],cQ,aQ s (i:Int) 0 w])=
  rk Tryz.prog aE (Task.at_ 146 1 [true,false,false,false,false,true,true,true,true,true] (sv 84 [(0,V.p 0 0),(2,V.p 1 0),(3,V.p 2 0),(4,V.d (D.i .i64 (f0:Int))),(5,V.d (D.i .u64 ((uE v ((s.drop i).takeWhile cX):Nat):Int))),(46,V.d (D.b false))]) []
   [Ob.cells [V.d (D.i .i64 2),V.d (D.s []),V.d (D.i .i64 0),V.d (D.i .u64 0),V.d (D.i .i64 (a:Int))] [],cQ,aQ s ((i+((s.drop i).takeWhile cX).length:Nat):Int) 0 w])
 |0,i,v,h,hv=>by
  unfold cQ aQ
  rw[mX,bc (by omega),aA,List.drop_eq_nil_of_le (by omega)]
  rfl
 |m+1,i,v,h,hv=>by
  obtain⟨c,hd,hg⟩:=drop_at (show i<s.length by omega)
  have w1:IntKind.i64.wrap ((i:Int)+1)=((i+1:Nat):Int):=by rw[wrap_i64]<;>omega
  have hx:=ED c
  rw[hd,List.takeWhile_cons]
  cases hc:cX c with
  |false=>
   rw[hc]at hx
   rw[if_neg (by decide)]
   unfold cQ aQ
   rw[mX,bf (by omega),aJ hg,de hx,aA]
   rfl
  |true=>
   rw[hc,if_pos rfl]at hx
   have hlt:=pH c hc
   have e1:v*16%18446744073709551616=16*(v%1152921504606846976):=by omega
   have ih:=zn s hs f0 a w m (i+1) (v*16%18446744073709551616+bT c) (by omega) (by omega)
   have wv:IntKind.u64.wrap ((v:Int)*16)=((16*(v%1152921504606846976):Nat):Int):=by rw[aO];omega
   have wd:IntKind.u64.wrap ((bT c:Nat):Int)=((bT c:Nat):Int):=by rw[aO];omega
   have wo:=LN (v%1152921504606846976) (bT c) hlt (by omega)
   rw[if_pos rfl,List.length_cons,show i+(((s.drop (i+1)).takeWhile cX).length+1)=i+1+((s.drop (i+1)).takeWhile cX).length by omega]
   show _=rk Tryz.prog aE (Task.at_ 146 1 _ (sv 84 [(0,V.p 0 0),(2,V.p 1 0),(3,V.p 2 0),(4,V.d (D.i .i64 (f0:Int))),(5,V.d (D.i .u64 ((uE (v*16%18446744073709551616+bT c) ((s.drop (i+1)).takeWhile cX):Nat):Int))),(46,V.d (D.b false))]) [] _)
   rw[<-ih,e1]
   unfold cQ aQ
   rw[mX,bf (by omega),aJ hg,de hx,aA,decide_eq_true (Int.natCast_nonneg _),jg,bk,aJ hg,de hx,wv,wd,wo,w1,aA]
theorem Ak(s:List UInt8)(hs:s.length<=4000)(a:Nat)(ha:a+2<=s.length)(w:Int):eP s a w (wk (s.drop a) a) (rk Tryz.prog aE (Task.call 146 [V.p 0 0] [aQ s (a:Int) 0 w])):=by
 have hL:=zn s (by omega) (a+2) a w (s.length-(a+2)) (a+2) 0 (by omega) (by decide)
 have hle:=fe (s.drop (a+2)) cX
 have hall:=oX cX (s.drop (a+2))
 rw[List.length_drop]at hle
 have w2:IntKind.i64.wrap ((a:Int)+2)=((a+2:Nat):Int):=by rw[wrap_i64]<;>omega
 have go:rk Tryz.prog aE (Task.call 146 [V.p 0 0] [aQ s (a:Int) 0 w])=
   rk Tryz.prog aE (Task.at_ 146 1 [false,false,true,true,true,true,true] (sv 84 [(0,V.p 0 0),(2,V.p 1 0),(3,V.p 2 0),(4,V.d (D.i .i64 ((a+2:Nat):Int))),(5,V.d (D.i .u64 ((0:Nat):Int)))]) []
    [Ob.cells [V.d (D.i .i64 2),V.d (D.s []),V.d (D.i .i64 0),V.d (D.i .u64 0),V.d (D.i .i64 (a:Int))] [],cQ,aQ s ((a+2:Nat):Int) 0 w]):=by
  unfold cQ aQ
  rw[Lu,w2,aA]
  rfl
 rw[go,hL]
 unfold wk
 rw[List.drop_drop]
 simp only
 generalize (s.drop (a+2)).takeWhile cX=h at *
 have wl:IntKind.i64.wrap (((a+2+h.length:Nat):Int)-((a+2:Nat):Int))=(h.length:Int):=by rw[wrap_i64]<;>omega
 have fin:∀(V0:Nat) (er:Int),rk Tryz.prog aE (Task.at_ 146 1 [true,true,true,true,true,true,true,true] (sv 84 [(0,V.p 0 0),(2,V.p 1 0),(3,V.p 2 0),(5,V.d (D.i .u64 (V0:Int))),(6,V.d (D.i .i64 er))]) []
   [Ob.cells [V.d (D.i .i64 2),V.d (D.s []),V.d (D.i .i64 0),V.d (D.i .u64 0),V.d (D.i .i64 (a:Int))] [],cQ,aQ s ((a+2+h.length:Nat):Int) 0 w])=
   some (.d (Tok.D ⟨2,[],IntKind.i64.wrap (V0:Int),0,a⟩),[kV s (a+2+h.length) er w a]):=by
  intro V0 er
  have hb:rk Tryz.prog aE (Task.call 151 [V.p 0 0,V.d (D.g [D.i .i64 2,D.s [],D.i .i64 (IntKind.i64.wrap (V0:Int)),D.i .u64 0,D.i .i64 (a:Int)]),V.d (D.i .i64 er)] [aQ s ((a+2+h.length:Nat):Int) 0 w])=
    some (.d (D.g [D.i .i64 2,D.s [],D.i .i64 (IntKind.i64.wrap (V0:Int)),D.i .u64 0,D.i .i64 (a:Int)]),[kV s (a+2+h.length) er w a]):=uc s (a+2+h.length) (by omega) ⟨2,[],IntKind.i64.wrap (V0:Int),0,a⟩ er w
  have hcs:∃cs,kV s (a+2+h.length) er w a = .cells cs []/\cs.length=4:=by
   unfold kV aQ
   split
   ·exact⟨_,rfl,rfl⟩
   ·split
    ·exact⟨_,rfl,rfl⟩
    ·exact⟨_,rfl,rfl⟩
  obtain⟨cs,hcs,hl⟩:=hcs
  rw[hcs]at hb⊢
  unfold cQ
  unfold aQ at *
  rw[Al,xJ hb hl (by rfl) (by rfl),aD]
  rfl
 have out:∀(V0:Nat) (er:Int),er=(if 16<h.length then 4 else if 9223372036854775807<V0 then 5 else 0)->
   rk Tryz.prog aE (Task.at_ 146 1 [true,false,false,false,false,true,true,true,true,true] (sv 84 [(0,V.p 0 0),(2,V.p 1 0),(3,V.p 2 0),(4,V.d (D.i .i64 ((a+2:Nat):Int))),(5,V.d (D.i .u64 (V0:Int))),(46,V.d (D.b false))]) []
    [Ob.cells [V.d (D.i .i64 2),V.d (D.s []),V.d (D.i .i64 0),V.d (D.i .u64 0),V.d (D.i .i64 (a:Int))] [],cQ,aQ s ((a+2+h.length:Nat):Int) 0 w])=
   some (.d (Tok.D ⟨2,[],IntKind.i64.wrap (V0:Int),0,a⟩),[kV s (a+2+h.length) er w a]):=by
  intro V0 er he
  rw[<-fin V0 er]
  subst he
  by_cases h16:16<h.length
  ·rw[if_pos h16]
   unfold cQ aQ
   rw[jg,aY,wl,bf (by omega),aA]
  ·rw[if_neg h16]
   by_cases h63:9223372036854775807<V0
   ·rw[if_pos h63]
    unfold cQ aQ
    rw[jg,aY,wl,bc (by omega),bf (by omega),aA]
   ·rw[if_neg h63]
    unfold cQ aQ
    rw[jg,aY,wl,bc (by omega),bc (by omega),aA]
 by_cases h16:16<h.length
 ·rw[if_pos h16,out (uE 0 h) 4 (if_pos h16).symm]
  exact iT s a _ 4 w (by decide) _
 ·rw[if_neg h16]
  have hsm:uE 0 h=fN h:=qp h 0 0 (by decide) (by omega) (fun c hc=>List.all_eq_true.1 hall c hc)
  rw[hsm]
  by_cases h63:2^63<=fN h
  ·rw[if_pos h63,out (fN h) 5 (by rw[if_neg h16,if_pos (by omega)])]
   exact iT s a _ 5 w (by decide) _
  ·have hw:IntKind.i64.wrap ((fN h:Nat):Int)=((fN h:Nat):Int):=by rw[wrap_i64]<;>omega
   rw[if_neg h63,out (fN h) 0 (by rw[if_neg h16,if_neg (by omega)]),hw,Nat.add_assoc]
   exact nN s a (2+h.length) w _
def zG(r:Int×Bool):Option Out:=some (if r.2=true then .t [.d (.i .i64 r.1),.d (.i .i64 0)]else .t [.d (.i .i64 0),.d (.i .i64 5)],[])
theorem Cw(v:Nat):eE false v=((v:Int),decide (v<2^63)):=rfl
theorem Cx(v:Nat):eE true v=(-(v:Int),decide (v<=2^63)):=rfl
theorem Gg{n:Int}{b:Bool}(h:b=true):zG (n,b)=some (.t [.d (.i .i64 n),.d (.i .i64 0)],[]):=by subst h;rfl
theorem Bi{n:Int}{b:Bool}(h:b=false):zG (n,b)=some (.t [.d (.i .i64 0),.d (.i .i64 5)],[]):=by subst h;rfl
theorem uf(neg:Bool):∀(r p:List UInt8) (v:Nat),(∀c∈r,aG c=true)->(p++r).length<=4000->v<=9223372036854775808->
  rk Tryz.prog aE (Task.at_ 149 0 [false,true,false,true,true,true,true,true] (sv 56 [(0,V.d (D.s (p++r))),(4,V.d (D.b neg)),(5,V.d (D.i .u64 (v:Int))),(6,V.d (D.i .i64 (p.length:Int)))]) [] [])=zG (eE neg (eU v r))
 | [],p,v,hd,hl,hv=>by
  rw[List.append_nil,rQ,bc (by omega)]
  show _=zG (eE neg v)
  cases neg with
  |false=>
   rw[iL,aA,rR,Cw]
   by_cases h:v<2^63
   ·rw[decide_eq_false (by omega),aY,aY,aD,Gg (decide_eq_true h),wrap_i64 (by omega) (by omega)]
   ·rw[decide_eq_true (by omega),bk,aD,Bi (decide_eq_false h)]
  |true=>
   rw[jP,aA,rR,aY,bk,aD,Cx,Gg (decide_eq_true (by omega))]
   have e:IntKind.i64.wrap (IntKind.i64.wrap (0-IntKind.i64.wrap (IntKind.u64.wrap ((v:Int)-1)))-1) = -(v:Int):=by
    rcases Nat.eq_zero_or_pos v with h0|h0
    ·subst h0;rfl
    ·have w1:IntKind.u64.wrap ((v:Int)-1)=(v:Int)-1:=by rw[aO];omega
     rw[w1,wrap_i64 (n:=(v:Int)-1) (by omega) (by omega),wrap_i64 (n:=0-((v:Int)-1)) (by omega) (by omega),wrap_i64 (by omega) (by omega)]
     omega
   rw[e]
 |c::r,p,v,hd,hl,hv=>by
  have hc:=hd c (by simp)
  have hcl:=kg hc
  have hi:p.length<(p++c::r).length:=by simp
  have g:bh (p++c::r) (p.length:Int)=some c:=by rw[bp];simp
  have hpl:(p++[c]).length=p.length+1:=by simp
  have hlen:p.length+(r.length+1)<=4000:=by simpa using hl
  have w0:IntKind.u64.wrap ((bS c:Nat):Int)=((bS c:Nat):Int):=by rw[aO];omega
  have w1:IntKind.u64.wrap (9223372036854775808-((bS c:Nat):Int))=((9223372036854775808-bS c:Nat):Int):=by rw[aO];omega
  have wt:(((9223372036854775808-bS c:Nat):Int)).tdiv 10=(((9223372036854775808-bS c) / 10:Nat):Int):=by
   rw[Int.tdiv_eq_ediv_of_nonneg (by omega)];rfl
  have w2:IntKind.u64.wrap ((((9223372036854775808-bS c) / 10:Nat):Int))=(((9223372036854775808-bS c) / 10:Nat):Int):=by rw[aO];omega
  have hnum:eU v (c::r)=eU (v*10+bS c) r:=rfl
  rw[rQ,bf (by omega),aJ g,nL hc,w0,w1,wt,w2,hnum]
  by_cases h:(9223372036854775808-bS c) / 10<v
  ·have hbig:2^63<eU (v*10+bS c) r:=by
    have h1:=BU r (v*10+bS c)
    have h2:(v*10+bS c)*1<=(v*10+bS c)*10^r.length:=Nat.mul_le_mul_left _ (Nat.pos_of_ne_zero (by simp))
    omega
   rw[bf (by omega),aD]
   cases neg with
   |true=>rw[Cx,Bi (decide_eq_false (by omega))]
   |false=>rw[Cw,Bi (decide_eq_false (by omega))]
  ·have w3:IntKind.u64.wrap ((v:Int)*10)=((v*10:Nat):Int):=by rw[aO];omega
   have w4:IntKind.u64.wrap (((v*10:Nat):Int)+((bS c:Nat):Int))=((v*10+bS c:Nat):Int):=by rw[aO];omega
   have w5:IntKind.i64.wrap ((p.length:Int)+1)=((p.length+1:Nat):Int):=by rw[wrap_i64]<;>omega
   have ih:=uf neg r (p++[c]) (v*10+bS c) (fun c h=>hd c (by simp[h])) (by simpa using hl) (by omega)
   rw[List.append_assoc,List.singleton_append,hpl]at ih
   rw[bc (by omega),w3,w4,w5,aA,ih]
theorem I4(sg ds:List UInt8)(hsg:sg=[]\/sg=[43]\/sg=[45])(hds:∀c∈ds,aG c=true)(hne:sg++ds≠[])(hl:(sg++ds).length<=4000):
  rk Tryz.prog aE (Task.call 149 [V.d (D.s (sg++ds))] [])=if 60<ds.length then some (.t [.d (.i .i64 0),.d (.i .i64 4)],[])else zG (eE ((sg++ds).head?==some 45) (cy ds)):=by
 have hL:=fun neg=>uf neg ds [] 0 hds (by simp at hl⊢;omega) (by decide)
 have hcut:∀c:UInt8,List.take ((c::ds).length-1) (List.drop 1 (c::ds))=ds:=by intro c;simp
 have fin:∀neg:Bool,aC (rk Tryz.prog aE) (aT (decide ((ds.length:Int)>60)) (Tr.ret (V.t [V.d (D.i .i64 0),V.d (D.i .i64 4)],[]))
   (Tr.call (Task.at_ 149 0 [false,true,false,true,true,true,true,true] (sv 56 [(0,V.d (D.s ds)),(4,V.d (D.b neg)),(5,V.d (D.i .u64 0)),(6,V.d (D.i .i64 0))]) [] []) Tr.ret))=
   if 60<ds.length then some (.t [.d (.i .i64 0),.d (.i .i64 4)],[])else zG (eE neg (cy ds)):=by
  intro neg
  by_cases h:60<ds.length
  ·rw[bf (by omega),aD,if_pos h]
  ·rw[bc (by omega),aA,if_neg h]
   exact hL neg
 rcases hsg with rfl|rfl|rfl
 ·rw[List.nil_append]
  rw[List.nil_append]at hne
  cases hds':ds with
  |nil=>exact absurd hds' hne
  |cons c q=>
   have hc:=hds c (by rw[hds'];simp)
   have h43:(c==43)=false:=beq_eq_false_iff_ne.2 fun e=>by rw[e]at hc;exact absurd hc (by decide)
   have h45:(c==45)=false:=beq_eq_false_iff_ne.2 fun e=>by rw[e]at hc;exact absurd hc (by decide)
   have g:bh (c::q) 0=some c:=rfl
   have xk:((c.toNat:Int)==45)=(c==45):=bG c 45
   have e43:((c.toNat:Int)==43)=(c==43):=bG c 43
   have hh:((c::q).head?==some 45)=false:=by
    show (some c==some 45)=false
    exact beq_eq_false_iff_ne.2 fun e=>by injection e with e;rw[e]at h45;simp at h45
   have:=fin false
   rw[hds']at this
   rw[I5,aJ g,xk,h45,aY,aJ g,e43,h43,aA,pw,aY,hh]
   exact this
 ·have g:bh ([43]++ds) 0=some 43:=rfl
  rw[I5,aJ g,show (((43:UInt8).toNat:Int)==45)=false from rfl,aY,aJ g,show (((43:UInt8).toNat:Int)==43)=true from rfl,aA,pw,bk,List.singleton_append,hcut,aH (by rw[List.length_cons];omega)]
  exact fin false
 ·have g:bh ([45]++ds) 0=some 45:=rfl
  rw[I5,aJ g,show (((45:UInt8).toNat:Int)==45)=true from rfl,bk,aA,pw,bk,List.singleton_append,hcut,aH (by rw[List.length_cons];omega)]
  exact fin true
end Go.Dn.Dec
namespace Go.Dn.Dec
open Go.Proofs
section
variable {f : Task → Option Out}
theorem gh{a c d:V}{i:Int}{K:Int->Tr}:aC f (ob [a,V.d (D.i .i64 i),c,d][1]? fun v=>aW v fun d=>bD .i64 d fun n=>K n)=aC f (K i):=by
 rw[aJ (a:=V.d (D.i .i64 i)) (by rfl),bj,bL]
theorem im{b c d:V}{s:List UInt8}{K:List UInt8->Tr}:aC f (ob [V.d (D.s s),b,c,d][0]? fun v=>aW v fun d=>fF d fun n=>K n)=aC f (K s):=by
 rw[aJ (a:=V.d (D.s s)) (by rfl),bj,fU]
theorem pV{b:Bool}{X:Tr}(h:b=true):aC f (aM b X)=aC f X:=by rw[h,ba]
theorem sX(a b c d v:V):[a,b,c,d].set 1 v=[a,v,c,d]:=rfl
end
theorem um(c:UInt8)(q:List UInt8):dP (c::q)=if c=101\/c=69 then(if (((c::q).drop (gX q)).takeWhile aG)=[]then 0 else gX q+(((c::q).drop (gX q)).takeWhile aG).length)else 0:=rfl
theorem uk(d:UInt8)(q:List UInt8):gX (d::q)=if d=43\/d=45 then 2 else 1:=rfl
abbrev nv(a:Nat)(r:List (Nat×V)):List (Nat×V):=(0,V.p 0 0)::(2,V.p 1 0)::(3,V.d (D.i .i64 (a:Int)))::r
abbrev sG(a:Nat)(wh fr:Bool)(o:Ob):Task:=Task.at_ 99 1 [true,false,true,true,true,true,true,true] (sv 242 (nv a [(4,V.d (D.b wh)),(97,V.d (D.b fr))])) [] [cQ,o]
abbrev mn(a:Nat)(wh ex:Bool)(o:Ob):Task:=Task.at_ 99 1 [true,false,true,true,true,true,true,true,true] (sv 242 (nv a [(4,V.d (D.b wh)),(140,V.d (D.b ex))])) [] [cQ,o]
abbrev sF(a:Nat)(wh sg:Bool)(o:Ob):Task:=Task.at_ 99 1 [true,false,true,false,true,true,true,true,true,true,true] (sv 242 (nv a [(4,V.d (D.b wh)),(5,V.d (D.b sg))])) [] [cQ,o]
abbrev ji(a:Nat)(wh sg go:Bool)(o:Ob):Task:=Task.at_ 99 1 [true,true,false,true,false,true,true,true,true,true,true,true] (sv 242 (nv a [(4,V.d (D.b wh)),(5,V.d (D.b sg)),(186,V.d (D.b go))])) [] [cQ,o]
theorem CB(s:List UInt8)(i:Nat)(m w:Int)(a:Nat):∃cs,kV s i m w a = .cells cs []/\cs.length=4:=by
 unfold kV aQ
 split
 ·exact⟨_,rfl,rfl⟩
 ·split
  ·exact⟨_,rfl,rfl⟩
  ·exact⟨_,rfl,rfl⟩
theorem lG(s:List UInt8)(x:Nat)(hx:x<=s.length)(w er:Int)(k:Nat)(n:Int)(d a:Nat):
  rk Tryz.prog aE (Task.at_ 99 1 [true,true,true,true,true,true,true,true,true,true,true] (sv 242 [(0,V.p 0 0),(2,V.p 1 0),(6,V.p 2 0),(7,V.d (D.i .i64 er))]) []
   [Ob.cells [V.d (D.i .i64 (k:Int)),V.d (D.s []),V.d (D.i .i64 n),V.d (D.i .u64 (d:Int)),V.d (D.i .i64 (a:Int))] [],cQ,aQ s (x:Int) 0 w])=
   some (.d (Tok.D ⟨k,[],n,d,a⟩),[kV s x er w a]):=by
 have hb:=uc s x hx ⟨k,[],n,d,a⟩ er w
 obtain⟨cs,hcs,hl⟩:=CB s x er w a
 have hb:rk Tryz.prog aE (Task.call 151 [V.p 0 0,V.d (D.g [D.i .i64 (k:Int),D.s [],D.i .i64 n,D.i .u64 (d:Int),D.i .i64 (a:Int)]),V.d (D.i .i64 er)] [aQ s (x:Int) 0 w])=
   some (.d (D.g [D.i .i64 (k:Int),D.s [],D.i .i64 n,D.i .u64 (d:Int),D.i .i64 (a:Int)]),[.cells cs []]):=by rw[<-hcs];exact hb
 rw[hcs]
 unfold cQ
 unfold aQ at *
 rw[Am,xJ hb (by exact hl) (by rfl) (by rfl),aD]
 rfl
def rI(s:List UInt8)(a x:Nat)(w:Int):Option Out:=some (.d (Tok.D ⟨3,[],0,(dc ((s.drop a).take (x-a))).1,a⟩),[kV s x (dc ((s.drop a).take (x-a))).2 w a])
theorem CN(s:List UInt8)(hs:s.length<=2000):rk Tryz.prog aE (Task.call 150 [V.d (D.s s)] [])=some (.t [.d (.i .u64 ((dc s).1:Nat)),.d (.i .i64 (dc s).2)],[]):=by
 rw[A4 s hs,HT];rfl
section
variable (s : List UInt8) (hs : s.length ≤ 2000) (a x : Nat) (hax : a ≤ x) (hx : x ≤ s.length) (w : Int)
include hs hax hx
set_option linter.unusedSectionVars false in
theorem xD:List.take (((x:Int)).toNat-((a:Nat):Int).toNat) (List.drop ((a:Nat):Int).toNat s)=(s.drop a).take (x-a):=by
 rw[Int.toNat_natCast,Int.toNat_natCast]
theorem Ji:rk Tryz.prog aE (Task.call 150 [V.d (D.s ((s.drop a).take (x-a)))] [])=some (.t [.d (.i .u64 ((dc ((s.drop a).take (x-a))).1:Nat)),.d (.i .i64 (dc ((s.drop a).take (x-a))).2)],[]):=
 CN _ (by rw[List.length_take,List.length_drop];omega)
theorem AN:rk Tryz.prog aE (mn a false false (aQ s (x:Int) 0 w))=rI s a x w:=by
 have hc:=xD s hs a x hax hx
 have hp:=Ji s hs a x hax hx
 have hf:=lG s x hx w (dc ((s.drop a).take (x-a))).2 3 0 (dc ((s.drop a).take (x-a))).1 a
 unfold rI
 rw[<-hf]
 unfold mn cQ aQ
 rw[l4,aY,aY,im,gh,aH (by omega),aH (by omega),hc,qG hp,aA]
 rfl
theorem yF(sg:Bool):rk Tryz.prog aE (ji a false sg false (aQ s (x:Int) 0 w))=rI s a x w:=by
 have hc:=xD s hs a x hax hx
 have hp:=Ji s hs a x hax hx
 have hf:=lG s x hx w (dc ((s.drop a).take (x-a))).2 3 0 (dc ((s.drop a).take (x-a))).1 a
 unfold rI
 rw[<-hf]
 unfold ji cQ aQ
 rw[km,aY,aY,im,gh,aH (by omega),aH (by omega),hc,qG hp,aA]
 rfl
theorem wJ{n er:Int}(h:rk Tryz.prog aE (Task.call 149 [V.d (D.s ((s.drop a).take (x-a)))] [])=some (.t [.d (.i .i64 n),.d (.i .i64 er)],[])):
  rk Tryz.prog aE (mn a true false (aQ s (x:Int) 0 w))=some (.d (Tok.D ⟨2,[],n,0,a⟩),[kV s x er w a]):=by
 have hc:=xD s hs a x hax hx
 have hf:=lG s x hx w er 2 n 0 a
 rw[<-hf]
 unfold mn cQ aQ
 rw[l4,aY,bk,im,gh,aH (by omega),aH (by omega),hc,qG h,aA]
 rfl
theorem tJ(sg:Bool){n er:Int}(h:rk Tryz.prog aE (Task.call 149 [V.d (D.s ((s.drop a).take (x-a)))] [])=some (.t [.d (.i .i64 n),.d (.i .i64 er)],[])):
  rk Tryz.prog aE (ji a true sg false (aQ s (x:Int) 0 w))=some (.d (Tok.D ⟨2,[],n,0,a⟩),[kV s x er w a]):=by
 have hc:=xD s hs a x hax hx
 have hf:=lG s x hx w er 2 n 0 a
 rw[<-hf]
 unfold ji cQ aQ
 rw[km,aY,bk,im,gh,aH (by omega),aH (by omega),hc,qG h,aA]
 rfl
end
theorem uV(s:List UInt8)(hs:s.length<=2000)(a x k:Nat)(hk:k=1\/k=2)(hax:a<=x)(hx:x+k<=s.length)(w:Int)(wh:Bool):
  rk Tryz.prog aE (ji a wh (decide (k=2)) true (aQ s (x:Int) 0 w))=rI s a (x+k+((s.drop (x+k)).takeWhile aG).length) w:=by
 have hle:=fe (s.drop (x+k)) aG
 rw[List.length_drop]at hle
 have hdg:=pv s (by omega) (x+k) hx 0 w
 have hc:=xD s hs a (x+k+((s.drop (x+k)).takeWhile aG).length) (by omega) (by omega)
 have hp:=Ji s hs a (x+k+((s.drop (x+k)).takeWhile aG).length) (by omega) (by omega)
 have hf:=lG s (x+k+((s.drop (x+k)).takeWhile aG).length) (by omega) w (dc ((s.drop a).take (x+k+((s.drop (x+k)).takeWhile aG).length-a))).2 3 0 (dc ((s.drop a).take (x+k+((s.drop (x+k)).takeWhile aG).length-a))).1 a
 have w1:IntKind.i64.wrap ((x:Int)+1)=((x+1:Nat):Int):=by rw[wrap_i64]<;>omega
 unfold rI
 rw[<-hf]
 rcases hk with rfl|rfl
 ·rw[show decide ((1:Nat)=2)=false from rfl]
  unfold ji cQ
  unfold aQ at *
  rw[km,bk,gh,pV (by rfl),w1,aY,sX,gB hdg (by rfl) (by rfl),im,gh,aH (by omega),aH (by omega),hc,qG hp,aA]
  rfl
 ·have w2:IntKind.i64.wrap (((x+1:Nat):Int)+1)=((x+2:Nat):Int):=by rw[wrap_i64]<;>omega
  rw[show decide ((2:Nat)=2)=true from rfl]
  unfold ji cQ
  unfold aQ at *
  rw[km,bk,gh,pV (by rfl),w1,bk,sX,gh,pV (by rfl),w2,sX,gB hdg (by rfl) (by rfl),im,gh,aH (by omega),aH (by omega),hc,qG hp,aA]
  rfl
theorem Fv(s:List UInt8)(hs:s.length<=2000)(a x:Nat)(hax:a<=x)(c:UInt8)(hd:s.drop x=c::s.drop (x+1))(hc:c=101\/c=69)(hx:x<s.length)(w:Int)(wh:Bool):
  rk Tryz.prog aE (mn a wh true (aQ s (x:Int) 0 w))=
   if dP (s.drop x)≠0 then rI s a (x+dP (s.drop x)) w else rk Tryz.prog aE (ji a wh (decide (gX (s.drop (x+1))=2)) false (aQ s (x:Int) 0 w)):=by
 have w1:IntKind.i64.wrap ((x:Int)+1)=((x+1:Nat):Int):=by rw[wrap_i64]<;>omega
 have hh1:rk Tryz.prog aE (Task.call 148 [V.p 0 0,V.d (D.i .i64 1)] [aQ s (x:Int) 0 w])=_:=Ah s (by omega) x 1 (by omega) (by omega) 0 w
 have hh2:rk Tryz.prog aE (Task.call 148 [V.p 0 0,V.d (D.i .i64 2)] [aQ s (x:Int) 0 w])=_:=Ah s (by omega) x 2 (by omega) (by omega) 0 w
 have hgd1:=vT (s.drop x) 1
 have hgd2:=vT (s.drop x) 2
 have hE:dP (s.drop x)=if ((s.drop x).drop (gX (s.drop (x+1)))).takeWhile aG=[]then 0 else gX (s.drop (x+1))+(((s.drop x).drop (gX (s.drop (x+1)))).takeWhile aG).length:=by
  rw[hd,um,if_pos hc]
 have hsg:rk Tryz.prog aE (mn a wh true (aQ s (x:Int) 0 w))=rk Tryz.prog aE (sF a wh (decide (gX (s.drop (x+1))=2)) (aQ s (x:Int) 0 w)):=by
  rcases Nat.lt_or_ge (x+1) s.length with hlt|hge
  ·obtain⟨d,hd2,hg2⟩:=drop_at hlt
   have e43:((d.toNat:Int)==43)=(d==43):=bG d 43
   have xk:((d.toNat:Int)==45)=(d==45):=bG d 45
   rw[hd2,uk]
   unfold mn sF cQ aQ
   rw[l4,bk,gh,im,w1,bf (by omega),im,gh,w1,aJ hg2,e43]
   by_cases h43:d=43
   ·rw[da (beq_iff_eq.2 h43),aA,if_pos (Or.inl h43)];rfl
   ·rw[cj (beq_eq_false_iff_ne.2 h43),im,gh,w1,aJ hg2,aA,xk]
    by_cases h45:d=45
    ·rw[if_pos (Or.inr h45),beq_iff_eq.2 h45];rfl
    ·rw[if_neg (by rintro(h|h);exact h43 h;exact h45 h),beq_eq_false_iff_ne.2 h45];rfl
  ·rw[List.drop_eq_nil_of_le hge]
   unfold mn sF cQ aQ
   rw[l4,bk,gh,im,w1,bc (by omega),aA]
   rfl
 rw[hsg,hE]
 have hK:gX (s.drop (x+1))=1\/gX (s.drop (x+1))=2:=by
  unfold gX
  split
  ·split
   ·exact Or.inr rfl
   ·exact Or.inl rfl
  ·exact Or.inl rfl
 have h7f:∀sg:Bool,rk Tryz.prog aE (ji a wh sg true (aQ s (x:Int) 0 w))=rk Tryz.prog aE (ji a wh sg true (aQ s (x:Int) 0 w)):=fun _=>rfl
 rcases hK with hK|hK
 ·rw[hK,show decide ((1:Nat)=2)=false from rfl]
  cases hdg:aG ((s.drop x).getD 1 0) with
  |true=>
   have hne:=hgd1.1 hdg
   have hlen:x+1<=s.length:=by omega
   have h7:=uV s hs a x 1 (Or.inl rfl) hax hlen w wh
   rw[if_neg hne,if_pos (by omega),<-Nat.add_assoc,List.drop_drop,<-h7,show decide ((1:Nat)=2)=false from rfl]
   rw[hdg]at hh1
   unfold sF ji cQ
   unfold aQ at *
   rw[kl,gB hh1 (by rfl) (by rfl),bk,aA]
  |false=>
   have hnil:((s.drop x).drop 1).takeWhile aG=[]:=by
    rcases Classical.em (((s.drop x).drop 1).takeWhile aG=[])with h|h
    ·exact h
    ·have:=hgd1.2 h;rw[hdg]at this;cases this
   rw[if_pos hnil,if_neg (by omega)]
   rw[hdg]at hh1
   unfold sF ji cQ
   unfold aQ at *
   rw[kl,gB hh1 (by rfl) (by rfl),aY,aY,aA]
 ·-- a sign: the byte behind the letter is no digit
  have hno:aG ((s.drop x).getD 1 0)=false:=by
   rw[hd,List.getD_cons_succ]
   cases hq:s.drop (x+1) with
   |nil=>rfl
   |cons d q=>
    rw[hq]at hK
    rw[uk]at hK
    split at hK
    ·rename_i h
     show aG d=false
     rcases h with rfl|rfl<;>rfl
    ·omega
  rw[hno]at hh1
  rw[hK,show decide ((2:Nat)=2)=true from rfl]
  cases hdg:aG ((s.drop x).getD 2 0) with
  |true=>
   have hne:=hgd2.1 hdg
   have hlen:x+2<=s.length:=by
    rcases Nat.lt_or_ge s.length (x+2)with h|h
    ·rw[List.drop_drop,List.drop_eq_nil_of_le (by omega)]at hne;exact absurd rfl hne
    ·exact h
   have h7:=uV s hs a x 2 (Or.inr rfl) hax hlen w wh
   rw[if_neg hne,if_pos (by omega),<-Nat.add_assoc,List.drop_drop,<-h7,show decide ((2:Nat)=2)=true from rfl]
   rw[hdg]at hh2
   unfold sF ji cQ
   unfold aQ at *
   rw[kl,gB hh1 (by rfl) (by rfl),aY,bk,gB hh2 (by rfl) (by rfl),aA]
  |false=>
   have hnil:((s.drop x).drop 2).takeWhile aG=[]:=by
    rcases Classical.em (((s.drop x).drop 2).takeWhile aG=[])with h|h
    ·exact h
    ·have:=hgd2.2 h;rw[hdg]at this;cases this
   rw[if_pos hnil,if_neg (by omega)]
   rw[hdg]at hh2
   unfold sF ji cQ
   unfold aQ at *
   rw[kl,gB hh1 (by rfl) (by rfl),aY,bk,gB hh2 (by rfl) (by rfl),aA]
def xP(s:List UInt8)(a x:Nat)(w:Int)(wh:Bool)(n er:Int):Option Out:=
 if dP (s.drop x)≠0 then rI s a (x+dP (s.drop x)) w else if wh=true then some (.d (Tok.D ⟨2,[],n,0,a⟩),[kV s x er w a])else rI s a x w
theorem BZ(s:List UInt8)(hs:s.length<=2000)(a x:Nat)(hax:a<=x)(hx:x<=s.length)(w:Int)(wh:Bool)(n er:Int)
  (h10:wh=true->rk Tryz.prog aE (Task.call 149 [V.d (D.s ((s.drop a).take (x-a)))] [])=some (.t [.d (.i .i64 n),.d (.i .i64 er)],[])) (b:Bool)
  (hb:b=((s.drop x).getD 0 0==101||(s.drop x).getD 0 0==69)):
  rk Tryz.prog aE (mn a wh b (aQ s (x:Int) 0 w))=xP s a x w wh n er:=by
 unfold xP
 cases b with
 |true=>
  rcases Nat.lt_or_ge x s.length with hlt|hge
  ·obtain⟨c,hd,hg⟩:=drop_at hlt
   rw[hd,List.getD_cons_zero]at hb
   have hc:c=101\/c=69:=by simpa using hb.symm
   rw[Fv s hs a x hax c hd hc hlt w wh]
   by_cases h:dP (s.drop x)≠0
   ·rw[if_pos h,if_pos h]
   ·rw[if_neg h,if_neg h]
    cases wh with
    |true=>rw[if_pos rfl];exact tJ s hs a x hax hx w _ (h10 rfl)
    |false=>rw[if_neg (by decide)];exact yF s hs a x hax hx w _
  ·rw[List.drop_eq_nil_of_le hge]at hb;exact absurd hb (by decide)
 |false=>
  have h0:dP (s.drop x)=0:=by
   cases hq:s.drop x with
   |nil=>rfl
   |cons c q=>
    rw[hq,List.getD_cons_zero]at hb
    have hc:¬(c=101\/c=69):=by
     rintro(rfl|rfl)<;>exact absurd hb (by decide)
    rw[um,if_neg hc]
  rw[if_neg (by omega)]
  cases wh with
  |true=>rw[if_pos rfl];exact wJ s hs a x hax hx w (h10 rfl)
  |false=>rw[if_neg (by decide)];exact AN s hs a x hax hx w
end Go.Dn.Dec
namespace Go.Dn.Dec
open Go.Proofs
theorem Ft(s:List UInt8)(a x:Nat)(hx:x<=s.length)(w:Int)(wh:Bool):
  rk Tryz.prog aE (sG a wh false (aQ s (x:Int) 0 w))=rk Tryz.prog aE (mn a wh ((s.drop x).getD 0 0==101||(s.drop x).getD 0 0==69) (aQ s (x:Int) 0 w)):=by
 rcases Nat.lt_or_ge x s.length with hlt|hge
 ·obtain⟨c,hd,hg⟩:=drop_at hlt
  have e101:((c.toNat:Int)==101)=(c==101):=bG c 101
  have e69:((c.toNat:Int)==69)=(c==69):=bG c 69
  rw[hd,List.getD_cons_zero]
  unfold sG mn cQ aQ
  rw[lZ,aY,gh,im,bf (by omega),im,gh,aJ hg,e101]
  cases h:(c==101) with
  |true=>rw[bk,aA];rfl
  |false=>rw[aY,im,gh,aJ hg,aA,e69];rfl
 ·rw[List.drop_eq_nil_of_le hge]
  unfold sG mn cQ aQ
  rw[lZ,aY,gh,im,bc (by omega),aA]
  rfl
theorem Fu(s:List UInt8)(hs:s.length<=2000)(a x:Nat)(hx:x+1<=s.length)(w:Int)(wh:Bool)(y:Nat)(hy:y=x+1+((s.drop (x+1)).takeWhile aG).length):
  rk Tryz.prog aE (sG a wh true (aQ s (x:Int) 0 w))=rk Tryz.prog aE (mn a false ((s.drop y).getD 0 0==101||(s.drop y).getD 0 0==69) (aQ s (y:Int) 0 w)):=by
 have hle:=fe (s.drop (x+1)) aG
 rw[List.length_drop]at hle
 have w1:IntKind.i64.wrap ((x:Int)+1)=((x+1:Nat):Int):=by rw[wrap_i64]<;>omega
 have hdg:=pv s (by omega) (x+1) hx 0 w
 rw[<-hy]at hdg
 rcases Nat.lt_or_ge y s.length with hlt|hge
 ·obtain⟨c,hd,hg⟩:=drop_at hlt
  have e101:((c.toNat:Int)==101)=(c==101):=bG c 101
  have e69:((c.toNat:Int)==69)=(c==69):=bG c 69
  rw[hd,List.getD_cons_zero]
  unfold sG mn cQ
  unfold aQ at *
  rw[lZ,bk,gh,pV (by rfl),w1,sX,gB hdg (by rfl) (by rfl),gh,im,bf (by omega),im,gh,aJ hg,e101]
  cases h:(c==101) with
  |true=>rw[bk,aA];rfl
  |false=>rw[aY,im,gh,aJ hg,aA,e69];rfl
 ·rw[List.drop_eq_nil_of_le hge]
  unfold sG mn cQ
  unfold aQ at *
  rw[lZ,bk,gh,pV (by rfl),w1,sX,gB hdg (by rfl) (by rfl),gh,im,bc (by omega),aA]
  rfl
theorem Jx(s:List UInt8)(hs:s.length<=2000)(a sg:Nat)(hsg:sg=0\/sg=1)(ha:a+sg<=s.length)(w:Int)(x:Nat)(hxx:x=a+sg+((s.drop (a+sg)).takeWhile aG).length):
  rk Tryz.prog aE (Task.at_ 99 1 [true,false,true,true,true] (sv 242 (nv a [(62,V.d (D.b (decide (sg=1))))])) [] [cQ,aQ s (a:Int) 0 w])=
   rk Tryz.prog aE (sG a true (decide (cH (s.drop x)≠0)) (aQ s (x:Int) 0 w)):=by
 have hle:=fe (s.drop (a+sg)) aG
 rw[List.length_drop]at hle
 have hdg:=pv s (by omega) (a+sg) ha 0 w
 rw[<-hxx]at hdg
 have hx:x<=s.length:=by omega
 have hh:rk Tryz.prog aE (Task.call 148 [V.p 0 0,V.d (D.i .i64 1)] [aQ s (x:Int) 0 w])=_:=Ah s (by omega) x 1 hx (by omega) 0 w
 have hF:decide (cH (s.drop x)≠0)=((s.drop x).getD 0 0==46&&aG ((s.drop x).getD 1 0)):=by
  rw[qZ]
  by_cases h46:(s.drop x).getD 0 0=46
  ·cases h:aG ((s.drop x).getD 1 0) with
   |true=>rw[if_pos ⟨h46,rfl⟩,decide_eq_true (by omega),beq_iff_eq.2 h46];rfl
   |false=>rw[if_neg (by rintro⟨-,h⟩;cases h),Bool.and_false];rfl
  ·rw[if_neg (fun h=>h46 h.1),beq_eq_false_iff_ne.2 h46];rfl
 have w1:IntKind.i64.wrap ((a:Int)+1)=((a+1:Nat):Int):=by rw[wrap_i64]<;>omega
 rw[hF]
 rcases hsg with rfl|rfl
 ·rw[show decide ((0:Nat)=1)=false from rfl]
  rw[Nat.add_zero]at hdg
  rcases Nat.lt_or_ge x s.length with hlt|hge
  ·obtain⟨c,hd,hg⟩:=drop_at hlt
   have om:((c.toNat:Int)==46)=(c==46):=bG c 46
   rw[hd,List.getD_cons_zero,<-hd]
   unfold sG cQ
   unfold aQ at *
   rw[oq,aY,gB hdg (by rfl) (by rfl),gh,im,bf (by omega),im,gh,aJ hg,om]
   cases h:(c==46) with
   |true=>rw[bk,gB hh (by rfl) (by rfl),aA];rfl
   |false=>rw[aY,aA];rfl
  ·rw[List.drop_eq_nil_of_le hge]
   unfold sG cQ
   unfold aQ at *
   rw[oq,aY,gB hdg (by rfl) (by rfl),gh,im,bc (by omega),aA]
   rfl
 ·rw[show decide ((1:Nat)=1)=true from rfl]
  rcases Nat.lt_or_ge x s.length with hlt|hge
  ·obtain⟨c,hd,hg⟩:=drop_at hlt
   have om:((c.toNat:Int)==46)=(c==46):=bG c 46
   rw[hd,List.getD_cons_zero,<-hd]
   unfold sG cQ
   unfold aQ at *
   rw[oq,bk,w1,gB hdg (by rfl) (by rfl),gh,im,bf (by omega),im,gh,aJ hg,om]
   cases h:(c==46) with
   |true=>rw[bk,gB hh (by rfl) (by rfl),aA];rfl
   |false=>rw[aY,aA];rfl
  ·rw[List.drop_eq_nil_of_le hge]
   unfold sG cQ
   unfold aQ at *
   rw[oq,bk,w1,gB hdg (by rfl) (by rfl),gh,im,bc (by omega),aA]
   rfl
theorem KD(s:List UInt8)(hs:s.length<=2000)(a sg:Nat)(hsg:sg=0\/sg=1)(hsgl:(s.drop a).take sg=[]\/(s.drop a).take sg=[43]\/(s.drop a).take sg=[45])(ha:a+sg<=s.length)
  (hnd:¬((s.drop (a+sg)).takeWhile aG=[]/\cH (s.drop (a+sg))=0)) (w:Int):
  eP s a w (yE (s.drop a) sg a) (rk Tryz.prog aE (Task.at_ 99 1 [true,false,true,true,true] (sv 242 (nv a [(62,V.d (D.b (decide (sg=1))))])) [] [cQ,aQ s (a:Int) 0 w])):=by
 have hle:=fe (s.drop (a+sg)) aG
 rw[List.length_drop]at hle
 have hself:=gb (s.drop (a+sg)) aG
 have hall:=oX aG (s.drop (a+sg))
 rw[Jx s hs a sg hsg ha w _ rfl]
 unfold yE
 simp only
 rw[List.drop_drop,if_neg hnd]
 generalize hds:(s.drop (a+sg)).takeWhile aG=ds at *
 have hd1:(s.drop (a+sg)).drop ds.length=s.drop (a+sg+ds.length):=by rw[List.drop_drop]
 have hd2:(s.drop (a+sg)).drop (ds.length+cH (s.drop (a+sg+ds.length)))=s.drop (a+sg+ds.length+cH (s.drop (a+sg+ds.length))):=by rw[List.drop_drop];congr 1;omega
 rw[hd1,hd2]
 have hfl:=se (s.drop (a+sg+ds.length))
 rw[List.length_drop]at hfl
 have hel:=vY (s.drop (a+sg+ds.length+cH (s.drop (a+sg+ds.length))))
 rw[List.length_drop]at hel
 generalize hfa:cH (s.drop (a+sg+ds.length))=fa at *
 have dbl:∀y:Nat,y=a+(sg+(ds.length+(fa+dP (s.drop (a+sg+ds.length+fa)))))->eP s a w
   (if (dc ((s.drop a).take (sg+(ds.length+(fa+dP (s.drop (a+sg+ds.length+fa))))))).2≠0 then .inr ((dc ((s.drop a).take (sg+(ds.length+(fa+dP (s.drop (a+sg+ds.length+fa))))))).2,a)
    else nX (s.drop a) (sg+(ds.length+(fa+dP (s.drop (a+sg+ds.length+fa))))) a ⟨3,[],0,(dc ((s.drop a).take (sg+(ds.length+(fa+dP (s.drop (a+sg+ds.length+fa))))))).1,a⟩)
   (rI s a y w):=by
  intro y hy
  unfold rI
  rw[hy,Nat.add_sub_cancel_left]
  generalize sg+(ds.length+(fa+dP (s.drop (a+sg+ds.length+fa))))=n
  generalize dc ((s.drop a).take n)=p
  by_cases hp:p.2≠0
  ·rw[if_pos hp];exact iT s a _ p.2 w hp _
  ·rw[if_neg hp,show p.2=0 by omega];exact nN s a n w _
 by_cases h0:fa=0
 ·-- no fraction
  subst h0
  rw[Nat.add_zero]at *
  rw[show decide ((0:Nat)≠0)=false from rfl,Ft s a _ (by omega) w true]
  have hds0:ds≠[]:=by
   intro e
   apply hnd
   refine⟨e,?_⟩
   rw[e]at hfa
   exact hfa
  have htk:(s.drop a).take (sg+ds.length)=(s.drop a).take sg++ds:=by rw[List.take_add,List.drop_drop,<-hself]
  have hpos:0<ds.length:=List.length_pos_iff.2 hds0
  have hne:(s.drop a).take sg++ds≠[]:=by simp[hds0]
  have hh:((s.drop a).take sg++ds).head?=(s.drop a).head?:=by
   rw[<-htk,List.head?_take,if_neg (by omega)]
  have h10:=I4 ((s.drop a).take sg) ds hsgl (fun c h=>List.all_eq_true.1 hall c h) hne (by rw[<-htk,List.length_take,List.length_drop];omega)
  rw[hh,<-htk]at h10
  have hsub:a+sg+ds.length-a=sg+ds.length:=by omega
  generalize hv:eE ((s.drop a).head?==some 45) (cy ds)=v at *
  have key:∀(n er:Int),rk Tryz.prog aE (Task.call 149 [V.d (D.s ((s.drop a).take (sg+ds.length)))] [])=some (.t [.d (.i .i64 n),.d (.i .i64 er)],[])->
    rk Tryz.prog aE (mn a true ((s.drop (a+sg+ds.length)).getD 0 0==101||(s.drop (a+sg+ds.length)).getD 0 0==69) (aQ s ((a+sg+ds.length:Nat):Int) 0 w))=xP s a (a+sg+ds.length) w true n er:=by
   intro n er h
   exact BZ s hs a (a+sg+ds.length) (by omega) (by omega) w true n er (fun _=>by rw[hsub];exact h) _ rfl
  by_cases hfb:dP (s.drop (a+sg+ds.length))=0
  ·rw[if_pos ⟨rfl,hfb⟩]
   rw[hfb,Nat.add_zero]
   by_cases h60:60<ds.length
   ·rw[if_pos h60]at h10
    rw[if_pos h60,key 0 4 h10]
    unfold xP
    rw[hfb,if_neg (by decide),if_pos rfl]
    exact iT s a _ 4 w (by decide) _
   ·rw[if_neg h60]at h10
    rw[if_neg h60]
    unfold zG at h10
    cases hv2:v.2 with
    |false=>
     rw[hv2,if_neg (by decide)]at h10
     rw[if_pos rfl,key 0 5 h10]
     unfold xP
     rw[hfb,if_neg (by decide),if_pos rfl]
     exact iT s a _ 5 w (by decide) _
    |true=>
     rw[hv2,if_pos rfl]at h10
     rw[if_neg (by decide),key v.1 0 h10]
     unfold xP
     rw[hfb,if_neg (by decide),if_pos rfl,Nat.add_assoc]
     exact nN s a (sg+ds.length) w _
  ·rw[if_neg (fun h=>hfb h.2)]
   have hko:∃n er,rk Tryz.prog aE (Task.call 149 [V.d (D.s ((s.drop a).take (sg+ds.length)))] [])=some (.t [.d (.i .i64 n),.d (.i .i64 er)],[]):=by
    rw[h10]
    by_cases h60:60<ds.length
    ·rw[if_pos h60];exact⟨_,_,rfl⟩
    ·rw[if_neg h60]
     unfold zG
     split
     ·exact⟨_,_,rfl⟩
     ·exact⟨_,_,rfl⟩
   obtain⟨n,er,h⟩:=hko
   rw[key n er h]
   unfold xP
   rw[if_pos hfb]
   exact dbl _ (by omega)
 ·rw[if_neg (fun h=>h0 h.1),decide_eq_true h0]
  have hfe:=qZ (s.drop (a+sg+ds.length))
  rw[hfa]at hfe
  have hcond:(s.drop (a+sg+ds.length)).getD 0 0=46/\aG ((s.drop (a+sg+ds.length)).getD 1 0)=true:=by
   rcases Classical.em ((s.drop (a+sg+ds.length)).getD 0 0=46/\aG ((s.drop (a+sg+ds.length)).getD 1 0)=true)with h|h
   ·exact h
   ·rw[if_neg h]at hfe;exact absurd hfe h0
  rw[if_pos hcond,List.drop_drop]at hfe
  have hlt:a+sg+ds.length+1<=s.length:=by
   rcases Nat.lt_or_ge (a+sg+ds.length) s.length with h|h
   ·omega
   ·rw[List.drop_eq_nil_of_le h]at hcond;exact absurd hcond.1 (by decide)
  rw[Fu s hs a (a+sg+ds.length) hlt w true (a+sg+ds.length+fa) (by omega)]
  rw[BZ s hs a (a+sg+ds.length+fa) (by omega) (by omega) w false 0 0 (fun h=>by cases h) _ rfl]
  unfold xP
  by_cases hfb:dP (s.drop (a+sg+ds.length+fa))≠0
  ·rw[if_pos hfb]
   exact dbl _ (by omega)
  ·rw[if_neg hfb,if_neg (show ¬(false=true) by decide)]
   exact dbl _ (by omega)
theorem Iy{s:List UInt8}{a:Nat}{w:Int}{r:Cz}{o o':Option Out}(hw:eP s a w r o)
  (H:∀(T:Tok) (x e w':Int),o=some (.d T.D,[aQ s x e w'])->o'=some (.d T.D,[aQ s x e w'])):eP s a w r o':=by
 match r,hw with
 | .inr (e,w'),⟨he,x,T,h⟩=>exact⟨he,x,T,H _ _ _ _ h⟩
 | .inl (t,n),h=>exact H _ _ _ _ h
theorem I2(s:List UInt8)(hs:s.length<=2000)(a:Nat)(c:UInt8)(hd:s.drop a=c::s.drop (a+1))(hg:bh s (a:Int)=some c)(ha:a<s.length)
    (hnd:wD (s.drop (a+fu (s.drop a)))=false) (w:Int):eP s a w (wH (s.drop a) a) (rk Tryz.prog aE (Task.call 99 [V.p 0 0] [aQ s (a:Int) 0 w])):=by
  have hnd':¬((s.drop (a+fu (s.drop a))).takeWhile aG=[]/\cH (s.drop (a+fu (s.drop a)))=0):=fun h=>by
    have:=(yy _).2 h;rw[hnd]at this;cases this
  have hst:=oU s [48,120] a (by omega) (by omega) (by decide)
  have hl:([48,120]:List UInt8).length=2:=rfl
  rw[hl,hd,wX]at hst
  have w2:IntKind.i64.wrap ((a:Int)+2)=((a+2:Nat):Int):=by rw[wrap_i64]<;>omega
  have e43:((c.toNat:Int)==43)=(c==43):=bG c 43
  have xk:((c.toNat:Int)==45)=(c==45):=bG c 45
  have hsN:fu (s.drop a)=if c=43\/c=45 then 1 else 0:=by rw[hd];rfl
  have h27:∀b:Bool,rk Tryz.prog aE (Task.call 99 [V.p 0 0] [aQ s (a:Int) 0 w])=
        rk Tryz.prog aE (Task.at_ 99 1 [true,false,true,true] (sv 242 (nv a [(38,V.d (D.b b))])) [] [cQ,aQ s (a:Int) 0 w])->
      (b=true↔(fu (s.drop a)=0/\(s.drop a).head?=some 48/\((s.drop a).drop 1).head?=some 120/\(((s.drop a).drop 2).takeWhile cX)≠[]))->
      eP s a w (wH (s.drop a) a) (rk Tryz.prog aE (Task.call 99 [V.p 0 0] [aQ s (a:Int) 0 w])):=by
    intro b hgo hb
    rw[hgo,wI]
    cases b with
    |true=>
      have h:=hb.1 rfl
      rw[if_pos h]
      have hlen:a+2<=s.length:=by
        have h3:=h.2.2.2
        rcases Nat.lt_or_ge s.length (a+2)with h|h
        · rw[List.drop_drop,List.drop_eq_nil_of_le (by omega)]at h3;exact absurd rfl h3
        · exact h
      refine Iy (Ak s (by omega) a hlen w) ?_
      intro T x e w' h
      unfold Tok.D cQ at *
      unfold aQ at *
      rw[xN,bk,xJ h (by rfl) (by rfl) (by rfl),aD]
      rfl
    |false=>
      rw[if_neg (fun h=>by have:=hb.2 h;cases this)]
      have hto:rk Tryz.prog aE (Task.at_ 99 1 [true,false,true,true] (sv 242 (nv a [(38,V.d (D.b false))])) [] [cQ,aQ s (a:Int) 0 w])=
          rk Tryz.prog aE (Task.at_ 99 1 [true,false,true,true,true] (sv 242 (nv a [(62,V.d (D.b (decide (fu (s.drop a)=1))))])) [] [cQ,aQ s (a:Int) 0 w]):=by
        rw[hsN]
        unfold cQ aQ
        rw[xN,aY,aJ hg,e43]
        by_cases h43:c=43
        · rw[da (beq_iff_eq.2 h43),aA,if_pos (Or.inl h43)];rfl
        · rw [cj (beq_eq_false_iff_ne.2 h43), aJ hg, aA, xk]
          by_cases h45:c=45
          · rw[if_pos (Or.inr h45),beq_iff_eq.2 h45];rfl
          · rw[if_neg (by rintro(h|h);exact h43 h;exact h45 h),beq_eq_false_iff_ne.2 h45];rfl
      rw[hto]
      have hsle:=zl (s.drop a)
      rw[List.length_drop]at hsle
      refine KD s hs a (fu (s.drop a)) ?_ ?_ (by omega) hnd' w
      · rw [hsN]; split
        · exact Or.inr rfl
        · exact Or.inl rfl
      · rw [hsN, hd]
        by_cases h:c=43\/c=45
        · rw [if_pos h]
          rcases h with rfl|rfl
          · exact Or.inr (Or.inl rfl)
          · exact Or.inr (Or.inr rfl)
        · rw[if_neg h];exact Or.inl rfl
  have hd1:(s.drop a).drop 1=s.drop (a+1):=by rw[List.drop_drop]
  have hd2:(s.drop a).drop 2=s.drop (a+2):=by rw[List.drop_drop]
  rw[hd1,hd2]at h27
  by_cases h0x:c=48/\(s.drop (a+1)).head?=some 120
  · rw [decide_eq_true h0x] at hst
    have hs0:fu (s.drop a)=0:=by rw[hsN,if_neg (by rw[h0x.1];decide)]
    have hh0:(s.drop a).head?=some 48:=by rw[hd,h0x.1];rfl
    rcases Nat.lt_or_ge (a+2) s.length with hlt|hge
    · obtain ⟨d, hdd, hgd⟩ := drop_at hlt
      have hx:=ED d
      refine h27 (cX d) ?_ ?_
      · unfold cQ aQ
        rw[Lx,dh hst,bk,w2,bf (by omega),aJ hgd,de hx,aA]
        cases cX d with
        |true=>rw[if_pos rfl,decide_eq_true (Int.natCast_nonneg _)]
        |false=>rw[if_neg (by decide)];rfl
      · rw [hdd, List.takeWhile_cons]
        cases cX d with
        |true=>simp[hs0,hh0,h0x.2]
        |false=>simp
    · refine h27 false ?_ ?_
      · unfold cQ aQ
        rw[Lx,dh hst,bk,w2,bc (by omega),aA]
      · rw[List.drop_eq_nil_of_le hge];simp
  · rw [decide_eq_false h0x] at hst
    refine h27 false ?_ ?_
    · unfold cQ aQ
      rw[Lx,dh hst,aY,aA]
    · constructor
      · intro h;cases h
      · rintro ⟨-, h1, h2, -⟩
        rw[hd]at h1
        exact absurd ⟨Option.some.inj h1,h2⟩ h0x
end Go.Dn.Dec
namespace Go.Dn.Dec
open Go.Proofs
theorem Gk(q:UInt8)(r:List UInt8)(a:Nat):qL q r a=if r.dropWhile (· != q)=[]\/(r.takeWhile (· != q)).contains 10=true then .inr (2,a)else .inl (⟨4,r.takeWhile (· != q),0,0,a⟩,(r.takeWhile (· != q)).length+2):=rfl
def gC(c d:UInt8):Bool:=d != c&&d != 10
theorem ta(c:UInt8)(hc:c≠10):∀q:List UInt8,
  match q.dropWhile (gC c) with
  | []=>q.dropWhile (· != c)=[]
  |d::_=>(d=10->(q.dropWhile (· != c)=[]\/(q.takeWhile (· != c)).contains 10=true))/\
    (d≠10->q.takeWhile (· != c)=q.takeWhile (gC c)/\q.dropWhile (· != c)≠[]/\(q.takeWhile (· != c)).contains 10=false)
 | []=>rfl
 |x::q=>by
  have ih:=ta c hc q
  rw[List.dropWhile_cons,List.takeWhile_cons,List.dropWhile_cons,List.takeWhile_cons]
  by_cases hx:x=c
  ·subst hx
   have h1:gC x x=false:=by unfold gC;simp
   have h2:(x != x)=false:=by simp
   rw[h1,h2]
   simp only[Bool.false_eq_true,if_false]
   refine⟨fun h=>absurd h hc,fun _=>?_⟩
   simp
  ·have h2:(x != c)=true:=bne_iff_ne.2 hx
   rw[h2]
   by_cases h10:x=10
   ·subst h10
    have h1:gC c 10=false:=by unfold gC;simp
    rw[h1]
    simp only[Bool.false_eq_true,if_false,if_true]
    exact⟨fun _=>Or.inr (by simp),fun h=>absurd rfl h⟩
   ·have h1:gC c x=true:=by unfold gC;rw[h2,bne_iff_ne.2 h10];rfl
    rw[h1]
    simp only[if_true]
    cases hq:q.dropWhile (gC c) with
    |nil=>rw[hq]at ih;exact ih
    |cons d q'=>
     rw[hq]at ih
     simp only at ih⊢
     refine⟨fun h=>?_,fun h=>?_⟩
     ·rcases ih.1 h with h' | h'
      ·exact Or.inl h'
      ·right;rw[List.contains_cons,h',Bool.or_true]
     ·obtain⟨i1,i2,i3⟩:=ih.2 h
      refine⟨by rw[i1],i2,?_⟩
      rw[List.contains_cons,i3,Bool.or_false]
      exact beq_eq_false_iff_ne.2 (Ne.symm h10)
theorem qM(s:List UInt8)(hs:s.length<=10000)(a:Nat)(c:UInt8)(w:Int):∀(m k:Nat),k+m=s.length->
    rk Tryz.prog aE (Task.at_ 46 1 [false,false,true,false,true,true,true,true,true,true,true,false,false,true,true,true,true,true,true]
      (sv 194 (nv a [(4,V.d (D.i .u8 (c.toNat:Int))),(6,V.d (D.i .i64 (k:Int)))])) [] [cQ,aQ s (a:Int) 0 w])=
    rk Tryz.prog aE (Task.at_ 46 1 [true,false,false,false,false,true,false,true,true,true,true,true,true,true,false,false,true,true,true,true,true,true]
      (sv 194 (nv a [(4,V.d (D.i .u8 (c.toNat:Int))),(6,V.d (D.i .i64 ((k+((s.drop k).takeWhile (gC c)).length:Nat):Int))),(152,V.d (D.b false))])) [] [cQ,aQ s (a:Int) 0 w])
  |0,k,h=>by
    unfold cQ aQ
    rw[oo,bc (by omega),aA,List.drop_eq_nil_of_le (by omega)]
    rfl
  |m+1,k,h=>by
    obtain⟨d,hd,hg⟩:=drop_at (show k<s.length by omega)
    have ih:=qM s hs a c w m (k+1) (by omega)
    have w1:IntKind.i64.wrap ((k:Int)+1)=((k+1:Nat):Int):=by rw[wrap_i64]<;>omega
    have ec:((d.toNat:Int) != (c.toNat:Int))=(d != c):=by rw[bne,bne,bG]
    have e10:((d.toNat:Int) != 10)=(d != 10):=by rw[bne,bne,show ((d.toNat:Int)==10)=(d==10)from bG d 10]
    have go:rk Tryz.prog aE (Task.at_ 46 1 [false,false,true,false,true,true,true,true,true,true,true,false,false,true,true,true,true,true,true]
          (sv 194 (nv a [(4,V.d (D.i .u8 (c.toNat:Int))),(6,V.d (D.i .i64 (k:Int)))])) [] [cQ,aQ s (a:Int) 0 w])=
        rk Tryz.prog aE (Task.at_ 46 1 [true,false,false,false,false,true,false,true,true,true,true,true,true,true,false,false,true,true,true,true,true,true]
          (sv 194 (nv a [(4,V.d (D.i .u8 (c.toNat:Int))),(6,V.d (D.i .i64 (k:Int))),(152,V.d (D.b (gC c d)))])) [] [cQ,aQ s (a:Int) 0 w]):=by
      unfold gC cQ aQ
      rw[oo,bf (by omega),aJ hg,ec]
      cases hdc:(d != c) with
      |true=>rw[bk,aJ hg,aA,e10];rfl
      |false=>rw[aY,aA];rfl
    rw[go,hd,List.takeWhile_cons]
    cases hp:gC c d with
    |false=>rw[if_neg (by decide)];rfl
    |true=>
      rw[if_pos rfl,List.length_cons,show k+(((s.drop (k+1)).takeWhile (gC c)).length+1)=k+1+((s.drop (k+1)).takeWhile (gC c)).length by omega,<-ih]
      unfold cQ aQ
      rw[jt,bk,w1,aA]
theorem JQ(s:List UInt8)(hs:s.length<=10000)(a:Nat)(c:UInt8)(ha:a<s.length)(hc:c=34\/c=39)(w:Int):
  eP s a w (qL c (s.drop (a+1)) a) (rk Tryz.prog aE (Task.at_ 46 1 [true,true,true,true,true,true,true,false,false,true,true,true,true,true,true]
   (sv 194 (nv a [(4,V.d (D.i .u8 (c.toNat:Int))),(118,V.d (D.b true))])) [] [cQ,aQ s (a:Int) 0 w])):=by
 have hc10:c≠10:=by rcases hc with rfl|rfl<;>decide
 have w1:IntKind.i64.wrap ((a:Int)+1)=((a+1:Nat):Int):=by rw[wrap_i64]<;>omega
 have hL:=qM s hs a c w (s.length-(a+1)) (a+1) (by omega)
 have hsp:=ta c hc10 (s.drop (a+1))
 have hself:=gb (s.drop (a+1)) (gC c)
 have hle:=fe (s.drop (a+1)) (gC c)
 have hdl:(s.drop (a+1)).length=s.length-(a+1):=List.length_drop ..
 have hsum:((s.drop (a+1)).takeWhile (gC c)).length+((s.drop (a+1)).dropWhile (gC c)).length=(s.drop (a+1)).length:=by
  have:=congrArg List.length (List.takeWhile_append_dropWhile (p:=gC c) (l:=s.drop (a+1)))
  rwa[List.length_append]at this
 have hat:(s.drop (a+1+((s.drop (a+1)).takeWhile (gC c)).length))=(s.drop (a+1)).dropWhile (gC c):=by
  rw[<-List.drop_drop]
  have h3:=List.takeWhile_append_dropWhile (p:=gC c) (l:=s.drop (a+1))
  calc (s.drop (a+1)).drop ((s.drop (a+1)).takeWhile (gC c)).length
    = ((s.drop (a+1)).takeWhile (gC c)++(s.drop (a+1)).dropWhile (gC c)).drop ((s.drop (a+1)).takeWhile (gC c)).length:=by rw[h3]
   _=_:=by rw[List.drop_left]
 have go:rk Tryz.prog aE (Task.at_ 46 1 [true,true,true,true,true,true,true,false,false,true,true,true,true,true,true]
   (sv 194 (nv a [(4,V.d (D.i .u8 (c.toNat:Int))),(118,V.d (D.b true))])) [] [cQ,aQ s (a:Int) 0 w])=
   rk Tryz.prog aE (Task.at_ 46 1 [false,false,true,false,true,true,true,true,true,true,true,false,false,true,true,true,true,true,true]
   (sv 194 (nv a [(4,V.d (D.i .u8 (c.toNat:Int))),(6,V.d (D.i .i64 ((a+1:Nat):Int)))])) [] [cQ,aQ s (a:Int) 0 w]):=by
  unfold cQ aQ
  rw[qf,bk,w1,aA]
 have hf:=jf s (a:Int) 0 w 2 (a:Int)
 have bad:∀k:Int,eP s a w (.inr (2,a)) (rk Tryz.prog aE (Task.at_ 46 1 [true,false,true,true,false,true,true,true,true,true,true,true,false,false,true,true,true,true,true,true]
   (sv 194 (nv a [(6,V.d (D.i .i64 k)),(170,V.d (D.b true))])) [] [cQ,aQ s (a:Int) 0 w])):=by
  intro k
  refine⟨by decide,(a:Int),⟨0,[],0,0,0⟩,?_⟩
  unfold cQ
  unfold aQ at *
  rw[my,bk,dz hf (by rfl) (by rfl),aD]
  rfl
 rw[go,hL,Gk]
 generalize hu:(s.drop (a+1)).takeWhile (gC c)=u at *
 cases hdw:(s.drop (a+1)).dropWhile (gC c) with
 |nil=>
  rw[hdw]at hsp hsum
  rw[if_pos (Or.inl hsp)]
  have hend:a+1+u.length=s.length:=by rw[List.length_nil]at hsum;omega
  have to1:rk Tryz.prog aE (Task.at_ 46 1 [true,false,false,false,false,true,false,true,true,true,true,true,true,true,false,false,true,true,true,true,true,true]
    (sv 194 (nv a [(4,V.d (D.i .u8 (c.toNat:Int))),(6,V.d (D.i .i64 ((a+1+u.length:Nat):Int))),(152,V.d (D.b false))])) [] [cQ,aQ s (a:Int) 0 w])=
    rk Tryz.prog aE (Task.at_ 46 1 [true,false,true,true,false,true,true,true,true,true,true,true,false,false,true,true,true,true,true,true]
    (sv 194 (nv a [(6,V.d (D.i .i64 ((a+1+u.length:Nat):Int))),(170,V.d (D.b true))])) [] [cQ,aQ s (a:Int) 0 w]):=by
   unfold cQ aQ
   rw[jt,aY,cm (by omega),aA]
  rw[to1]
  exact bad _
 |cons d rest=>
  rw[hdw]at hsp hat
  rw[hdw,List.length_cons]at hsum
  simp only at hsp
  have hlt:a+1+u.length<s.length:=by omega
  have hgd:bh s ((a+1+u.length:Nat):Int)=some d:=by rw[bp,<-List.head?_drop,hat];rfl
  have e10:((d.toNat:Int)==10)=(d==10):=bG d 10
  have to1:rk Tryz.prog aE (Task.at_ 46 1 [true,false,false,false,false,true,false,true,true,true,true,true,true,true,false,false,true,true,true,true,true,true]
    (sv 194 (nv a [(4,V.d (D.i .u8 (c.toNat:Int))),(6,V.d (D.i .i64 ((a+1+u.length:Nat):Int))),(152,V.d (D.b false))])) [] [cQ,aQ s (a:Int) 0 w])=
    rk Tryz.prog aE (Task.at_ 46 1 [true,false,true,true,false,true,true,true,true,true,true,true,false,false,true,true,true,true,true,true]
    (sv 194 (nv a [(6,V.d (D.i .i64 ((a+1+u.length:Nat):Int))),(170,V.d (D.b (d==10)))])) [] [cQ,aQ s (a:Int) 0 w]):=by
   unfold cQ aQ
   rw[jt,aY,bO (by omega),aJ hgd,aA,e10]
  rw[to1]
  by_cases h10:d=10
  ·rw[if_pos (hsp.1 h10),beq_iff_eq.2 h10]
   exact bad _
  ·obtain⟨i1,i2,i3⟩:=hsp.2 h10
   rw[if_neg (by rintro(h|h);exact i2 h;rw[i3]at h;cases h),i1,beq_eq_false_iff_ne.2 h10]
   have w3:IntKind.i64.wrap (((a+1+u.length:Nat):Int)+1)=((a+(u.length+2):Nat):Int):=by rw[wrap_i64]<;>omega
   have htk:List.take ((((a+1+u.length:Nat):Int)).toNat-(((a+1:Nat):Int)).toNat) (List.drop (((a+1:Nat):Int)).toNat s)=u:=by
    rw[Int.toNat_natCast,Int.toNat_natCast,Nat.add_sub_cancel_left,<-hself]
   show _=_
   unfold cQ aQ
   rw[my,aY,w1,aH (by omega),aH (by omega),htk,w3,aD]
   rfl
theorem qE(s:List UInt8)(hs:s.length<=10000)(a:Nat)(c:UInt8)(hd:s.drop a=c::s.drop (a+1))(ha:a<s.length)(w:Int):∀(m i:Nat),i+m=13->
  eP s a w (if (eD.drop i).contains c=true then .inl (⟨5,[c],0,0,a⟩,1)else .inr (2,a))
   (rk Tryz.prog aE (Task.at_ 46 1 [false,true,true,true,true,true,true,true,true,true,false,false,true,true,true,true,true,true] (sv 194 (nv a [(4,V.d (D.i .u8 (c.toNat:Int))),(7,V.d (D.i .i64 (i:Int)))])) [] [cQ,aQ s (a:Int) 0 w]))
 |0,i,h=>by
  have hf:=jf s (a:Int) 0 w 2 (a:Int)
  have e:i=13:=by omega
  subst e
  rw[if_neg (show ¬((eD.drop 13).contains c=true) by simp[eD])]
  refine⟨by decide,(a:Int),⟨0,[],0,0,0⟩,?_⟩
  unfold cQ
  unfold aQ at *
  rw[kj,bc (by decide),dz hf (by rfl) (by rfl),aD]
  rfl
 |m+1,i,h=>by
  have hi:i<eD.length:=by show i<13;omega
  obtain⟨x,hdx,hgx⟩:=drop_at hi
  have hgx:bh [123,125,40,41,91,93,60,62,44,59,58,61,42] (i:Int)=some x:=hgx
  have ih:=qE s hs a c hd ha w m (i+1) (by omega)
  have w1:IntKind.i64.wrap ((i:Int)+1)=((i+1:Nat):Int):=by rw[wrap_i64]<;>omega
  have w2:IntKind.i64.wrap ((a:Int)+1)=((a+1:Nat):Int):=by rw[wrap_i64]<;>omega
  have ex:((x.toNat:Int)==(c.toNat:Int))=(x==c):=bG x c
  rw[hdx,List.contains_cons]
  by_cases hxc:x=c
  ·have htk:List.take ((((a+1:Nat):Int)).toNat-((a:Nat):Int).toNat) (List.drop ((a:Nat):Int).toNat s)=[c]:=by
    rw[Int.toNat_natCast,Int.toNat_natCast,Nat.add_sub_cancel_left,hd];rfl
   rw[hxc,beq_self_eq_true,Bool.true_or,if_pos rfl]
   show _=_
   unfold cQ aQ
   rw[kj,bf (by omega),aJ hgx,ex,da (beq_iff_eq.2 hxc),w2,aH (by omega),aH (by omega),htk,aD]
   rfl
  ·rw[beq_eq_false_iff_ne.2 (Ne.symm hxc),Bool.false_or]
   have go:rk Tryz.prog aE (Task.at_ 46 1 [false,true,true,true,true,true,true,true,true,true,false,false,true,true,true,true,true,true] (sv 194 (nv a [(4,V.d (D.i .u8 (c.toNat:Int))),(7,V.d (D.i .i64 (i:Int)))])) [] [cQ,aQ s (a:Int) 0 w])=
     rk Tryz.prog aE (Task.at_ 46 1 [false,true,true,true,true,true,true,true,true,true,false,false,true,true,true,true,true,true] (sv 194 (nv a [(4,V.d (D.i .u8 (c.toNat:Int))),(7,V.d (D.i .i64 ((i+1:Nat):Int)))])) [] [cQ,aQ s (a:Int) 0 w]):=by
    unfold cQ aQ
    rw[kj,bf (by omega),aJ hgx,ex,cj (beq_eq_false_iff_ne.2 hxc),w1,aA]
   rw[go]
   exact ih
theorem JY(s:List UInt8)(hs:s.length<=2000)(a:Nat)(ha:a<s.length)(w:Int):eP s a w (jo (s.drop a) a) (rk Tryz.prog aE (Task.call 46 [V.p 0 0] [aQ s (a:Int) 0 w])):=by
 obtain⟨c,hd,hg⟩:=drop_at ha
 have w1:IntKind.i64.wrap ((a:Int)+1)=((a+1:Nat):Int):=by rw[wrap_i64]<;>omega
 have w2:IntKind.i64.wrap ((a:Int)+2)=((a+2:Nat):Int):=by rw[wrap_i64]<;>omega
 have e46c:((c.toNat:Int)==46)=(c==46):=bG c 46
 have e43:((c.toNat:Int)==43)=(c==43):=bG c 43
 have xk:((c.toNat:Int)==45)=(c==45):=bG c 45
 have e34:((c.toNat:Int)==34)=(c==34):=bG c 34
 have e39:((c.toNat:Int)==39)=(c==39):=bG c 39
 have hh:∀{r:Cz} {k:Nat} {o':Option Out},eP s a w r (rk Tryz.prog aE (Task.call k [V.p 0 0] [aQ s (a:Int) 0 w]))->
   (∀(T:Tok) (x e w':Int),rk Tryz.prog aE (Task.call k [V.p 0 0] [aQ s (a:Int) 0 w])=some (.d T.D,[aQ s x e w'])->o'=some (.d T.D,[aQ s x e w']))->eP s a w r o':=fun h H=>Iy h H
 have hto:rk Tryz.prog aE (Task.call 46 [V.p 0 0] [aQ s (a:Int) 0 w])=
   rk Tryz.prog aE (Task.at_ 46 1 [true,true,true,true,true,true] (sv 194 (nv a [(4,V.d (D.i .u8 (c.toNat:Int))),(5,V.d (D.i .u8 ((((s.drop (a+1)).getD 0 0).toNat:Nat):Int)))])) [] [cQ,aQ s (a:Int) 0 w]):=by
  rcases Nat.lt_or_ge (a+1) s.length with hlt|hge
  ·obtain⟨d,hdd,hgd⟩:=drop_at hlt
   rw[hdd,List.getD_cons_zero]
   unfold cQ aQ
   rw[om,bO (by omega),aJ hg,w1,bf (by omega),aJ hgd,aA]
  ·rw[List.drop_eq_nil_of_le hge]
   unfold cQ aQ
   rw[om,bO (by omega),aJ hg,w1,bc (by omega),aA]
   rfl
 generalize hn:(s.drop (a+1)).getD 0 0=n at hto
 have en46:((n.toNat:Int)==46)=(n==46):=bG n 46
 have hf:=jf s (a:Int) 0 w 2 (a:Int)
 have hr1:(s.drop a).getD 1 0=n:=by rw[hd,List.getD_cons_succ];exact hn
 have hr2:(s.drop (a+1)).getD 1 0=(s.drop (a+2)).getD 0 0:=by
  rw[List.getD_eq_getElem?_getD,List.getD_eq_getElem?_getD,List.getElem?_drop,List.getElem?_drop]
 have hw:jo (s.drop a) a=jo (c::s.drop (a+1)) a:=by rw[hd]
 rw[hw]
 unfold jo
 simp only
 rw[hto]
 have hl:=Ai c
 have hdg:=mR c
 have hdn:=mR n
 cases hlt:ns c with
 |true=>
  rw[if_pos rfl,<-hd]
  refine hh (Hb s (by omega) a (by omega) w) ?_
  intro T x e w' h
  rw[hlt]at hl
  unfold Tok.D cQ at *
  unfold aQ at *
  rw[uh,dh hl,bk,xJ h (by rfl) (by rfl) (by rfl),aD]
  rfl
 |false=>
  rw[if_neg (show ¬(false=true) by decide)]
  rw[hlt]at hl
  have h72:rk Tryz.prog aE (Task.at_ 46 1 [true,true,true,true,true,true] (sv 194 (nv a [(4,V.d (D.i .u8 (c.toNat:Int))),(5,V.d (D.i .u8 ((n.toNat:Nat):Int)))])) [] [cQ,aQ s (a:Int) 0 w])=
    rk Tryz.prog aE (Task.at_ 46 1 [true,true,true,false,false,true,true,true,true,true,true] (sv 194 (nv a [(4,V.d (D.i .u8 (c.toNat:Int))),(5,V.d (D.i .u8 ((n.toNat:Nat):Int))),(72,V.d (D.b (aG c||(c==46&&aG n))))])) [] [cQ,aQ s (a:Int) 0 w]):=by
   unfold cQ aQ
   rw[uh,dh hl,aY,dh hdg]
   cases hdc:aG c with
   |true=>rw[bk,aA];rfl
   |false=>
    rw[aY,e46c]
    cases h46:(c==46) with
    |true=>rw[bk,dh hdn,aA];rfl
    |false=>rw[aY,aA];rfl
  rw[h72]
  have numOk:wD (s.drop (a+fu (s.drop a)))=false->(aG c=true\/c=43\/c=45\/c=46)->eP s a w (wH (c::s.drop (a+1)) a) (rk Tryz.prog aE (Task.call 99 [V.p 0 0] [aQ s (a:Int) 0 w])):=by
   intro h _
   rw[<-hd]
   exact I2 s hs a c hd hg ha h w
  have hsN:fu (s.drop a)=if c=43\/c=45 then 1 else 0:=by rw[hd];rfl
  cases hA:(aG c||(c==46&&aG n)) with
  |true=>
   have hcond:aG c=true\/c=43\/c=45\/c=46:=by
    rw[Bool.or_eq_true,Bool.and_eq_true]at hA
    rcases hA with h|⟨h,-⟩
    ·exact Or.inl h
    ·exact Or.inr (Or.inr (Or.inr (by simpa using h)))
   have hns:¬(c=43\/c=45):=by
    rintro(rfl|rfl)<;>exact absurd hA (by simp[aG])
   have hnd:wD (s.drop (a+fu (s.drop a)))=false:=by
    rw[hsN,if_neg hns,Nat.add_zero]
    unfold wD
    rw[hr1,hd,List.getD_cons_zero]
    cases h1:aG c with
    |true=>rfl
    |false=>rw[h1,Bool.false_or]at hA;rw[hA];rfl
   rw[if_pos hcond]
   refine hh (numOk hnd hcond) ?_
   intro T x e w' h
   unfold Tok.D cQ at *
   unfold aQ at *
   rw[rU,bk,xJ h (by rfl) (by rfl) (by rfl),aD]
   rfl
  |false=>
   have hndig:aG c=false:=by rw[Bool.or_eq_false_iff]at hA;exact hA.1
   have hdot:(c==46&&aG n)=false:=by rw[Bool.or_eq_false_iff]at hA;exact hA.2
   have h83:rk Tryz.prog aE (Task.at_ 46 1 [true,true,true,false,false,true,true,true,true,true,true] (sv 194 (nv a [(4,V.d (D.i .u8 (c.toNat:Int))),(5,V.d (D.i .u8 ((n.toNat:Nat):Int))),(72,V.d (D.b false))])) [] [cQ,aQ s (a:Int) 0 w])=
     rk Tryz.prog aE (Task.at_ 46 1 [true,true,true,true,true,false,false,true,true,true,true,true,true] (sv 194 (nv a [(4,V.d (D.i .u8 (c.toNat:Int))),(5,V.d (D.i .u8 ((n.toNat:Nat):Int))),(83,V.d (D.b (c==43||c==45)))])) [] [cQ,aQ s (a:Int) 0 w]):=by
    unfold cQ aQ
    rw[rU,aY,e43]
    cases h43:(c==43) with
    |true=>rw[bk,aA];rfl
    |false=>rw[aY,aA,xk];rfl
   rw[h83]
   have numBad:wD (s.drop (a+fu (s.drop a)))=true->c≠48->wH (c::s.drop (a+1)) a = .inr (2,a):=by
    intro h h48
    have h2:=(yy _).1 h
    rw[<-List.drop_drop]at h2
    rw[<-hd,wI,if_neg (by rintro⟨-,h,-⟩;rw[hd]at h;exact h48 (Option.some.inj h))]
    unfold yE
    simp only
    rw[if_pos h2]
   have h48:c≠48:=fun e=>by rw[e]at hndig;exact absurd hndig (by decide)
   cases hS:(c==43||c==45) with
   |true=>
    have hsc:c=43\/c=45:=by simpa using hS
    have hcond:aG c=true\/c=43\/c=45\/c=46:=by rcases hsc with h|h;exact Or.inr (Or.inl h);exact Or.inr (Or.inr (Or.inl h))
    rw[if_pos hcond]
    have hsN1:fu (s.drop a)=1:=by rw[hsN,if_pos hsc]
    have go:rk Tryz.prog aE (Task.at_ 46 1 [true,true,true,true,true,false,false,true,true,true,true,true,true] (sv 194 (nv a [(4,V.d (D.i .u8 (c.toNat:Int))),(5,V.d (D.i .u8 ((n.toNat:Nat):Int))),(83,V.d (D.b true))])) [] [cQ,aQ s (a:Int) 0 w])=
      rk Tryz.prog aE (Task.at_ 46 1 [true,false,true,true,true,true,true,false,false,true,true,true,true,true,true] (sv 194 (nv a [(115,V.d (D.b (!wD (s.drop (a+1)))))])) [] [cQ,aQ s (a:Int) 0 w]):=by
     unfold wD
     rw[hn,hr2]
     unfold cQ aQ
     rw[qd,bk,dh hdn]
     cases h1:aG n with
     |true=>rw[bk,aA];rfl
     |false=>
      rw[aY,en46]
      cases h46:(n==46) with
      |false=>rw[aY,aA];rfl
      |true=>
       rw[bk,w2]
       rcases Nat.lt_or_ge (a+2) s.length with hlt|hge
       ·obtain⟨d,hdd,hgd⟩:=drop_at hlt
        rw[bf (by omega),aJ hgd,dh (mR d),aA,hdd,List.getD_cons_zero]
        cases aG d<;>rfl
       ·rw[bc (by omega),aA,List.drop_eq_nil_of_le hge]
        rfl
    rw[go]
    cases hnb:wD (s.drop (a+1)) with
    |false=>
     refine hh (numOk (by rw[hsN1];exact hnb) hcond) ?_
     intro T x e w' h
     unfold Tok.D cQ at *
     unfold aQ at *
     rw[qe,Bool.not_false,bk,xJ h (by rfl) (by rfl) (by rfl),aD]
     rfl
    |true=>
     rw[numBad (by rw[hsN1];exact hnb) h48]
     refine⟨by decide,(a:Int),⟨0,[],0,0,0⟩,?_⟩
     unfold cQ
     unfold aQ at *
     rw[qe,Bool.not_true,aY,dz hf (by rfl) (by rfl),aD]
     rfl
   |false=>
    have hns:¬(c=43\/c=45):=by
     intro h
     have:(c==43||c==45)=true:=by simpa using h
     rw[hS]at this;cases this
    have h118:rk Tryz.prog aE (Task.at_ 46 1 [true,true,true,true,true,false,false,true,true,true,true,true,true] (sv 194 (nv a [(4,V.d (D.i .u8 (c.toNat:Int))),(5,V.d (D.i .u8 ((n.toNat:Nat):Int))),(83,V.d (D.b false))])) [] [cQ,aQ s (a:Int) 0 w])=
      rk Tryz.prog aE (Task.at_ 46 1 [true,true,true,true,true,true,true,false,false,true,true,true,true,true,true] (sv 194 (nv a [(4,V.d (D.i .u8 (c.toNat:Int))),(118,V.d (D.b (c==34||c==39)))])) [] [cQ,aQ s (a:Int) 0 w]):=by
     unfold cQ aQ
     rw[qd,aY,e34]
     cases h34:(c==34) with
     |true=>rw[bk,aA];rfl
     |false=>rw[aY,aA,e39];rfl
    rw[h118]
    have hsign:∀bq:Bool,bq=(c==34||c==39)->bq=false->
      rk Tryz.prog aE (Task.at_ 46 1 [true,true,true,true,true,true,true,false,false,true,true,true,true,true,true] (sv 194 (nv a [(4,V.d (D.i .u8 (c.toNat:Int))),(118,V.d (D.b bq))])) [] [cQ,aQ s (a:Int) 0 w])=
      rk Tryz.prog aE (Task.at_ 46 1 [false,true,true,true,true,true,true,true,true,true,false,false,true,true,true,true,true,true] (sv 194 (nv a [(4,V.d (D.i .u8 (c.toNat:Int))),(7,V.d (D.i .i64 ((0:Nat):Int)))])) [] [cQ,aQ s (a:Int) 0 w]):=by
     intro bq _ h
     rw[h]
     unfold cQ aQ
     rw[qf,aY,aA]
     rfl
    have hsl:=qE s (by omega) a c hd ha w 13 0 rfl
    rw[List.drop_zero]at hsl
    by_cases h46:c=46
    ·-- a dot that begins nothing
     have hcond:aG c=true\/c=43\/c=45\/c=46:=Or.inr (Or.inr (Or.inr h46))
     have hnd:wD (s.drop (a+fu (s.drop a)))=true:=by
      rw[hsN,if_neg hns,Nat.add_zero]
      unfold wD
      rw[hr1,hd,List.getD_cons_zero,hndig,hdot];rfl
     have hq:(c==34||c==39)=false:=by rw[h46];rfl
     rw[if_pos hcond,numBad hnd h48,hsign _ rfl hq]
     rw[if_neg (show ¬(eD.contains c=true) by rw[h46];decide)]at hsl
     exact hsl
    ·have hcond:¬(aG c=true\/c=43\/c=45\/c=46):=by
      rintro(h|h|h|h)
      ·rw[hndig]at h;cases h
      ·exact hns (Or.inl h)
      ·exact hns (Or.inr h)
      ·exact h46 h
     rw[if_neg hcond]
     by_cases hq:c=34\/c=39
     ·have hqb:(c==34||c==39)=true:=by simpa using hq
      rw[if_pos hq,hqb]
      exact JQ s (by omega) a c ha hq w
     ·have hqb:(c==34||c==39)=false:=by
       cases e:(c==34||c==39) with
       |false=>rfl
       |true=>exact absurd (by simpa using e) hq
      rw[if_neg hq,hsign _ rfl hqb]
      exact hsl
end Go.Dn.Dec
namespace Go.Dn.Dec
open Go.Proofs
theorem Cp(W:List Tok)(i:Nat)(h:i<W.length):(cF W)[(i:Int).toNat]?=some W[i].D:=by
 rw[Int.toNat_natCast];unfold cF;rw[List.getElem?_map,List.getElem?_eq_getElem h];rfl
theorem zJ(W:List Tok)(i:Nat)(h:i<W.length):bh (cF W) (i:Int)=some W[i].D:=by
 rw[bp];unfold cF;rw[List.getElem?_map,List.getElem?_eq_getElem h];rfl
section
variable {f : Task → Option Out}
theorem pU{t:Task}{k j:IntKind}{b:Bool}{l:List D}{n m:Int}{e e' e'':V}{K:Bool->List D->Int->Int->Tr}(h:f t=some (.t [.d (.l b l),.d (.i k n),.d (.i j m)],[])):
  aC f (.call t fun o=>aM o.snd.isEmpty (dY o.fst fun l=>aM (l.length==3) (aW (l.getD 0 e) fun d=>dZ d fun x y=>aW (l.getD 1 e') fun d'=>bD k d' fun z=>aW (l.getD 2 e'') fun d''=>bD j d'' fun w=>K x y z w)))=aC f (K b l n m):=by
 rw[cE h]
 show aC f (bD k (.i k n) fun x=>bD j (.i j m) fun y=>K b l x y)=_
 rw[bl,if_pos rfl,bl,if_pos rfl]
end
theorem E3(s:List UInt8)(hs:s.length<=2000):(lexB s).1.length<=100000:=by
 rcases AI s with⟨l',hg,e⟩|⟨e,w,he,-,-⟩
 ·rw[e]
  obtain⟨h1,h2⟩:=hg
  have hbound:∀(k:Nat) (hk:k<l'.length),k<=l'[k].at_:=by
   intro k
   induction k with
   |zero=>intro _;exact Nat.zero_le _
   |succ k ih=>
    intro hk
    have h3:=ih (by omega)
    have h4:=List.pairwise_iff_getElem.1 h2 k (k+1) (by omega) hk (by omega)
    omega
  show (l'++[_]).length<=_
  rw[List.length_append,List.length_singleton]
  rcases Nat.eq_zero_or_pos l'.length with h0|h0
  ·omega
  ·have h3:=hbound (l'.length-1) (by omega)
   have h4:=(h1 _ (List.getElem_mem (show l'.length-1<l'.length by omega))).2.2
   omega
 ·rw[he];exact Nat.zero_le _
theorem Ln:lexB [97,32,61,32,49]=([⟨1,[97],0,0,0⟩,⟨5,[61],0,0,2⟩,⟨2,[],1,0,4⟩,⟨6,[],0,0,5⟩],0,0):=by kernel_rfl
theorem Lo:lexB [97,32,63]=([],2,2):=by kernel_rfl
theorem GS:rk Tryz.prog aE (Task.call 18 [] [])=some (.d (.b true),[]):=by
 have h1:=E4 [97,32,61,32,49]
 have h2:=E4 [97,32,63]
 rw[Ln]at h1
 rw[Lo]at h2
 rw[t9,pU h1,pU h2]
 rfl
end Go.Dn.Dec
