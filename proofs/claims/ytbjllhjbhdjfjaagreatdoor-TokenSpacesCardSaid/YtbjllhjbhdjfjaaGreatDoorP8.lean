/- the document's answer: Parse. -/
import Derived.Test.YtbjllhjbhdjfjaaGreatDoorP7
import Derived.Test.YtbjllhjbhdjfjaaGreatDoorP6
import Derived.Test.YtbjllhjbhdjfjaaGreatDoorP4
import Derived.KernelRfl
set_option linter.unusedVariables false
set_option linter.unusedSimpArgs false
set_option linter.unusedSectionVars false
namespace Go.Dn.Dec
open Go.Proofs
section
variable {f : Task → Option Out}
end
def o3(x:Int×Bool×Int):Option Out:=some (.t [.d (.i .i64 x.1),.d (.b x.2.1),.d (.i .i64 x.2.2)],[])
def o2(x:Nat×Int):Option Out:=some (.t [.d (.i .u64 (x.1:Nat)),.d (.i .i64 x.2)],[])
end Go.Dn.Dec
namespace Go.Dn.Dec
open Go.Proofs
set_option exponentiation.threshold 5000000
end Go.Dn.Dec
namespace Go.Dn.Dec
open Go.Proofs
set_option exponentiation.threshold 5000000
theorem BE(x y:Nat):decide (ef x y ≥ 0) = !decide (x<y):=by
 unfold ef
 by_cases h:x<y
 ·simp[h]
 ·by_cases h2:y<x<;>simp[h,h2]
theorem xr(b c:Bool)(x y:Nat)(hx:qP x)(hy:qP y)(n:Int)(h1:-700<=n)(h2:n<=700):
  rk Tryz.prog aE (Task.call 104 [V.d (D.l b (ws x)),V.d (D.l c (ws y)),V.d (D.i .i64 n)] [])=some (.d (.b (!cS x y n)),[]):=by
 rw[f42]
 unfold cS
 by_cases h:n<0
 ·have hw:IntKind.i64.wrap (0-n)=((-n).toNat:Int):=by rw[wrap_i64]<;>omega
  have ht:=mg (-n).toNat (by omega)
  have hm:=kG b (tb (-n).toNat) x (10^(-n).toNat) hx.iX.fits (eT (dF (by omega))).fits
  have hc:=oL (nb (x*10^(-n).toNat)) c (x*10^(-n).toNat) y (hx.mul (by omega)).fits hy.iX.fits
  rw[bc (by omega),hw,di ht,di hm,de hc,aD,BE,if_pos h]
 ·have hw:n=(n.toNat:Int):=by omega
  have ht:=mg n.toNat (by omega)
  rw[<-hw]at ht
  have hm:=kG c (tb n.toNat) y (10^n.toNat) hy.iX.fits (eT (dF (by omega))).fits
  have hc:=oL b (nb (y*10^n.toNat)) x (y*10^n.toNat) hx.iX.fits (hy.mul (by omega)).fits
  rw[bf (by omega),di ht,di hm,de hc,aD,BE,if_neg h]
theorem rD{x y:Nat}{n m:Int}(h:n<=m)(hb:cS x y n=true):cS x y m=true:=by
 rw[lf x y m n (m-n).toNat (by omega)]
 rw[tP]at hb
 have h1:=of_decide_eq_true hb
 exact decide_eq_true (Nat.lt_of_lt_of_le h1 (Nat.le_mul_of_pos_right _ (Nat.pow_pos (by decide))))
theorem DQ(x y:Nat)(hx0:0<x)(hx:qP x)(hy:qP y):cS x y ((((bd x:Int)-bd y)*30103).tdiv 100000-2)=false:=by
 have lx:=hx.bd
 have ly:=hy.bd
 have bx:=lV x (by omega)
 have by_:=ku y
 have px:=iA (n:=x) (by omega)
 rcases Int.le_total 0 ((bd x:Int)-bd y)with h|h
 ·obtain⟨d,hd⟩:∃d:Nat,(bd x:Int)-bd y=d:=⟨((bd x:Int)-bd y).toNat,by omega⟩
  rw[hd]
  have e:((d:Int)*30103).tdiv 100000=((d*30103 / 100000:Nat):Int):=dH (d*30103) 100000
  have hc:=List.all_eq_true.1 Eu d (List.mem_range.2 (by omega))
  rw[decide_eq_true_eq]at hc
  rw[e]
  generalize d*30103 / 100000=t at hc
  have e2:2^bd y*2^d=2*2^(bd x-1):=by rw[<-Nat.pow_add,Nat.mul_comm 2,<-Nat.pow_succ];congr 1;omega
  have h3:y*2^d<2*x:=by
   have:=Nat.mul_lt_mul_of_pos_right by_ (show 0<2^d from Nat.pow_pos (by decide))
   omega
  have h4:y*(10^t*2)<=y*(2^d*100):=Nat.mul_le_mul_left _ hc
  have h5:y*(2^d*100)=y*2^d*100:=by rw[Nat.mul_assoc]
  have h6:y*(10^t*2)=y*10^t*2:=by rw[Nat.mul_assoc]
  unfold cS
  by_cases ht:(t:Int)-2<0
  ·rw[if_pos ht]
   have e3:100=10^(-((t:Int)-2)).toNat*10^t:=by rw[<-Nat.pow_add,show (-((t:Int)-2)).toNat+t=2 by omega]
   have e4:x*10^(-((t:Int)-2)).toNat*10^t=x*100:=by rw[Nat.mul_assoc,<-e3]
   refine decide_eq_false (fun hlt=>?_)
   have:=Nat.mul_lt_mul_of_pos_right hlt (show 0<10^t from Nat.pow_pos (by decide))
   omega
  ·rw[if_neg ht,show ((t:Int)-2).toNat=t-2 by omega]
   have e3:10^t=10^(t-2)*100:=by rw[show (100:Nat)=10^2 from rfl,<-Nat.pow_add];congr 1;omega
   have e4:y*10^t=y*10^(t-2)*100:=by rw[e3,Nat.mul_assoc]
   exact decide_eq_false (by omega)
 ·obtain⟨d,hd⟩:∃d:Nat,(bd x:Int)-bd y = -(d:Int):=⟨((bd y:Int)-bd x).toNat,by omega⟩
  rw[hd]
  have e:(-(d:Int)*30103).tdiv 100000-2 = -((d*30103 / 100000+2:Nat):Int):=by
   have:((d:Int)*30103).tdiv 100000=((d*30103 / 100000:Nat):Int):=dH (d*30103) 100000
   rw[Int.neg_mul,Int.neg_tdiv,this];omega
  have hc:=List.all_eq_true.1 Ev d (List.mem_range.2 (by omega))
  rw[decide_eq_true_eq]at hc
  rw[e]
  unfold cS
  rw[if_pos (by omega),show (- -((d*30103 / 100000+2:Nat):Int)).toNat=d*30103 / 100000+2 by omega]
  generalize d*30103 / 100000+2=t at hc
  have e2:2^(bd x-1)*2^(d+1)=2^bd y:=by rw[<-Nat.pow_add];congr 1;omega
  have h3:=Nat.mul_le_mul bx hc
  exact decide_eq_false (by omega)
theorem A6(x y:Nat)(hx0:0<x)(hy0:0<y)(hx:qP x)(hy:qP y):∃(n:Int) (q:Nat),cS x y n=false/\cS x y (n+1)=true/\-400<=n/\n<=350/\gu x y (n-16)=q/\10^16<=q/\q<=10^17/\
  ∀sg,vA sg x y=if q=10^17 then im sg (fM (10^16)) (n+1)else im sg (fM q) n:=by
 obtain⟨n,hn,b1,b2,n1,n2⟩:=rL x y hx0 hy0 hx hy
 refine⟨n,gu x y (n-16),b1,b2,n1,n2,rfl,?_⟩
 rw[lf x y n (n-16) 16 (by omega)]at b1
 rw[lf x y (n+1) (n-16) 17 (by omega)]at b2
 have c1:10^16*(y*nP (n-16))<=x*o8 (n-16):=by
  have:=of_decide_eq_false b1
  rw[Nat.mul_comm];omega
 have c2:x*o8 (n-16)<10^17*(y*nP (n-16)):=by
  have:=of_decide_eq_true b2
  rw[Nat.mul_comm (10^17)];exact this
 have hB:0<y*nP (n-16):=Nat.mul_pos hy0 (rp _)
 have hq:=nJ x y (n-16)
 obtain⟨q1,q2,q3,q4⟩:=wS hB hq.symm c1 c2
 have sh:=zP (n+1-16) (n-16) 1 (by omega)
 have hnext:gu x y (n-16)=10^17->gu x y (n+1-16)=10^16:=by
  intro hqe
  rw[nJ]
  refine A8 (A:=x*o8 (n-16)) (B:=y*nP (n-16)) (s:=o8 (n-16)) (s':=o8 (n+1-16)) (Nat.mul_pos hy0 (rp _)) (rq _) (rq _) (Nat.mul_right_comm _ _ _) ?_ ?_ c2
  ·rw[Nat.mul_assoc y,sh]
   generalize nP (n-16)=a
   generalize o8 (n+1-16)=b
   rw[Nat.pow_one,Nat.mul_assoc y a 10,Nat.mul_assoc y,Nat.mul_right_comm a 10 b,Nat.mul_comm 10 (a*b)]
  ·rw[hqe]at q3;exact q3
 refine⟨q1,q2,fun sg=>?_⟩
 unfold vA
 simp only[hn]
 generalize gu x y (n-16)=q at *
 have ht:kU q=fM q:=by unfold kU;rw[Nat.mod_eq_of_lt (by omega)]
 rw[ht]
 by_cases h17:q=10^17
 ·rw[if_pos h17,if_pos (by rw[jd 17 q (by omega) (by omega)];decide),hnext h17]
  rfl
 ·rw[if_neg h17,if_neg (by rw[jd 16 q q1 (by omega)];decide)]
def qA(t:List UInt8):List UInt8:=if trimRightB 48 t=[]then [48]else trimRightB 48 t
theorem D1(t:List UInt8):trimRightB 48 (t++[48])=trimRightB 48 t:=by
 unfold trimRightB
 rw[List.reverse_append];rfl
theorem vK(t:List UInt8){c:UInt8}(h:c≠48):trimRightB 48 (t++[c])=t++[c]:=by
 unfold trimRightB
 rw[List.reverse_append,List.reverse_singleton,List.singleton_append,List.dropWhile_cons,if_neg (by simpa using h)]
 simp
def JF(sg:List UInt8)(n:Int)(text tail:List UInt8):Task:=
 Task.at_ 48 0 [false,false,true,true,true,true,true,true,true,true,true,true,true,true,true,true,true,true,true,true,true,true,true] (sv 147 [(3,V.d (D.s sg)),(8,V.d (D.i .i64 n)),(15,V.d (D.s text)),(16,V.d (D.s tail))]) [] []
theorem zI(sg text tail:List UInt8)(n:Int)(h1:sg.length<=100)(h2:1<=text.length)(h3:text.length<=100)(h4:tail.length<=100)(n1:-1000<=n)(n2:n<=1000):
  rk Tryz.prog aE (Task.at_ 48 0 [true,false,false,false,false,true,true,true,true,true,true,true,true,true,true,true,true,true,true,true,true,true,true,true,true,true]
    (sv 147 [(3,V.d (D.s sg)),(8,V.d (D.i .i64 n)),(15,V.d (D.s text)),(16,V.d (D.s tail)),(130,V.d (D.b false))]) [] [])=some (.d (.s (sg++text.take 1++[46]++tail++[101]++js n)),[]):=by
 have ht:=ID n (by omega) (by omega)
 have hd:=jB (n:=n) (by omega) (by omega)
 rw[kO,aY,List.drop_zero,aH (by omega),aH (by rw[List.length_take];omega),aH (by simp;omega),aH (by simp;omega),aH (by simp;omega),iZ ht,aH (by simp;omega),aD]
theorem vJ(sg text:List UInt8)(n:Int)(h1:sg.length<=100)(h2:1<=text.length)(h3:text.length<=100)(n1:-1000<=n)(n2:n<=1000):∀(k:Nat) (tail:List UInt8),tail.length=k+1->k<=90->
  rk Tryz.prog aE (JF sg n text tail)=some (.d (.s (sg++text.take 1++[46]++qA tail++[101]++js n)),[])
 |0,tail,hl,_=>by
  obtain⟨c,rfl⟩:∃c,tail=[c]:=by
   match tail,hl with
   | [c],_=>exact⟨c,rfl⟩
  unfold JF
  rw[ln,bc (by simp),aA,zI sg text [c] n h1 h2 h3 (by simp) n1 n2]
  have:qA [c]=[c]:=by
   unfold qA
   by_cases hc:c=48
   ·subst hc;rfl
   ·have:=vK [] hc
    rw[List.nil_append]at this
    rw[this,if_neg (by simp)]
  rw[this]
 |k+1,tail,hl,hk=>by
  rcases List.eq_nil_or_concat tail with h|⟨init,c,h⟩
  ·rw[h]at hl;simp at hl
  ·have h:tail=init++[c]:=by simpa using h
   subst h
   have li:init.length=k+1:=by simp at hl;omega
   have hw:IntKind.i64.wrap ((((init++[c]).length:Nat):Int)-1)=(init.length:Int):=by rw[List.length_append,List.length_singleton,wrap_i64]<;>omega
   have hg:bh (init++[c]) (init.length:Int)=some c:=by rw[bp];simp
   unfold JF
   rw[ln,bf (by rw[hl];omega),hw,aJ hg,aA,show ((c.toNat:Int)==48)=decide (c=48)from mJ c 48]
   by_cases hc:c=48
   ·have ih:=vJ sg text n h1 h2 h3 n1 n2 k init li (by omega)
    have ht:List.take ((init.length:Int).toNat-0) (List.drop 0 (init++[c]))=init:=by simp
    have hr:qA (init++[c])=qA init:=by unfold qA;rw[hc,D1]
    rw[decide_eq_true hc,kO,bk,hw,aH (by rw[hl];omega),ht,aA,hr]
    exact ih
   ·have hr:qA (init++[c])=init++[c]:=by
     unfold qA
     rw[vK init hc,if_neg (by simp)]
    rw[decide_eq_false hc,zI sg text _ n h1 h2 h3 (by rw[hl];omega) n1 n2,hr]
theorem BJ(sg:List UInt8)(d:Nat)(n:Int)(h1:sg.length<=100)(d1:10^16<=d)(d2:d<10^17)(n1:-1000<=n)(n2:n<=1000):
  rk Tryz.prog aE (Task.at_ 48 0 [true,true,true,true,true,true,true,true,true,true,true,true,true,true,true,true,true,true,true] (sv 147 [(3,V.d (D.s sg)),(8,V.d (D.i .i64 n)),(14,V.d (D.i .u64 (d:Int)))]) [] [])=some (.d (.s (im sg (fM d) n)),[]):=by
 have hl:=jd 16 d d1 d2
 have hp:=Bj d (by omega)
 have e:List.take ((fM d).length-1) (List.drop 1 (fM d))=(fM d).drop 1:=by rw[List.take_of_length_le];simp
 have hL:=vJ sg (fM d) n h1 (by omega) (by omega) n1 n2 15 ((fM d).drop 1) (by rw[List.length_drop,hl]) (by decide)
 rw[tD,iZ hp,aH (by omega),e,aA]
 exact hL
theorem xH(sg:List UInt8)(hsg:sg.length<=100)(A B q:Nat)(n:Int)(hqn:cI A B=q)(q1:10^16<=q)(q2:q<=10^17)(hA:Fits (A / B))(n1:-400<=n)(n2:n<=350)(bb:Bool)(hbb:bb=true↔(B<2*(A%B)\/(2*(A%B)=B/\A / B%2=1))):
  rk Tryz.prog aE (Task.at_ 48 0 [true,false,true,true,true,true,true,true,true,true,true,true,true,true,true,true,true,true] (sv 147 [(3,V.d (D.s sg)),(8,V.d (D.i .i64 n)),(10,V.d (D.l (nb (A / B)) (ws (A / B)))),(104,V.d (D.b bb))]) [] [])=
   some (.d (.s (if q=10^17 then im sg (fM (10^16)) (n+1)else im sg (fM q) n)),[]):=by
 have o1:rk Tryz.prog aE (Task.call 101 [V.d (D.i .u64 1)] [])=_:=sQ 1 (by decide)
 have hm:q%18446744073709551616=q:=Nat.mod_eq_of_lt (by omega)
 have w1:IntKind.i64.wrap (n+1)=n+1:=by rw[wrap_i64]<;>omega
 have e1:(q:Int).tdiv 10=((q / 10:Nat):Int):=dH q 10
 have w2:IntKind.u64.wrap ((q / 10:Nat):Int)=((q / 10:Nat):Int):=by rw[aO];omega
 have last:∀X:Tr,X=(aT ((q:Int)==100000000000000000)
   (Tr.call (Task.at_ 48 0 [true,true,true,true,true,true,true,true,true,true,true,true,true,true,true,true,true,true,true] (sv 147 [(3,V.d (D.s sg)),(8,V.d (D.i .i64 (IntKind.i64.wrap (n+1)))),(14,V.d (D.i .u64 (IntKind.u64.wrap ((q:Int).tdiv 10))))]) [] []) Tr.ret)
   (Tr.call (Task.at_ 48 0 [true,true,true,true,true,true,true,true,true,true,true,true,true,true,true,true,true,true,true] (sv 147 [(3,V.d (D.s sg)),(8,V.d (D.i .i64 n)),(14,V.d (D.i .u64 (q:Int)))]) [] []) Tr.ret))->
   aC (rk Tryz.prog aE) X=some (.d (.s (if q=10^17 then im sg (fM (10^16)) (n+1)else im sg (fM q) n)),[]):=by
  intro X hX
  rw[hX,w1,e1,w2]
  by_cases h:q=10^17
  ·rw[cm (by omega),aA,if_pos h,show q / 10=10^16 by omega]
   exact BJ sg (10^16) (n+1) hsg (Nat.le_refl _) (by decide) (by omega) (by omega)
  ·rw[bO (by omega),aA,if_neg h]
   exact BJ sg q n hsg q1 (by omega) (by omega) (by omega)
 rw[v7]
 unfold cI at hqn
 cases bb with
 |true=>
  rw[if_pos (hbb.1 rfl)]at hqn
  have ha:=kE (nb (A / B)) (nb 1) (A / B) 1 hA wc
  rw[hqn]at ha
  have hl:=oP (nb q) q
  rw[hm]at hl
  rw[bk,di o1,di ha,de hl]
  exact last _ rfl
 |false=>
  rw[if_neg (fun h=>absurd (hbb.2 h) (by decide))]at hqn
  have hl:=oP (nb q) q
  rw[hm]at hl
  rw[hqn,aY,de hl]
  exact last _ rfl
theorem xG(sg:List UInt8)(hsg:sg.length<=100)(b c:Bool)(A B q:Nat)(n:Int)(hA:Fits A)(hB2:Fits (B*2))(hB0:0<B)(hqn:cI A B=q)(q1:10^16<=q)(q2:q<=10^17)(n1:-400<=n)(n2:n<=350):
  rk Tryz.prog aE (Task.at_ 48 0 [true,true,true,true,true,true,true,true,true,true,true,true,true,true] (sv 147 [(3,V.d (D.s sg)),(6,V.d (D.l b (ws A))),(7,V.d (D.l c (ws B))),(8,V.d (D.i .i64 n))]) [] [])=
   some (.d (.s (if q=10^17 then im sg (fM (10^16)) (n+1)else im sg (fM q) n)),[]):=by
 have hd:=Cb b c A B hA hB2 hB0
 have hrl:A%B<B:=Nat.mod_lt _ hB0
 have fB:Fits B:=hB2.le (by omega)
 have fq:Fits (A / B):=hA.le (Nat.div_le_self _ _)
 have fr:Fits (A%B):=hB2.le (by omega)
 have frr:Fits (A%B+A%B):=hB2.le (by omega)
 have ha:=kE (nb (A%B)) (nb (A%B)) (A%B) (A%B) fr fr
 have hc:=oL (nb (A%B+A%B)) c (A%B+A%B) B frr fB
 have tail:=xH sg hsg A B q n hqn q1 q2 fq n1 n2
 have hle:A / B<=q:=by rw[<-hqn];unfold cI;split<;>omega
 have hl:=oP (nb (A / B)) (A / B)
 rw[Nat.mod_eq_of_lt (show A / B<18446744073709551616 by omega)]at hl
 have e2:((A / B:Nat):Int).tmod 2=((A / B%2:Nat):Int):=ia (A / B) 2
 rw[xQ,F5 hd,di ha,de hc]
 unfold ef
 by_cases h1:A%B+A%B<B
 ·rw[if_pos h1,bc (by decide),bO (by decide),aA]
  exact tail false ⟨fun h=>absurd h (by decide),fun h=>by omega⟩
 ·rw[if_neg h1]
  by_cases h2:B<A%B+A%B
  ·rw[if_pos h2,bf (by decide),aA]
   exact tail true ⟨fun _=>by omega,fun _=>rfl⟩
  ·rw[if_neg h2,bc (by decide),cm rfl,de hl,aA,e2]
   refine tail _ ?_
   rw[beq_iff_eq]
   constructor
   ·intro h;omega
   ·intro h;omega
theorem sS(sg:List UInt8)(hsg:sg.length<=100)(x y:Nat)(hx0:0<x)(hy0:0<y)(hx:qP x)(hy:qP y)(n:Int)(q:Nat)(b1:cS x y n=false)(b2:cS x y (n+1)=true)(n1:-400<=n)(n2:n<=350)(hq:gu x y (n-16)=q)(q1:10^16<=q)(q2:q<=10^17):∀(k:Nat) (b c:Bool),-600<=n-(k:Int)->
  rk Tryz.prog aE (Task.at_ 48 0 [false,false,true,true,true,true,true,true,true,true,true,true,true] (sv 147 [(3,V.d (D.s sg)),(6,V.d (D.l b (ws x))),(7,V.d (D.l c (ws y))),(8,V.d (D.i .i64 (n-(k:Int))))]) [] [])=
   some (.d (.s (if q=10^17 then im sg (fM (10^16)) (n+1)else im sg (fM q) n)),[])
 |k+1,b,c,hk=>by
  have w:IntKind.i64.wrap (n-((k+1:Nat):Int)+1)=n-(k:Int):=by rw[wrap_i64]<;>omega
  have hb:cS x y (n-(k:Int))=false:=by
   cases h:cS x y (n-(k:Int)) with
   |false=>rfl
   |true=>
    have:=rD (show n-(k:Int)<=n by omega) h
    rw[b1]at this;cases this
  have ha:=xr b c x y hx hy (n-(k:Int)) (by omega) (by omega)
  rw[hb]at ha
  rw[qh,w,dh ha,Bool.not_false,bk,aA]
  exact sS sg hsg x y hx0 hy0 hx hy n q b1 b2 n1 n2 hq q1 q2 k b c (by omega)
 |0,b,c,hk=>by
  have e0:n-((0:Nat):Int)=n:=by omega
  have w:IntKind.i64.wrap (n+1)=n+1:=by rw[wrap_i64]<;>omega
  have w1:IntKind.i64.wrap (16-n)=16-n:=by rw[wrap_i64]<;>omega
  have ha:=xr b c x y hx hy (n+1) (by omega) (by omega)
  rw[b2]at ha
  rw[nJ]at hq
  rw[e0,qh,w,w1,dh ha,Bool.not_true,aY]
  by_cases h:16-n ≥ 0
  ·have ht:=mg (16-n).toNat (by omega)
   rw[show (((16-n).toNat:Nat):Int)=16-n by omega]at ht
   have hm:=kG b (tb (16-n).toNat) x (10^(16-n).toNat) hx.iX.fits (eT (dF (by omega))).fits
   have hp:nP (n-16)=1:=by unfold nP;rw[show (n-16).toNat=0 by omega,Nat.pow_zero]
   have hqq:o8 (n-16)=10^(16-n).toNat:=by unfold o8;rw[show (-(n-16)).toNat=(16-n).toNat by omega]
   rw[hp,hqq,Nat.mul_one]at hq
   rw[bf h,di ht,di hm,aA]
   exact xG sg hsg _ c _ y q n (hx.mul (by omega)).fits hy.iX.fits2 hy0 hq q1 q2 n1 n2
  ·have w2:IntKind.i64.wrap (0-(16-n))=(((n-16).toNat:Nat):Int):=by rw[wrap_i64]<;>omega
   have ht:=mg (n-16).toNat (by omega)
   have hm:=kG c (tb (n-16).toNat) y (10^(n-16).toNat) hy.iX.fits (eT (dF (by omega))).fits
   have hp:nP (n-16)=10^(n-16).toNat:=rfl
   have hqq:o8 (n-16)=1:=by unfold o8;rw[show (-(n-16)).toNat=0 by omega,Nat.pow_zero]
   rw[hp,hqq,Nat.mul_one]at hq
   rw[bc h,w2,di ht,di hm,aA]
   exact xG sg hsg b _ x _ q n hx.iX.fits (hy.mul (by omega)).fits2 (Nat.mul_pos hy0 (Nat.pow_pos (by decide))) hq q1 q2 n1 n2
theorem vh(sg:List UInt8)(hsg:sg.length<=100)(x y:Nat)(hx0:0<x)(hy0:0<y)(hx:qP x)(hy:qP y)(b c:Bool):
  rk Tryz.prog aE (Task.at_ 48 0 [true,true,true,true,true,true,true,true,true,true] (sv 147 [(3,V.d (D.s sg)),(6,V.d (D.l b (ws x))),(7,V.d (D.l c (ws y)))]) [] [])=some (.d (.s (vA sg x y)),[]):=by
 have h1:=lK b x hx.iX.fits
 have h2:=lK c y hy.iX.fits
 have l1:=hx.bd
 have l2:=hy.bd
 have hb:=qK ((bd x:Int)-bd y) (by omega) (by omega)
 have hlow:=DQ x y hx0 hx hy
 obtain⟨n,q,b1,b2,n1,n2,hq,q1,q2,hs⟩:=A6 x y hx0 hy0 hx hy
 have v1:IntKind.i64.wrap ((bd x:Int)-bd y)=(bd x:Int)-bd y:=by rw[wrap_i64]<;>omega
 have v2:IntKind.i64.wrap (((bd x:Int)-bd y)*30103)=((bd x:Int)-bd y)*30103:=by rw[wrap_i64]<;>omega
 rw[As,de h1,de h2,v1,v2,aA,hs sg]
 generalize (((bd x:Int)-bd y)*30103).tdiv 100000=z at *
 have v3:IntKind.i64.wrap z=z:=by rw[wrap_i64]<;>omega
 have v4:IntKind.i64.wrap (z-2)=z-2:=by rw[wrap_i64]<;>omega
 have hle:z-2<=n:=by
  rcases Int.lt_or_le n (z-2)with h|h
  ·have:=rD (show n+1<=z-2 by omega) b2
   rw[hlow]at this;cases this
  ·exact h
 have hL:=sS sg hsg x y hx0 hy0 hx hy n q b1 b2 n1 n2 hq q1 q2 (n-(z-2)).toNat b c (by omega)
 rw[show n-(((n-(z-2)).toNat:Nat):Int)=z-2 by omega]at hL
 rw[v3,v4]
 exact hL
theorem HY(b:Nat)(hb:b<18446744073709551616):rk Tryz.prog aE (Task.call 48 [V.d (D.i .u64 (b:Int))] [])=some (.d (.s (qC b)),[]):=by
 have h0:(b:Int).fdiv 9223372036854775808=((b / 2^63:Nat):Int):=jC b 9223372036854775808
 have h1:(b:Int).fdiv 4503599627370496=((b / 2^52:Nat):Int):=jC b 4503599627370496
 have h2:(BitVec.ofInt IntKind.u64.bits ((b / 2^52:Nat):Int) &&& BitVec.ofInt IntKind.u64.bits 2047).toNat=b / 2^52%2048:=
  BC (b:=b / 2^52) (k:=11) (by omega) 2047 (by decide)
 have w1:IntKind.u64.wrap ((b / 2^52%2048:Nat):Int)=((b / 2^52%2048:Nat):Int):=by rw[aO];omega
 have w1':IntKind.i64.wrap ((b / 2^52%2048:Nat):Int)=((b / 2^52%2048:Nat):Int):=by rw[wrap_i64]<;>omega
 have h3:(BitVec.ofInt IntKind.u64.bits (b:Int) &&& BitVec.ofInt IntKind.u64.bits 4503599627370495).toNat=b%2^52:=BC (b:=b) (k:=52) hb 4503599627370495 (by decide)
 have w3:IntKind.u64.wrap ((b%2^52:Nat):Int)=((b%2^52:Nat):Int):=by rw[aO];omega
 have main:∀sg:List UInt8,sg.length<=1->(if 2^63<=b then [45] else([]:List UInt8))=sg->
   rk Tryz.prog aE (Task.at_ 48 0 [true,true,true] (sv 147 [(0,V.d (D.i .u64 (b:Int))),(3,V.d (D.s sg))]) [] [])=some (.d (.s (qC b)),[]):=by
  intro sg hsl hsg
  rw[EM,h1,h2,w1,w1',h3,w3]
  unfold qC
  rw[hsg]
  by_cases hk:b / 2^52%2048=2047
  ·rw[cm (by omega),aD,if_pos hk]
  ·rw[bO (by omega),if_neg hk]
   simp only
   have go:∀(e m:Nat),(nG (b%2^63))=(if (e:Int)-1075<0 then(m,2^(-((e:Int)-1075)).toNat) else(m*2^((e:Int)-1075).toNat,1))->e<=2046->m<2^53->b%2^63≠0->
     rk Tryz.prog aE (Task.at_ 48 0 [true,true,true,true,true,true,true,true] (sv 147 [(3,V.d (D.s sg)),(4,V.d (D.i .i64 (e:Int))),(5,V.d (D.i .u64 (m:Int)))]) [] [])=some (.d (.s (vA sg (nG (b%2^63)).1 (nG (b%2^63)).2)),[]):=by
    intro e m hr he hm hne
    have ho:=sQ m (by omega)
    obtain⟨s1,s2,s3⟩:=yV (b%2^63) (by omega) (by omega)
    have s0:=yU (b%2^63) hne
    rw[CT,di ho]
    by_cases h:(e:Int) ≥ 1075
    ·have wE:IntKind.i64.wrap ((e:Int)-1075)=((e-1075:Nat):Int):=by rw[wrap_i64]<;>omega
     have hsh:=ri (nb m) m (e-1075) (Hy (by omega)).fits (by omega)
     rw[if_neg (by omega),show ((e:Int)-1075).toNat=e-1075 by omega]at hr
     rw[hr]at s0 s1 s2 s3⊢
     have:=vh sg (by omega) _ 1 s0 (by decide) s1 s2 (nb (m*2^(e-1075))) true
     rw[xe]at this
     rw[bf h,wE,di hsh,aA]
     exact this
    ·have wE:IntKind.i64.wrap (1075-(e:Int))=((1075-e:Nat):Int):=by rw[wrap_i64]<;>omega
     have hsh:=ri true 1 (1075-e) yd (by omega)
     rw[xe,Nat.one_mul]at hsh
     rw[if_pos (by omega),show (-((e:Int)-1075)).toNat=1075-e by omega]at hr
     rw[hr]at s0 s1 s2 s3⊢
     have:=vh sg (by omega) m _ s0 s3 s1 s2 (nb m) (nb (2^(1075-e)))
     rw[bc h,wE,di hsh,aA]
     exact this
   have hcd:b%2^63 / 2^52=b / 2^52%2048:=by omega
   have hcm:b%2^63%2^52=b%2^52:=by omega
   by_cases he:b / 2^52%2048=0
   ·rw[cm (by omega),aA,uq]
    by_cases hm:b%2^52=0
    ·have hz:b%2^63=0:=by omega
     rw[if_pos hz,da (by rw[beq_iff_eq];omega),aH (by omega),aD]
    ·have hz:b%2^63≠0:=by omega
     rw[if_neg hz,cj (by rw[beq_eq_false_iff_ne];omega),cm (by omega),aA]
     refine go 1 (b%2^52) ?_ (by decide) (by omega) hz
     unfold nG
     simp only[hcd,hcm,if_pos he]
     rfl
   ·have hz:b%2^63≠0:=by omega
    have hor:(BitVec.ofInt IntKind.u64.bits ((b%2^52:Nat):Int) ||| BitVec.ofInt IntKind.u64.bits 4503599627370496).toNat=b%2^52+2^52:=by
     have:=jv (a:=b%2^52) (b:=4503599627370496) (by omega) (by decide)
     have e:=nD (c:=b%2^52) (a:=1) (k:=52) (Nat.mod_lt _ (by decide))
     rw[Nat.one_mul]at e
     exact Eq.trans this e
    have w5:IntKind.u64.wrap ((b%2^52+2^52:Nat):Int)=((b%2^52+2^52:Nat):Int):=by rw[aO];omega
    rw[bO (by omega),aA,uq,aY,bO (by omega),hor,w5,aA,if_neg hz]
    refine go (b / 2^52%2048) (b%2^52+2^52) ?_ (by omega) (by omega) hz
    unfold nG
    simp only[hcd,hcm,if_neg he]
    have e1:(-1074:Int)+(((b / 2^52%2048:Nat):Int)-1)=((b / 2^52%2048:Nat):Int)-1075:=by omega
    rw[e1]
 rw[f16,h0]
 by_cases ht:2^63<=b
 ·rw[cm (by omega),aA]
  exact main [45] (by decide) (if_pos ht)
 ·rw[bO (by omega),aA]
  exact main [] (by decide) (if_neg ht)
end Go.Dn.Dec
namespace Go.Dn.Dec
open Go.Proofs
set_option linter.unusedVariables false
set_option maxRecDepth 100000
set_option linter.unusedSimpArgs false
theorem A7{args:List V}{S:List Ob}{o:Out}{k:Nat}(hk:k=48)(h:lO args S=some o):bQ Tryz.prog k args S o:=by
 unfold lO at h
 split at h
 ·rename_i n
  split at h
  ·rename_i hc
   injection h with h;subst h
   have h2:=HY n.toNat (by omega)
   rw[Int.toNat_of_nonneg hc.1]at h2
   subst hk
   exact fH mixed BM eS (iK h2)
  ·cases h
 ·cases h
theorem DY{args:List V}{S:List Ob}{o:Out}(h:oY args S=some o):bQ Tryz.prog 47 args S o:=by
 unfold oY at h
 split at h
 ·rename_i n
  split at h
  ·rename_i hc
   injection h with h;subst h
   exact fH mixed BM eS (iK (ID n hc.1 hc.2))
  ·cases h
 ·cases h
theorem Jc:kZ Tryz.prog bn:=by
 intro k g hg args S o ho
 simp only[bn,Kt]at hg
 split at hg
 ·injection hg with hg;subst hg;exact A7 rfl ho
 ·injection hg with hg;subst hg;exact DY ho
 ·exact BM k g hg args S o ho
theorem Kx:ja Tryz.prog (run Tryz.prog bn):=fun k args S o h=>fH mixed Jc eS h
theorem Kw:ja Tryz.prog (run Tryz.prog aE):=fun k args S o h=>fH mixed BM eS h
theorem Jb:kZ Tryz.prog jK:=by
 intro k g hg args S o ho
 simp only[jK,Hi]at hg
 split at hg
 ·cases hg
 ·split at hg
  ·injection hg with hg;subst hg;exact Kw k args S o ho
  ·injection hg with hg;subst hg;exact Br Kx ho
theorem pB{k:Nat}{g:List V->List Ob->Option Out}(h:jK.ext k=some g)(args:List V)(S:List Ob):rk Tryz.prog jK (Task.call k args S)=g args S:=by
 rw[y6]
 unfold mI
 simp only[h]
 rw[bJ]
 cases g args S with
 |none=>rfl
 |some o=>rfl
theorem BN{k:Nat}(h1:¬k<9)(h2:yj k=false):jK.ext k=some (vL Tryz.prog bn k):=by
 simp only[jK,Hi,if_neg h1,h2];rfl
theorem IH{k:Nat}{args:List V}{o:Out}(h:RY (Task.call k args [])=some o)(h1:¬k<9)(h2:yj k=false):rk Tryz.prog jK (Task.call k args [])=some o:=by
 rw[pB (BN h1 h2)]
 have:=iK h
 unfold vL
 split
 ·rename_i heq;cases heq
 ·exact this
theorem JX{k:Nat}{args:List V}{b:Ob}{o:Out}(h:RY (Task.call k args [b])=some o)(h1:¬k<9)(h2:yj k=false):rk Tryz.prog jK (Task.call k args [b])=some o:=by
 rw[pB (BN h1 h2)]
 have:=iK h
 unfold vL
 split
 ·rename_i heq;simp at heq
 ·exact this
theorem w9{k:Nat}{args:List V}{o:Out}(h:rk Tryz.prog aE (Task.call k args [])=some o)(h1:¬k<9)(h2:yj k=true):rk Tryz.prog jK (Task.call k args [])=some o:=by
 have e:jK.ext k=some (fun args S=>run Tryz.prog aE (.call k args S)):=by
  simp only[jK,Hi,if_neg h1,h2,if_true]
 rw[pB e]
 exact iK h
theorem Jn(zs:List Int):RY (Task.call 10 [V.d (D.l false (ints .u8 zs))] [])=some (.p 0 0,[pk zs 0]):=by
 have:∀l:List D,rk Tryz.prog bn (Task.call 10 [V.d (D.l false l)] [])=aC (rk Tryz.prog bn) (Tr.ret (V.p 0 0,[Ob.cells [V.d (D.l false l),V.d (D.i .i64 0)] []])):=fun l=>aF (by kernel_rfl)
 rw[RY,this];rfl
theorem LV{f:Task->Option Out}{t:Task}{cs:List V}{K:List V->Tr}(h:f t=some (.p 0 0,[.cells cs []]))(hc:bg 0 cs=true):aC f (.call t fun o=>KY o fun l=>K l)=aC f (K cs):=by
 rw[cE h]
 show aC f (aM (bg 0 cs) (K cs))=_
 rw[hc,ba]
theorem KG{zs:List Int}(h:∀z∈zs,0<=z/\z<256)(hl:zs.length<=150):Pk zs 0:=⟨h,by omega,by omega⟩
end Go.Dn.Dec
namespace Go.Dn.Dec
open Go.Proofs
theorem y8(b:Bool)(l:List D)(c:Bool)(m:List D):rk Tryz.prog jK (.call 8 [vl b l,vl c m] [])=aC (rk Tryz.prog jK) (cV (.call 18 [] []) fun a=>aB a fun e=>aT (!e) (.ret (vb false,[])) (aT (decide ((l.length:Int)>100)) (.call (.at_ 8 0 [true,false,true,true] (sv 183 [(0,vl b l),(1,vl c m),(24,vb true)]) [] []) .ret) (.call (.at_ 8 0 [true,false,true,true] (sv 183 [(0,vl b l),(1,vl c m),(24,vb (decide ((m.length:Int)>200)))]) [] []) .ret))):=
 aF (by kernel_rfl)
theorem ue(b_0:Bool)(l_1:List D)(b_2:Bool)(l_3:List D)(b_4:Bool):rk Tryz.prog jK (.at_ 8 0 [true,false,true,true] (sv 183 [(0,vl b_0 l_1),(1,vl b_2 l_3),(24,vb b_4)]) [] [])=aC (rk Tryz.prog jK) (aT b_4 (.ret (vb true,[])) (.call (.call 10 [vl b_0 l_1] []) fun o_0=>KY o_0 fun l_1=>c1 (.call 11 [.p 0 0] [.cells l_1 []]) l_1.length [] fun o_2 l_5=>aL o_2 fun b_8 l_9=>ob (bh l_9 0) fun d_10=>aM (d_10.width==3) (ob l_9[0]? fun d_11=>aM (decide (3<=d_11.width)) (cV (.call 13 [.d (.g [gD 3 0 d_11 0,gD 3 0 d_11 1,gD 3 0 d_11 2])] []) fun o_12=>aS o_12 fun l_14=>cV (.call 19 [vs l_14] []) fun o_15=>dY o_15 fun l_16=>aM (l_16.length==3) (aW (l_16.getD 0 (vb false)) fun d_17=>dZ d_17 fun b_18 l_19=>aW (l_16.getD 1 (vb false)) fun d_20=>bD .i64 d_20 fun n_21=>aW (l_16.getD 2 (vb false)) fun d_22=>bD .i64 d_22 fun n_23=>aT (n_21 != 0) (.ret (vb (n_21==4),[])) (.call (.at_ 8 0 [false,true,false,true,true,true,true,true,true] (sv 183 [(1,vl b_2 l_3),(5,vl b_18 l_19),(8,vs []),(9,vi 0)]) [] []) .ret)))))):=
 aF (by kernel_rfl)
theorem rN(b_0:Bool)(l_1:List D)(b_2:Bool)(l_3:List D)(l_4:List UInt8)(n_5:Int):rk Tryz.prog jK (.at_ 8 0 [false,true,false,true,true,true,true,true,true] (sv 183 [(1,vl b_0 l_1),(5,vl b_2 l_3),(8,vs l_4),(9,vi n_5)]) [] [])=aC (rk Tryz.prog jK) (aT (decide (n_5<(l_3.length:Int))) (aT (decide (n_5<(l_1.length:Int))) (eC l_1 n_5 1 0 fun a=>bD .u8 a fun c => .call (.at_ 8 0 [true,true,false,false,true,false,false,true,false,true,true,true,true,true,true] (sv 183 [(1,vl b_0 l_1),(5,vl b_2 l_3),(8,vs l_4),(9,vi n_5),(10,vi ((IntKind.i64.wrap c).tmod 6))]) [] []) .ret) (.call (.at_ 8 0 [true,true,false,false,true,false,false,true,false,true,true,true,true,true,true] (sv 183 [(1,vl b_0 l_1),(5,vl b_2 l_3),(8,vs l_4),(9,vi n_5),(10,vi 0)]) [] []) .ret)) (cV (.call 19 [vs l_4] []) fun e=>dY e fun f=>aM (f.length==3) (aW (f.getD 0 (vb false)) fun g=>dZ g fun h j=>aW (f.getD 1 (vb false)) fun k=>bD .i64 k fun m=>aW (f.getD 2 (vb false)) fun n=>bD .i64 n fun o=>aT (m != 0) (.call (.at_ 8 0 [true,false,true,true,true,true,true,true,true,true] (sv 183 [(5,vl b_2 l_3),(11,vl h j),(12,vi m),(124,vb true)]) [] []) .ret) (.call (.at_ 8 0 [true,false,true,true,true,true,true,true,true,true] (sv 183 [(5,vl b_2 l_3),(11,vl h j),(12,vi m),(124,vb ((j.length:Int) != (l_3.length:Int)))]) [] []) .ret)))):=
 aF (by kernel_rfl)
theorem sG(b_0:Bool)(l_1:List D)(b_2:Bool)(l_3:List D)(l_4:List UInt8)(n_5 n_6:Int):rk Tryz.prog jK (.at_ 8 0 [true,true,false,false,true,false,false,true,false,true,true,true,true,true,true] (sv 183 [(1,vl b_0 l_1),(5,vl b_2 l_3),(8,vs l_4),(9,vi n_5),(10,vi n_6)]) [] [])=aC (rk Tryz.prog jK) (eC [.s [32],.s [10],.s [9,32,13],.s [47,42,32,97,32,42,47],.s [35,32,120,10],.s [47,47,32,121,10]] n_6 1 0 fun a=>fF a fun c=>aM (decide (l_4.length+c.length<4611686018427387904)) (eC l_3 n_5 5 0 fun e=>bD .i64 e fun f=>aT (f==1) (.call (.at_ 8 0 [true,false,true,true,true,true,false,false,true,false,false,true,false,true,true,true,true,true,true] (sv 183 [(1,vl b_0 l_1),(5,vl b_2 l_3),(8,vs (l_4++c)),(9,vi n_5),(66,vi f),(67,vb (f==1))]) [] []) .ret) (.call (.at_ 8 0 [true,false,true,true,true,true,false,false,true,false,false,true,false,true,true,true,true,true,true] (sv 183 [(1,vl b_0 l_1),(5,vl b_2 l_3),(8,vs (l_4++c)),(9,vi n_5),(66,vi f),(67,vb (f==5))]) [] []) .ret))):=
 aF (by kernel_rfl)
theorem oo(b_0:Bool)(l_1:List D)(b_2:Bool)(l_3:List D)(n_4:Int)(b_5:Bool):rk Tryz.prog jK (.at_ 8 0 [true,false,true,true,true,true,true,true,true,true] (sv 183 [(5,vl b_0 l_1),(11,vl b_2 l_3),(12,vi n_4),(124,vb b_5)]) [] [])=aC (rk Tryz.prog jK) (aT b_5 (.ret (vb (n_4==4),[])) (.call (.at_ 8 0 [false,true,false,true,true,true,true,true,true,true,true,true] (sv 183 [(5,vl b_0 l_1),(11,vl b_2 l_3),(14,vi 0)]) [] []) .ret)):=
 aF (by kernel_rfl)
theorem rO(b_0:Bool)(l_1:List D)(b_2:Bool)(l_3:List D)(l_4:List UInt8)(n_5 n_6:Int)(b_7:Bool):rk Tryz.prog jK (.at_ 8 0 [true,false,true,true,true,true,false,false,true,false,false,true,false,true,true,true,true,true,true] (sv 183 [(1,vl b_0 l_1),(5,vl b_2 l_3),(8,vs l_4),(9,vi n_5),(66,vi n_6),(67,vb b_7)]) [] [])=aC (rk Tryz.prog jK) (aT b_7 (eC l_3 n_5 5 1 fun a=>fF a fun c=>aM (decide (l_4.length+c.length<4611686018427387904)) (.call (.at_ 8 0 [false,true,false,true,true,true,true,true,true] (sv 183 [(1,vl b_0 l_1),(5,vl b_2 l_3),(8,vs (l_4++c)),(9,vi (IntKind.i64.wrap (n_5+1)))]) [] []) .ret)) (aT (n_6==2) (eC l_3 n_5 5 2 fun e=>bD .i64 e fun f=>cV (.call 22 [.d (.g [.i .i64 1,.i .i64 f,.i .u64 0,.s [],.l true []])] []) fun h=>aS h fun j=>aM (decide (l_4.length+j.length<4611686018427387904)) (.call (.at_ 8 0 [false,true,false,true,true,true,true,true,true] (sv 183 [(1,vl b_0 l_1),(5,vl b_2 l_3),(8,vs (l_4++j)),(9,vi (IntKind.i64.wrap (n_5+1)))]) [] []) .ret)) (aT (n_6==3) (eC l_3 n_5 5 3 fun k=>bD .u64 k fun m=>cV (.call 22 [.d (.g [.i .i64 2,.i .i64 0,.i .u64 m,.s [],.l true []])] []) fun n=>aS n fun o=>aM (decide (l_4.length+o.length<4611686018427387904)) (.call (.at_ 8 0 [false,true,false,true,true,true,true,true,true] (sv 183 [(1,vl b_0 l_1),(5,vl b_2 l_3),(8,vs (l_4++o)),(9,vi (IntKind.i64.wrap (n_5+1)))]) [] []) .ret)) (aT (n_6==4) (eC l_3 n_5 5 1 fun p=>fF p fun q=>cV (.call 22 [.d (.g [.i .i64 3,.i .i64 0,.i .u64 0,.s q,.l true []])] []) fun r=>aS r fun t=>aM (decide (l_4.length+t.length<4611686018427387904)) (.call (.at_ 8 0 [false,true,false,true,true,true,true,true,true] (sv 183 [(1,vl b_0 l_1),(5,vl b_2 l_3),(8,vs (l_4++t)),(9,vi (IntKind.i64.wrap (n_5+1)))]) [] []) .ret)) (.call (.at_ 8 0 [false,true,false,true,true,true,true,true,true] (sv 183 [(1,vl b_0 l_1),(5,vl b_2 l_3),(8,vs l_4),(9,vi (IntKind.i64.wrap (n_5+1)))]) [] []) .ret))))):=
 aF (by kernel_rfl)
theorem oq(b_0:Bool)(l_1:List D)(b_2:Bool)(l_3:List D)(n_4:Int):rk Tryz.prog jK (.at_ 8 0 [false,true,false,true,true,true,true,true,true,true,true,true] (sv 183 [(5,vl b_0 l_1),(11,vl b_2 l_3),(14,vi n_4)]) [] [])=aC (rk Tryz.prog jK) (aT (decide (n_4<(l_3.length:Int))) (eC l_3 n_4 5 0 fun a=>bD .i64 a fun c=>eC l_1 n_4 5 0 fun e=>bD .i64 e fun f=>aT (c != f) (.call (.at_ 8 0 [true,false,false,true,false,false,true,false,true,true,true,true,true,true,true,true,true] (sv 183 [(5,vl b_0 l_1),(11,vl b_2 l_3),(14,vi n_4),(182,vb true)]) [] []) .ret) (eC l_3 n_4 5 1 fun g=>fF g fun h=>eC l_1 n_4 5 1 fun j=>fF j fun k=>aT (!h==k) (.call (.at_ 8 0 [true,false,false,true,false,false,true,false,true,true,true,true,true,true,true,true,true] (sv 183 [(5,vl b_0 l_1),(11,vl b_2 l_3),(14,vi n_4),(182,vb true)]) [] []) .ret) (eC l_3 n_4 5 2 fun m=>bD .i64 m fun n=>eC l_1 n_4 5 2 fun o=>bD .i64 o fun p=>aT (n != p) (.call (.at_ 8 0 [true,false,false,true,false,false,true,false,true,true,true,true,true,true,true,true,true] (sv 183 [(5,vl b_0 l_1),(11,vl b_2 l_3),(14,vi n_4),(182,vb true)]) [] []) .ret) (eC l_3 n_4 5 3 fun q=>bD .u64 q fun r=>eC l_1 n_4 5 3 fun s=>bD .u64 s fun t => .call (.at_ 8 0 [true,false,false,true,false,false,true,false,true,true,true,true,true,true,true,true,true] (sv 183 [(5,vl b_0 l_1),(11,vl b_2 l_3),(14,vi n_4),(182,vb (r != t))]) [] []) .ret)))) (.ret (vb true,[]))):=
 aF (by kernel_rfl)
theorem rI(b_0:Bool)(l_1:List D)(b_2:Bool)(l_3:List D)(n_4:Int)(b_5:Bool):rk Tryz.prog jK (.at_ 8 0 [true,false,false,true,false,false,true,false,true,true,true,true,true,true,true,true,true] (sv 183 [(5,vl b_0 l_1),(11,vl b_2 l_3),(14,vi n_4),(182,vb b_5)]) [] [])=aC (rk Tryz.prog jK) (aT b_5 (.ret (vb false,[])) (.call (.at_ 8 0 [false,true,false,true,true,true,true,true,true,true,true,true] (sv 183 [(5,vl b_0 l_1),(11,vl b_2 l_3),(14,vi (IntKind.i64.wrap (n_4+1)))]) [] []) .ret)):=
 aF (by kernel_rfl)
end Go.Dn.Dec
namespace Go.Dn.Dec
set_option linter.unusedVariables false
set_option linter.unusedSimpArgs false
set_option exponentiation.threshold 5000000
def eb(w:List UInt8):Prop:=(∃c q,w=c::q/\ns c=true)/\(∀c∈w,du c=true)/\w.length<=120/\w.getLast?≠some 46/\mw w=false
def Dl(r:List UInt8):Prop:=r=[]\/∃c q,r=c::q/\du c=false
theorem my{p:UInt8->Bool}:∀{w r:List UInt8},(∀c∈w,p c=true)->(r=[]\/∃c q,r=c::q/\p c=false)->(w++r).takeWhile p=w
 | [],r,_,h=>by
  rcases h with rfl|⟨c,q,rfl,h⟩
  ·rfl
  ·rw[List.nil_append,List.takeWhile_cons,h];rfl
 |a::w,r,hw,h=>by
  rw[List.cons_append,List.takeWhile_cons,hw a (by simp),if_pos rfl,my (fun c hc=>hw c (by simp[hc])) h]
theorem xI{p:UInt8->Bool}:∀{w r:List UInt8},(∀c∈w,p c=true)->(r=[]\/∃c q,r=c::q/\p c=false)->(w++r).dropWhile p=r
 | [],r,_,h=>by
  rcases h with rfl|⟨c,q,rfl,h⟩
  ·rfl
  ·rw[List.nil_append,List.dropWhile_cons,h];rfl
 |a::w,r,hw,h=>by
  rw[List.cons_append,List.dropWhile_cons,hw a (by simp),if_pos rfl,xI (fun c hc=>hw c (by simp[hc])) h]
theorem jt{c:UInt8}(h:du c=false):ns c=false/\aG c=false/\c≠46:=by
 simp only[du,Bool.or_eq_false_iff,beq_eq_false_iff_ne]at h
 exact⟨h.1.1,h.1.2,h.2⟩
theorem s4{c:UInt8}(h:ns c=false):c≠101/\c≠69/\c≠120:=by
 refine⟨?_,?_,?_⟩<;>rintro rfl<;>revert h<;>decide
theorem Dl.noDig{r:List UInt8}(h:Dl r):Bx r:=by
 rcases h with rfl|⟨c,q,rfl,h⟩
 ·exact .inl rfl
 ·exact .inr ⟨c,q,rfl,(jt h).2.1⟩
theorem Dl.frac{r:List UInt8}(h:Dl r):cH r=0:=by
 rcases h with rfl|⟨c,q,rfl,h⟩
 ·rfl
 ·have:=(jt h).2.2
  unfold cH
  split
  ·rename_i heq
   injection heq with e1 e2
   subst e1
   rw[if_neg (fun hh=>this hh.1)]
  ·rfl
theorem Dl.exp{r:List UInt8}(h:Dl r):dP r=0:=by
 rcases h with rfl|⟨c,q,rfl,h⟩
 ·rfl
 ·have:=s4 (jt h).1
  simp only[dP]
  rw[if_neg (by rintro(h|h);exact this.1 h;exact this.2.1 h)]
theorem mX{w r:List UInt8}(h:Dl r)(a:Nat)(t:Tok):nX (w++r) w.length a t = .inl (t,w.length):=by
 unfold nX
 rw[List.drop_left]
 rcases h with rfl|⟨c,q,rfl,h⟩
 ·rfl
 ·have:=jt h
  simp only
  rw[if_neg (by rw[this.1,beq_eq_false_iff_ne.2 this.2.2];decide)]
theorem rR{w r:List UInt8}(hw:eb w)(hr:Dl r)(a:Nat):jo (w++r) a = .inl (⟨1,w,0,0,a⟩,w.length):=by
 obtain⟨⟨c,q,rfl,hc⟩,h2,h3,h4,h5⟩:=hw
 have ht:((c::q)++r).takeWhile du=c::q:=my h2 hr
 rw[List.cons_append]at ht⊢
 simp only[jo]
 rw[if_pos hc]
 simp only[uP,ht]
 rw[if_neg (by omega),if_neg (by rintro(h|h);exact h4 h;rw[h5]at h;cases h)]
theorem qf{R r:List UInt8}{k m a:Nat}{neg:Bool}{v:Int}(h1:fu R=k)(h2:R.drop k=fM m++r)(h3:¬(k=0/\R.head?=some 48/\(R.drop 1).head?=some 120/\((R.drop 2).takeWhile cX)≠[]))(hr:Dl r)
  (hneg:(R.head?==some 45)=neg) (hb:eE neg m=(v,true)) (hl:(fM m).length<=60) (hR:∃w,R=w++r/\w.length=k+(fM m).length):wH R a = .inl (⟨2,[],v,0,a⟩,k+(fM m).length):=by
 have td:(fM m++r).takeWhile aG=fM m:=KO _ _ (ax m) hr.noDig.take
 have dr:(fM m++r).drop (fM m).length=r:=List.drop_left
 unfold wH
 simp only[h1,h2,td,lb]
 rw[if_neg h3,if_neg (fun h=>G7 m h.1)]
 simp only[dr,hr.frac,Nat.add_zero,hr.exp]
 rw[if_pos ⟨trivial,trivial⟩]
 rw[hneg,hb,if_neg (by omega),if_neg (by simp)]
 obtain⟨w,rfl,hw⟩:=hR
 rw[<-hw]
 exact mX hr a _
theorem ju(n:Nat):∃d q,fM n=d::q/\aG d=true/\∀c∈q,aG c=true:=by
 have h:=ax n
 have h2:=G7 n
 cases e:fM n with
 |nil=>exact absurd e h2
 |cons d q=>rw[e]at h;exact⟨d,q,rfl,h d (by simp),fun c hc=>h c (by simp[hc])⟩
theorem gC{d:UInt8}(h:aG d=true):d≠43/\d≠45/\d≠120/\ns d=false/\d≠46/\Ea d=false/\d≠35/\d≠47:=by
 rw[dW]at h
 have hn:∀c:UInt8,(c.toNat<48\/57<c.toNat)->d≠c:=by rintro c hc rfl;omega
 refine⟨hn _ (by decide),hn _ (by decide),hn _ (by decide),?_,hn _ (by decide),?_,hn _ (by decide),hn _ (by decide)⟩
 ·have h95:(d==95)=false:=beq_eq_false_iff_ne.2 (hn _ (by decide))
  simp only[ns,h95,Bool.false_or,Bool.or_eq_false_iff,Bool.and_eq_false_iff,decide_eq_false_iff_not]
  omega
 ·have e:∀c:UInt8,(c.toNat<48\/57<c.toNat)->(d==c)=false:=fun c hc=>beq_eq_false_iff_ne.2 (hn c hc)
  simp only[Ea,e 9 (by decide),e 10 (by decide),e 13 (by decide),e 32 (by decide),Bool.or_self]
theorem km{c:UInt8}{q:List UInt8}{a:Nat}(h:aG c=true\/c=45):jo (c::q) a=wH (c::q) a:=by
 have hl:ns c=false:=by
  rcases h with h|rfl
  ·exact(gC h).2.2.2.1
  ·decide
 simp only[jo]
 rw[if_neg (by rw[hl];decide),if_pos (by rcases h with h|h;exact .inl h;exact .inr (.inr (.inl h)))]
theorem sX{m:Nat}(h:m<10^20):(fM m).length<=20:=iB 20 m (by decide) h
theorem um{n:Int}(h1:-9223372036854775808<=n)(h2:n<=9223372036854775807){r:List UInt8}(hr:Dl r)(a:Nat):jo (js n++r) a = .inl (⟨2,[],n,0,a⟩,(js n).length):=by
 by_cases hn:n<0
 ·have hl:(fM n.natAbs).length<=20:=sX (Nat.lt_of_le_of_lt (show n.natAbs<=9223372036854775808 by omega) (by decide))
  have e:js n=45::fM n.natAbs:=by unfold js;rw[if_pos hn]
  rw[e,List.cons_append,km (.inr rfl)]
  have:=qf (R:=45::(fM n.natAbs++r)) (r:=r) (k:=1) (m:=n.natAbs) (a:=a) (neg:=true) (v:=n) rfl rfl (fun h=>by omega) hr rfl
   (by simp only[eE,if_true];congr 1;(focus omega);rw[decide_eq_true_eq];exact Nat.le_trans (show n.natAbs<=9223372036854775808 by omega) (by decide)) (by omega) ⟨45::fM n.natAbs,rfl,by simp;omega⟩
  rw[this,List.length_cons,Nat.add_comm]
 ·have hl:(fM n.toNat).length<=20:=sX (Nat.lt_of_le_of_lt (show n.toNat<=9223372036854775807 by omega) (by decide))
  have e:js n=fM n.toNat:=by unfold js;rw[if_neg hn]
  obtain⟨d,q,hd,d1,d2⟩:=ju n.toNat
  have hx:=gC d1
  have hs:fu (fM n.toNat++r)=0:=by
   rw[hd,List.cons_append];simp only[fu]
   rw[if_neg (by rintro(h|h);exact hx.1 h;exact hx.2.1 h)]
  have h3:((fM n.toNat++r).drop 1).head?≠some 120:=by
   rw[hd,List.cons_append,List.drop_succ_cons,List.drop_zero]
   cases q with
   |nil=>
    rcases hr with rfl|⟨c,s,rfl,hc⟩
    ·simp
    ·intro h
     simp at h
     exact(s4 (jt hc).1).2.2 h
   |cons x q=>
    intro h
    simp at h
    exact(gC (d2 x (by simp))).2.2.1 h
  have hh:((fM n.toNat++r).head?==some 45)=false:=by
   rw[hd];simp;exact hx.2.1
  have:=qf (R:=fM n.toNat++r) (r:=r) (k:=0) (m:=n.toNat) (a:=a) (neg:=false) (v:=n) hs rfl (fun h=>h3 h.2.2.1) hr hh
   (by simp only[eE,Bool.false_eq_true,if_false];congr 1;(focus omega);rw[decide_eq_true_eq];exact Nat.lt_of_le_of_lt (show n.toNat<=9223372036854775807 by omega) (by decide)) (by omega) ⟨fM n.toNat,rfl,by simp⟩
  rw[e]
  have hw:jo (fM n.toNat++r) a=wH (fM n.toNat++r) a:=by rw[hd,List.cons_append];exact km (.inl d1)
  rw[hw,this,Nat.zero_add]
theorem y7(d:List UInt8)(hd:∀c∈d,aG c=true):FP d≠[]/\∀c∈FP d,aG c=true:=by
 have hsub:∀c∈trimRightB 48 (d.drop 1),aG c=true:=fun c hc=>by
  obtain⟨j,hj⟩:=mn (d.drop 1)
  have:c∈d.drop 1:=by rw[hj];exact List.mem_append_left _ hc
  exact hd c (List.mem_of_mem_drop this)
 unfold FP
 split
 ·refine⟨by simp,fun c hc=>?_⟩
  simp only[List.mem_singleton]at hc;subst hc;decide
 ·exact⟨by assumption,hsub⟩
theorem oa(sg:List UInt8)(q:Nat)(n:Int):∃(dg:UInt8) (p:List UInt8),aG dg=true/\p≠[]/\(∀c∈p,aG c=true)/\im sg (kU q) n=sg++([dg]++([46]++(p++([101]++js n)))):=by
 obtain⟨d,r,hd,d1,d2⟩:=ju (q%18446744073709551616)
 obtain⟨r1,r2⟩:=y7 (kU q) (ax _)
 refine⟨d,FP (kU q),d1,r1,r2,?_⟩
 unfold im
 have:(kU q).take 1=[d]:=by unfold kU;rw[hd];rfl
 rw[this]
 simp only[List.append_assoc]
theorem lW(b:Nat)(hk:b / 2^52%2048≠2047):∃(sg:List UInt8) (dg:UInt8) (p:List UInt8) (n:Int),(sg=[]\/sg=[45])/\aG dg=true/\p≠[]/\(∀c∈p,aG c=true)/\qC b=sg++([dg]++([46]++(p++([101]++js n)))):=by
 unfold qC
 rw[if_neg hk]
 have hs:∃sg:List UInt8,(if 2^63<=b then [45] else([]:List UInt8))=sg/\(sg=[]\/sg=[45]):=by
  by_cases h:2^63<=b
  ·exact⟨[45],if_pos h,.inr rfl⟩
  ·exact⟨[],if_neg h,.inl rfl⟩
 obtain⟨sg,e,hsg⟩:=hs
 simp only[e]
 by_cases h0:b%2^63=0
 ·rw[if_pos h0]
  refine⟨sg,48,[48],0,hsg,by decide,by simp,fun c hc=>?_,by simp[show js 0=[48]from rfl]⟩
  simp only[List.mem_singleton]at hc;subst hc;decide
 ·rw[if_neg h0]
  unfold vA
  simp only
  split
  ·obtain⟨dg,p,h1,h2,h3,h4⟩:=oa sg (gu (nG (b%2^63)).1 (nG (b%2^63)).2 (kN (nG (b%2^63)).1 (nG (b%2^63)).2 ((((bd (nG (b%2^63)).1:Int)-bd (nG (b%2^63)).2)*30103).tdiv 100000+401).toNat+1-16)) (kN (nG (b%2^63)).1 (nG (b%2^63)).2 ((((bd (nG (b%2^63)).1:Int)-bd (nG (b%2^63)).2)*30103).tdiv 100000+401).toNat+1)
   exact⟨sg,dg,p,_,hsg,h1,h2,h3,h4⟩
  ·obtain⟨dg,p,h1,h2,h3,h4⟩:=oa sg (gu (nG (b%2^63)).1 (nG (b%2^63)).2 (kN (nG (b%2^63)).1 (nG (b%2^63)).2 ((((bd (nG (b%2^63)).1:Int)-bd (nG (b%2^63)).2)*30103).tdiv 100000+401).toNat-16)) (kN (nG (b%2^63)).1 (nG (b%2^63)).2 ((((bd (nG (b%2^63)).1:Int)-bd (nG (b%2^63)).2)*30103).tdiv 100000+401).toNat)
   exact⟨sg,dg,p,_,hsg,h1,h2,h3,h4⟩
theorem uk(n:Int){r:List UInt8}(hr:Dl r):dP ([101]++js n++r)=([101]++js n).length:=by
 rw[List.append_assoc,List.singleton_append]
 simp only[dP]
 rw[if_pos (by simp)]
 by_cases hn:n<0
 ·have e:js n=45::fM n.natAbs:=by unfold js;rw[if_pos hn]
  rw[e,List.cons_append]
  have hk:gX (45::(fM n.natAbs++r))=2:=rfl
  have hd:(101::45::(fM n.natAbs++r)).drop 2=fM n.natAbs++r:=rfl
  rw[hk,hd,KO _ _ (ax _) hr.noDig.take,if_neg (G7 _)]
  simp;omega
 ·have e:js n=fM n.toNat:=by unfold js;rw[if_neg hn]
  obtain⟨d,q,hd,d1,d2⟩:=ju n.toNat
  have hx:=gC d1
  have hk:gX (fM n.toNat++r)=1:=by
   rw[hd,List.cons_append];simp only[gX]
   rw[if_neg (by rintro(h|h);exact hx.1 h;exact hx.2.1 h)]
  have hdr:(101::(fM n.toNat++r)).drop 1=fM n.toNat++r:=rfl
  rw[e,hk,hdr,KO _ _ (ax _) hr.noDig.take,if_neg (G7 _)]
  simp;omega
theorem uf{b:Nat}(hb:b<2^64)(hk:b / 2^52%2048≠2047){r:List UInt8}(hr:Dl r)(a:Nat):jo (qC b++r) a = .inl (⟨3,[],0,b,a⟩,(qC b).length):=by
 obtain⟨sg,dg,p,n,hsg,h1,h2,h3,e⟩:=lW b hk
 have hp:=rU b hb hk
 have hx:=gC h1
 have key:∀R:List UInt8,R=qC b++r->fu R=sg.length->¬(sg.length=0/\R.head?=some 48/\(R.drop 1).head?=some 120/\((R.drop 2).takeWhile cX)≠[])->wH R a = .inl (⟨3,[],0,b,a⟩,(qC b).length):=by
  intro R hR hs h0
  have hu:R.drop sg.length=[dg]++([46]++(p++([101]++js n++r))):=by
   rw[hR,e,List.append_assoc,List.drop_left];simp only[List.append_assoc]
  have t1:([dg]++([46]++(p++([101]++js n++r)))).takeWhile aG=[dg]:=my (fun c hc=>by simp only[List.mem_singleton]at hc;subst hc;exact h1) (.inr ⟨46,_,rfl,by decide⟩)
  have t2:cH ([46]++(p++([101]++js n++r)))=1+p.length:=by
   cases p with
   |nil=>exact absurd rfl h2
   |cons x p=>
    have:((x::p)++([101]++js n++r)).takeWhile aG=x::p:=my h3 (.inr ⟨101,_,rfl,by decide⟩)
    have e:[46]++((x::p)++([101]++js n++r))=46::x::(p++([101]++js n++r)):=by simp
    have e2:(x::p)++([101]++js n++r)=x::(p++([101]++js n++r)):=by simp
    rw[e2]at this
    rw[e]
    simp only[cH]
    rw[if_pos ⟨trivial,h3 x (by simp)⟩,this]
  have t3:([dg]++([46]++(p++([101]++js n++r)))).drop (1+(1+p.length))=[101]++js n++r:=by
   rw[show [dg]++([46]++(p++([101]++js n++r)))=([dg]++([46]++p))++([101]++js n++r) by simp,show 1+(1+p.length)=([dg]++([46]++p)).length by simp;omega,List.drop_left]
  have t4:=uk n hr
  have hlen:(qC b).length=sg.length+(1+(1+p.length+([101]++js n).length)):=by rw[e];simp;omega
  unfold wH
  simp only[hs,hu,t1]
  rw[if_neg h0,if_neg (fun h=>by cases h.1)]
  have d1:([dg]++([46]++(p++([101]++js n++r)))).drop 1=[46]++(p++([101]++js n++r)):=rfl
  simp only[List.length_singleton,d1,t2,t3,t4]
  rw[if_neg (by omega),<-hlen]
  have tk:R.take (qC b).length=qC b:=by rw[hR,List.take_left]
  rw[tk,hp,if_neg (by simp),hR]
  exact mX hr a _
 rcases hsg with rfl|rfl
 ·have hR:qC b++r=dg::([46]++(p++([101]++js n++r))):=by rw[e];simp
  rw[hR,km (.inl h1)]
  refine key _ hR.symm ?_ (fun h=>?_)
  ·simp only[fu]
   rw[if_neg (by rintro(h|h);exact hx.1 h;exact hx.2.1 h)];rfl
  ·have:=h.2.2.1
   simp at this
 ·have hR:qC b++r=45::(dg::([46]++(p++([101]++js n++r)))):=by rw[e];simp
  rw[hR,km (.inr rfl)]
  exact key _ hR.symm rfl (fun h=>by simp at h)
theorem l4{t:List UInt8}(h10:t.contains 10=false)(hq:t.contains 34=false\/t.contains 39=false)(r:List UInt8)(a:Nat):jo (pQ t++r) a = .inl (⟨4,t,0,0,a⟩,(pQ t).length):=by
 have go:∀q:UInt8,(q=34\/q=39)->t.contains q=false->jo ([q]++t++[q]++r) a = .inl (⟨4,t,0,0,a⟩,([q]++t++[q]).length):=by
  intro q hq hc
  have hne:∀c∈t,(c != q)=true:=fun c hm=>by
   rw[bne_iff_ne]
   rintro rfl
   rw[List.contains_iff_mem.2 hm]at hc;cases hc
  have t1:(t++(q::r)).takeWhile (· != q)=t:=my hne (.inr ⟨q,r,rfl,by simp⟩)
  have t2:(t++(q::r)).dropWhile (· != q)=q::r:=xI hne (.inr ⟨q,r,rfl,by simp⟩)
  have e:[q]++t++[q]++r=q::(t++(q::r)):=by simp
  rw[e]
  simp only[jo]
  rw[if_neg (by rcases hq with rfl|rfl<;>decide),if_neg (by rcases hq with rfl|rfl<;>decide),if_pos hq]
  simp only[qL,t1,t2]
  rw[if_neg (by rintro(h|h);cases h;rw[h10]at h;cases h)]
  simp
 unfold pQ
 split
 ·rename_i h
  exact go 39 (.inr rfl) (hq.resolve_left (by rw[h];decide))
 ·rename_i h
  exact go 34 (.inl rfl) (by simpa using h)
theorem lZ{c:UInt8}(h:eD.contains c=true)(r:List UInt8)(a:Nat):jo ([c]++r) a = .inl (⟨5,[c],0,0,a⟩,1):=by
 have hm:c∈eD:=List.contains_iff_mem.1 h
 simp only[List.singleton_append,jo]
 rw[if_neg,if_neg,if_neg,if_pos h]
 all_goals
  simp only[eD,List.mem_cons,List.not_mem_nil,or_false]at hm
  rcases hm with rfl|rfl|rfl|rfl|rfl|rfl|rfl|rfl|rfl|rfl|rfl|rfl|rfl<;>decide
end Go.Dn.Dec
namespace Go.Dn.Dec
set_option linter.unusedVariables false
set_option linter.unusedSimpArgs false
set_option exponentiation.threshold 5000000
def iQ(t:Tok):List UInt8:=if t.kind=1\/t.kind=5 then t.text else if t.kind=2 then js t.n else if t.kind=3 then qC t.d else if t.kind=4 then pQ t.text else []
def mW(d:Nat):Prop:=d<2^64/\d / 2^52%2048≠2047
def xD(s:List UInt8):Prop:=s.contains 10=false/\(s.contains 34=false\/s.contains 39=false)
def kV(t:Tok):Prop:=
 (∃w a,t=⟨1,w,0,0,a⟩/\eb w)\/(∃n a,t=⟨2,[],n,0,a⟩/\-9223372036854775808<=n/\n<=9223372036854775807)\/(∃d a,t=⟨3,[],0,d,a⟩/\mW d)\/(∃s a,t=⟨4,s,0,0,a⟩/\xD s)\/∃c a,t=⟨5,[c],0,0,a⟩/\eD.contains c=true
def wX(q:List UInt8):Prop:=q=[]\/∃c r,q=c::r/\Ea c=false/\c≠35/\c≠47
theorem Ak{c:UInt8}(h:ns c=true):Ea c=false/\c≠35/\c≠47:=by
 refine⟨?_,?_,?_⟩
 ·cases hs:Ea c with
  |false=>rfl
  |true=>
   simp only[Ea,Bool.or_eq_true,beq_iff_eq]at hs
   rcases hs with((rfl|rfl)|rfl)|rfl<;>revert h<;>decide
 ·rintro rfl;revert h;decide
 ·rintro rfl;revert h;decide
theorem qE{c:UInt8}(h:eD.contains c=true):Ea c=false/\c≠35/\c≠47:=by
 have hm:c∈eD:=List.contains_iff_mem.1 h
 simp only[eD,List.mem_cons,List.not_mem_nil,or_false]at hm
 rcases hm with rfl|rfl|rfl|rfl|rfl|rfl|rfl|rfl|rfl|rfl|rfl|rfl|rfl<;>decide
theorem ug(n:Int):∃c q,js n=c::q/\Ea c=false/\c≠35/\c≠47:=by
 unfold js
 split
 ·exact⟨45,_,rfl,by decide,by decide,by decide⟩
 ·obtain⟨d,q,hd,d1,_⟩:=ju n.toNat
  have:=gC d1
  exact⟨d,q,hd,this.2.2.2.2.2.1,this.2.2.2.2.2.2.1,this.2.2.2.2.2.2.2⟩
theorem mz{t:Tok}(h:kV t){r:List UInt8}(hr:Dl r)(a:Nat):jo (iQ t++r) a = .inl ({ t with at_:=a },(iQ t).length)/\∃c q,iQ t=c::q/\Ea c=false/\c≠35/\c≠47:=by
 rcases h with⟨w,x,rfl,h⟩|⟨n,x,rfl,h1,h2⟩|⟨d,x,rfl,h1,h2⟩|⟨s,x,rfl,h1,h2⟩|⟨c,x,rfl,h⟩
 ·refine⟨rR h hr a,?_⟩
  obtain⟨⟨c,q,rfl,hc⟩,_⟩:=h
  exact⟨c,q,rfl,Ak hc⟩
 ·exact⟨um h1 h2 hr a,ug n⟩
 ·refine⟨uf h1 h2 hr a,?_⟩
  obtain⟨sg,dg,p,n,hsg,g1,_,_,e⟩:=lW d h2
  have:=gC g1
  show ∃c q,qC d=c::q/\_
  rcases hsg with rfl|rfl
  ·exact⟨dg,_,e,this.2.2.2.2.2.1,this.2.2.2.2.2.2.1,this.2.2.2.2.2.2.2⟩
  ·exact⟨45,_,e,by decide,by decide,by decide⟩
 ·refine⟨l4 h1 h2 r a,?_⟩
  show ∃c q,pQ s=c::q/\_
  unfold pQ
  split
  ·exact⟨39,s++[39],by simp,by decide,by decide,by decide⟩
  ·exact⟨34,s++[34],by simp,by decide,by decide,by decide⟩
 ·exact⟨lZ h r a,c,[],rfl,qE h⟩
def au:Nat->List UInt8
 |0=>[32]
 |1=>[10]
 |2=>[9,32,13]
 |3=>[47,42,32,97,32,42,47]
 |4=>[35,32,120,10]
 |_=>[47,47,32,121,10]
theorem az{q:List UInt8}(h:wX q)(f k:Nat):gv f q k=(k,true):=by
 cases f with
 |zero=>rfl
 |succ f=>
  rcases h with rfl|⟨c,r,rfl,h1,h2,h3⟩
  ·rfl
  ·simp only[gv]
   rw[if_neg (by rw[h1];decide),if_neg (by rintro(h|h);exact h2 h;exact h3 h.1),if_neg (fun h=>h3 h.1)]
theorem kh{c:UInt8}(h:Ea c=true)(f k:Nat)(q:List UInt8):gv (f+1) (c::q) k=gv f q (k+1):=by
 simp only[gv];rw[if_pos h]
theorem qM(j:Nat){q:List UInt8}(hq:wX q)(f:Nat)(hf:(au j++q).length<=f):gv f (au j++q) 0=((au j).length,true):=by
 match j with
 |0=>
  obtain⟨g,rfl⟩:∃g,f=g+1:=⟨f-1,by simp[au]at hf;omega⟩
  simp only[au,List.cons_append,List.nil_append]
  rw[kh (by decide),az hq];rfl
 |1=>
  obtain⟨g,rfl⟩:∃g,f=g+1:=⟨f-1,by simp[au]at hf;omega⟩
  simp only[au,List.cons_append,List.nil_append]
  rw[kh (by decide),az hq];rfl
 |2=>
  obtain⟨g,rfl⟩:∃g,f=g+1+1+1:=⟨f-3,by simp[au]at hf;omega⟩
  simp only[au,List.cons_append,List.nil_append]
  rw[kh (by decide),kh (by decide),kh (by decide),az hq];rfl
 |3=>
  obtain⟨g,rfl⟩:∃g,f=g+1:=⟨f-1,by simp[au]at hf;omega⟩
  simp only[au,List.cons_append,List.nil_append,gv]
  rw[if_neg (by decide),if_neg (by simp),if_pos (by simp)]
  have:mZ ((42::32::97::32::42::47::q).drop 1)=some 5:=by simp[mZ]
  rw[this]
  simp only[List.drop_succ_cons,List.drop_zero]
  rw[az hq];rfl
 |4=>
  obtain⟨g,rfl⟩:∃g,f=g+1:=⟨f-1,by simp[au]at hf;omega⟩
  simp only[au,List.cons_append,List.nil_append,gv]
  have:ij (35::32::120::10::q)=4:=by simp[ij]
  rw[if_neg (by decide),if_pos (by simp),this]
  simp only[List.drop_succ_cons,List.drop_zero]
  rw[az hq];rfl
 |j+5=>
  obtain⟨g,rfl⟩:∃g,f=g+1:=⟨f-1,by simp[au]at hf;omega⟩
  simp only[au,List.cons_append,List.nil_append,gv]
  have:ij (47::47::32::121::10::q)=5:=by simp[ij]
  rw[if_neg (by decide),if_pos (by simp),this]
  simp only[List.drop_succ_cons,List.drop_zero]
  rw[az hq];rfl
theorem zi(j:Nat)(q:List UInt8):Dl (au j++q):=by
 refine .inr ?_
 match j with
 |0=>exact⟨32,_,rfl,by decide⟩
 |1=>exact⟨10,_,rfl,by decide⟩
 |2=>exact⟨9,_,rfl,by decide⟩
 |3=>exact⟨47,_,rfl,by decide⟩
 |4=>exact⟨35,_,rfl,by decide⟩
 |j+5=>exact⟨47,_,rfl,by decide⟩
def dv:List (Nat×Tok)->List UInt8
 | []=>[]
 |(j,t)::r=>au j++(iQ t++dv r)
def strip(t:Tok):Tok:={ t with at_:=0 }
theorem pV:∀(W:List (Nat×Tok)) (k f a:Nat) (l:List Tok),(∀x∈W,kV x.2)->(dv W++au k).length<f->
  ∃(W':List Tok) (e:Nat),wy f (dv W++au k) a l=(l++W'++[⟨6,[],0,0,e⟩],0,0)/\W'.map strip=W.map fun x=>strip x.2
 | [],k,f,a,l,_,hf=>by
  obtain⟨g,rfl⟩:∃g,f=g+1:=⟨f-1,by omega⟩
  refine⟨[],a+(au k).length,?_,rfl⟩
  have:=qM k (q:=[]) (.inl rfl) (au k).length (by simp)
  rw[List.append_nil]at this
  have e0:dv []++au k=au k:=rfl
  rw[e0]
  simp only[wy,this]
  rw[if_pos (Nat.le_refl _),List.append_nil]
 |(j,t)::W,k,f,a,l,hW,hf=>by
  obtain⟨g,rfl⟩:∃g,f=g+1:=⟨f-1,by omega⟩
  have e:dv ((j,t)::W)++au k=au j++(iQ t++(dv W++au k)):=by simp[dv]
  have hd:Dl (dv W++au k):=by
   cases W with
   |nil=>have:=zi k [];rwa[List.append_nil]at this
   |cons x W=>obtain⟨i,u⟩:=x;simp only[dv,List.append_assoc];exact zi i _
  obtain⟨h1,c,q,h2,h3⟩:=mz (hW (j,t) (by simp)) hd (a+(au j).length)
  have hs:=qM j (q:=iQ t++(dv W++au k)) (.inr ⟨c,q++(dv W++au k),by rw[h2];rfl,h3⟩) _ (Nat.le_refl _)
  rw[e]at hf⊢
  have hl:1<=(iQ t).length:=by rw[h2];simp
  simp only[List.length_append]at hf
  obtain⟨W',x,i1,i2⟩:=pV W k g (a+(au j).length+(iQ t).length) (l++[{ t with at_:=a+(au j).length }]) (fun x hx=>hW x (by simp[hx])) (by simp only[List.length_append];omega)
  refine⟨{ t with at_:=a+(au j).length }::W',x,?_,by simp only[List.map_cons,i2];rfl⟩
  simp only[wy,hs]
  rw[if_neg (by simp only[List.length_append];omega),List.drop_left,h1]
  simp only
  rw[<-List.drop_drop,List.drop_left,List.drop_left,i1]
  simp
def Lx(s:List UInt8):Prop:=∀(f a:Nat) (l:List Tok),s.length<f->(wy f s a l).2=(0,0)
theorem ay:∀(f:Nat) (r:List UInt8) (k:Nat),gv f r k=(k+(gv f r 0).1,(gv f r 0).2)
 |0,r,k=>rfl
 |f+1,[],k=>rfl
 |f+1,c::q,k=>by
  simp only[gv]
  split
  ·rw[ay f q (k+1),ay f q (0+1)]
   simp;omega
  ·split
   ·rw[ay f _ (k+_),ay f _ (0+_)]
    simp;omega
   ·split
    ·split
     ·rfl
     ·rename_i n _
      rw[ay f _ (k+(2+n)),ay f _ (0+(2+n))]
      simp;omega
    ·rfl
theorem BW{c:UInt8}(h:Ea c=true)(f:Nat)(s:List UInt8)(a:Nat)(l:List Tok):wy (f+1) (c::s) a l=wy (f+1) s (a+1) l:=by
 have hs:gv (c::s).length (c::s) 0=((gv s.length s 0).1+1,(gv s.length s 0).2):=by
  rw[List.length_cons,kh h,ay,Nat.add_comm]
 simp only[wy]
 rw[hs]
 cases hk:gv s.length s 0 with
 |mk k b=>
  cases b with
  |false=>simp only;congr 2;omega
  |true=>
   simp only
   have e1:a+(c::s).length=a+1+s.length:=by simp;omega
   have e2:(c::s).drop (k+1)=s.drop k:=rfl
   have e3:a+(k+1)=a+1+k:=by omega
   rw[e1,e2,e3]
   by_cases hl:s.length<=k
   ·rw[if_pos hl,if_pos (by simp;omega)]
   ·rw[if_neg hl,if_neg (by simp;omega)]
    cases jo (s.drop k) (a+1+k) with
    |inr x=>rfl
    |inl x=>
     obtain⟨t,n⟩:=x
     simp only
     have e4:(c::s).drop (k+1+n)=s.drop (k+n):=by
      rw[show k+1+n=(k+n)+1 by omega];rfl
     rw[e4]
theorem Lx.nil:Lx []:=by
 intro f a l hf
 obtain⟨g,rfl⟩:∃g,f=g+1:=⟨f-1,by omega⟩
 rfl
theorem Lx.sp{c:UInt8}{s:List UInt8}(h:Ea c=true)(hs:Lx s):Lx (c::s):=by
 intro f a l hf
 obtain⟨g,rfl⟩:∃g,f=g+1:=⟨f-1,by omega⟩
 rw[BW h]
 exact hs _ _ _ (by simp at hf;omega)
theorem Lx.word{t:Tok}(h:kV t){s:List UInt8}(hs:Lx s)(hd:Dl s):Lx (iQ t++s):=by
 intro f a l hf
 obtain⟨g,rfl⟩:∃g,f=g+1:=⟨f-1,by omega⟩
 obtain⟨h1,c,q,h2,h3⟩:=mz h hd (a+0)
 have hk:=az (q:=iQ t++s) (.inr ⟨c,q++s,by rw[h2];rfl,h3⟩) (iQ t++s).length 0
 have hl:1<=(iQ t).length:=by rw[h2];simp
 simp only[List.length_append]at hf
 simp only[wy,hk]
 rw[if_neg (by simp only[List.length_append];omega),List.drop_zero,h1]
 simp only
 rw[Nat.zero_add,List.drop_left]
 exact hs _ _ _ (by omega)
theorem Lx.free{u:List UInt8}(n1:1<=u.length)(hst:∀s,wX (u++s))(hw:∀s a,∃t',jo (u++s) a = .inl (t',u.length)){s:List UInt8}(hs:Lx s):Lx (u++s):=by
 intro f a l hf
 obtain⟨g,rfl⟩:∃g,f=g+1:=⟨f-1,by omega⟩
 obtain⟨t',h1⟩:=hw s (a+0)
 have hk:=az (hst s) (u++s).length 0
 simp only[List.length_append]at hf
 simp only[wy,hk]
 rw[if_neg (by simp only[List.length_append];omega),List.drop_zero,h1]
 simp only
 rw[Nat.zero_add,List.drop_left]
 exact hs _ _ _ (by omega)
def aQ(u:List UInt8):Prop:=∀s,Lx s->Lx (u++s)
def iT(u:List UInt8):Prop:=∀s,Lx s->Dl s->Lx (u++s)
def CP(u:List UInt8):Prop:=∃c q,u=c::q/\du c=false
theorem aQ.nil:aQ []:=fun s h=>h
theorem aQ.app{u v:List UInt8}(h:aQ u)(k:aQ v):aQ (u++v):=fun s hs=>by rw[List.append_assoc];exact h _ (k s hs)
theorem aQ.t{u:List UInt8}(h:aQ u):iT u:=fun s hs _=>h s hs
theorem iT.app{u v:List UInt8}(h:iT u)(k:aQ v)(hv:CP v):aQ (u++v):=fun s hs=>by
 rw[List.append_assoc]
 obtain⟨c,q,rfl,hc⟩:=hv
 exact h _ (k s hs) (.inr ⟨c,q++s,rfl,hc⟩)
theorem aQ.Lk{u v:List UInt8}(h:aQ u)(k:iT v):iT (u++v):=fun s hs hd=>by rw[List.append_assoc];exact h _ (k s hs hd)
theorem iT.Lk{u v:List UInt8}(h:iT u)(k:iT v)(hv:CP v):iT (u++v):=fun s hs hd=>by
 rw[List.append_assoc]
 obtain⟨c,q,rfl,hc⟩:=hv
 exact h _ (k s hs hd) (.inr ⟨c,q++s,rfl,hc⟩)
theorem aw{c:UInt8}(h:Ea c=true):aQ [c]:=fun s hs=>hs.sp h
theorem ar{c:UInt8}(h:eD.contains c=true):aQ [c]:=fun s hs=>
 hs.free (by simp) (fun s => .inr ⟨c,s,rfl,qE h⟩) fun s a=>⟨_,lZ h s a⟩
theorem qb{t:List UInt8}(h:xD t):aQ (pQ t):=fun s hs=>by
 have hh:∃c q,pQ t=c::q/\Ea c=false/\c≠35/\c≠47:=by
  unfold pQ
  split
  ·exact⟨39,t++[39],by simp,by decide,by decide,by decide⟩
  ·exact⟨34,t++[34],by simp,by decide,by decide,by decide⟩
 obtain⟨c,q,e,hc⟩:=hh
 exact hs.free (by rw[e];simp) (fun s => .inr ⟨c,q++s,by rw[e];rfl,hc⟩) fun s a=>⟨_,l4 h.1 h.2 s a⟩
theorem aq{w:List UInt8}(h:eb w):iT w:=fun s hs hd=>hs.word (t:=⟨1,w,0,0,0⟩) (.inl ⟨w,0,rfl,h⟩) hd
theorem pv{n:Int}(h:Kc n):iT (js n):=fun s hs hd=>hs.word (t:=⟨2,[],n,0,0⟩) (.inr (.inl ⟨n,0,rfl,h.1,h.2⟩)) hd
theorem At{d:Nat}(h:mW d):iT (qC d):=fun s hs hd=>hs.word (t:=⟨3,[],0,d,0⟩) (.inr (.inr (.inl ⟨d,0,rfl,h⟩))) hd
end Go.Dn.Dec
namespace Go.Dn.Dec
set_option linter.unusedVariables false
set_option linter.unusedSimpArgs false
set_option exponentiation.threshold 5000000
theorem zn(neg:Bool)(v:Nat)(h:v<2047*2^52):mW (qD neg v):=by
 unfold qD mW
 split
 ·have e:v ||| 2^63=1*2^63+v:=by
   rw[Nat.or_comm]
   have:=Nat.shiftLeft_add_eq_or_of_lt (a:=1) (b:=v) (i:=63) (by omega)
   rw[Nat.shiftLeft_eq,Nat.one_mul]at this
   rw[Nat.one_mul]
   exact this.symm
  rw[e]
  omega
 ·omega
theorem vZ{s:List UInt8}(h:(dc s).2=0):mW (dc s).1:=by
 unfold dc at h⊢
 split at h
 ·cases h
 rename_i h1
 rw[if_neg h1]
 split at h
 ·cases h
 rename_i h2
 rw[if_neg h2]
 split at h
 ·cases h
 rename_i h3
 rw[if_neg h3]
 have hy:∀(m:Int) (x:Nat),0<(gf m x).2:=by
  intro m x
  unfold gf
  split
  ·exact Nat.one_pos
  ·exact Nat.pow_pos (by decide)
 generalize hr:gf ((kC (splitB s).1).1-(splitB s).1.part.length) (cy ((splitB s).1.whole++(splitB s).1.part))=r at h⊢
 obtain⟨v,_,hv⟩:=Ab r.1 r.2 (by rw[<-hr];exact hy _ _)
 dsimp only at h⊢
 rw[hv]at h⊢
 unfold wb at h⊢
 split at h
 ·rename_i hlt
  rw[if_pos hlt]
  exact zn _ _ hlt
 ·cases h
theorem fx{r:List UInt8}{n a m:Nat}{t t':Tok}(h:nX r n a t = .inl (t',m)):t'=t:=by
 unfold nX at h
 split at h
 ·injection h with h;injection h with h;exact h.symm
 ·split at h
  ·cases h
  ·injection h with h;injection h with h;exact h.symm
theorem xK{r:List UInt8}{a n:Nat}{t:Tok}(h:wk r a = .inl (t,n)):kV t:=by
 unfold wk at h
 dsimp only at h
 split at h
 ·cases h
 split at h
 ·cases h
 rename_i h2
 have:=fx h
 subst this
 refine .inr (.inl ⟨_,_,rfl,by omega,by omega⟩)
theorem sW{b:Bool}{v:Nat}(h:¬(eE b v).2=false):-9223372036854775808<=(eE b v).1/\(eE b v).1<=9223372036854775807:=by
 unfold eE at h⊢
 split at h
 ·rename_i hb
  rw[if_pos hb]
  simp only[decide_eq_false_iff_not,Decidable.not_not]at h
  omega
 ·rename_i hb
  rw[if_neg hb]
  simp only[decide_eq_false_iff_not,Decidable.not_not]at h
  omega
theorem yA{r:List UInt8}{a n:Nat}{t:Tok}(h:wH r a = .inl (t,n)):kV t:=by
 unfold wH at h
 dsimp only at h
 split at h
 ·exact xK h
 split at h
 ·cases h
 split at h
 ·split at h
  ·cases h
  split at h
  ·cases h
  rename_i h4
  have:=fx h
  subst this
  exact .inr (.inl ⟨_,_,rfl,sW h4⟩)
 ·split at h
  ·cases h
  rename_i h4
  have:=fx h
  subst this
  exact .inr (.inr (.inl ⟨_,_,rfl,vZ (by omega)⟩))
theorem sF{p:UInt8->Bool}:∀{l:List UInt8} {c:UInt8},c∈l.takeWhile p->p c=true
 |a::l,c,h=>by
  rw[List.takeWhile_cons]at h
  split at h
  ·rename_i ha
   rcases List.mem_cons.1 h with rfl|h
   ·exact ha
   ·exact sF h
  ·cases h
theorem wo{q:UInt8}(hq:q=34\/q=39){r:List UInt8}{a n:Nat}{t:Tok}(h:qL q r a = .inl (t,n)):kV t:=by
 unfold qL at h
 dsimp only at h
 split at h
 ·cases h
 rename_i h1
 injection h with h;injection h with h
 subst h
 have hc:(r.takeWhile (· != q)).contains q=false:=by
  cases e:(r.takeWhile (· != q)).contains q with
  |false=>rfl
  |true=>
   have:=sF (List.contains_iff_mem.1 e)
   simp at this
 refine .inr (.inr (.inr (.inl ⟨_,_,rfl,?_,?_⟩)))
 ·cases e:(r.takeWhile (· != q)).contains 10 with
  |false=>rfl
  |true=>exact absurd (.inr e) h1
 ·rcases hq with rfl|rfl
  ·exact .inl hc
  ·exact .inr hc
theorem vv{c:UInt8}{q:List UInt8}(hc:ns c=true){a n:Nat}{t:Tok}(h:uP (c::q) a = .inl (t,n)):kV t:=by
 unfold uP at h
 dsimp only at h
 split at h
 ·cases h
 rename_i h1
 split at h
 ·cases h
 rename_i h2
 injection h with h;injection h with h
 subst h
 have hn:du c=true:=by unfold du;rw[hc];rfl
 refine .inl ⟨_,_,rfl,⟨c,q.takeWhile du,by rw[List.takeWhile_cons,if_pos hn],hc⟩,fun c hc=>sF hc,by omega,fun h=>h2 (.inl h),?_⟩
 cases e:mw ((c::q).takeWhile du) with
 |false=>rfl
 |true=>exact absurd (.inr e) h2
theorem wv{r:List UInt8}{a n:Nat}{t:Tok}(h:jo r a = .inl (t,n)):kV t:=by
 unfold jo at h
 split at h
 ·cases h
 rename_i c q
 split at h
 ·rename_i hc;exact vv hc h
 split at h
 ·exact yA h
 split at h
 ·rename_i hq;exact wo hq h
 split at h
 ·rename_i hs
  injection h with h;injection h with h
  subst h
  exact .inr (.inr (.inr (.inr ⟨c,a,rfl,hs⟩)))
 ·cases h
theorem A2{r:List UInt8}{a n:Nat}{t:Tok}(h:wH r a = .inl (t,n)):t.text=[]:=by
 unfold wH at h
 dsimp only at h
 split at h
 ·unfold wk at h
  dsimp only at h
  split at h
  ·cases h
  split at h
  ·cases h
  rw[fx h]
 split at h
 ·cases h
 split at h
 ·split at h
  ·cases h
  split at h
  ·cases h
  rw[fx h]
 ·split at h
  ·cases h
  rw[fx h]
theorem zG{r:List UInt8}{a n:Nat}{t:Tok}(h:jo r a = .inl (t,n)):t.text.length<=r.length:=by
 unfold jo at h
 split at h
 ·cases h
 rename_i c q
 split at h
 ·unfold uP at h
  dsimp only at h
  split at h
  ·cases h
  split at h
  ·cases h
  injection h with h;injection h with h
  subst h
  exact fe _ _
 split at h
 ·rw[A2 h];exact Nat.zero_le _
 split at h
 ·unfold qL at h
  dsimp only at h
  split at h
  ·cases h
  injection h with h;injection h with h
  subst h
  exact Nat.le_trans (fe _ _) (Nat.le_succ _)
 split at h
 ·injection h with h;injection h with h
  subst h
  exact Nat.succ_le_succ (Nat.zero_le _)
 ·cases h
theorem nc(N:Nat):∀(f:Nat) (r:List UInt8) (a:Nat) (l:List Tok),r.length<=N->(∀t∈l,kV t/\t.text.length<=N)->∀t∈(wy f r a l).1,(kV t/\t.text.length<=N)\/t.kind=6
 |0,_,_,_,_,_,t,ht=>by cases ht
 |f+1,r,a,l,hr,hl,t,ht=>by
  simp only[wy]at ht
  split at ht
  ·cases ht
  rename_i k hk
  split at ht
  ·rcases List.mem_append.1 ht with ht|ht
   ·exact .inl (hl t ht)
   ·rw[List.mem_singleton.1 ht];exact .inr rfl
  ·split at ht
   ·cases ht
   ·rename_i t' n hw
    refine nc N f _ _ _ (by rw[List.length_drop];omega) ?_ t ht
    intro x hx
    rcases List.mem_append.1 hx with hx|hx
    ·exact hl x hx
    ·rw[List.mem_singleton.1 hx]
     have:=zG hw
     rw[List.length_drop]at this
     exact⟨wv hw,by omega⟩
theorem xM(s:List UInt8):(∃W e,lexB s=(W++[⟨6,[],0,0,e⟩],0,0)/\∀t∈W,kV t/\t.text.length<=2000)\/∃e w,lexB s=([],e,w)/\e≠0:=by
 rcases AI s with⟨l,hg,h⟩|⟨e,w,h,he,_⟩
 ·refine .inl ⟨l,_,h,fun t ht=>?_⟩
  have h1:t∈(lexB s).1:=by rw[h];exact List.mem_append_left _ ht
  unfold lexB at h1
  split at h1
  ·cases h1
  ·rcases nc 2000 _ _ _ _ (by omega) (fun t h=>by cases h) t h1 with h2|h2
   ·exact h2
   ·exact absurd h2 (hg.1 t ht).1
 ·exact .inr ⟨e,w,h,he⟩
theorem BZ{s:List UInt8}(h:Lx s){e:Int}{w:Nat}(h1:lexB s=([],e,w))(he:e≠0):e=4:=by
 unfold lexB at h1
 split at h1
 ·injection h1 with _ h1;injection h1 with h1;exact h1.symm
 ·have:=h (s.length+1) 0 [] (by omega)
  rw[h1]at this
  injection this with this _
  exact absurd this he
end Go.Dn.Dec
namespace Go.Dn.Dec
open Go.Proofs
def jb(s:List UInt8)(a:Nat)(w:Int)(L:List Tok)(r:Cz)(o:Option Out):Prop:=
 match r with
 | .inr (e,w')=>e≠0/\∃(x:Int) (b:Bool) (L':List Tok),o=some (.t [],[bo s x e (w':Int) b (cF L')])
 | .inl (t,n)=>o=some (.t [],[bo s ((a+n:Nat):Int) 0 w false (cF (L++[t]))])
theorem El(s:List UInt8)(a n:Nat)(t:Tok):nX (s.drop a) n a t=if nW s (a+n)=true then .inr (2,a+n)else .inl (t,n):=by
 unfold nX nW
 rw[List.drop_drop]
 cases h:s.drop (a+n) with
 |nil=>rfl
 |cons c q=>rfl
def wD(r:List UInt8):Bool:=!aG (r.getD 0 0)&&(!(r.getD 0 0==46&&aG (r.getD 1 0)))
theorem yy(r:List UInt8):(wD r=true)↔(r.takeWhile aG=[]/\cH r=0):=by
 have h0:aG 0=false:=by decide
 unfold wD
 rw[qZ]
 have hd:=vT r 0
 rw[List.drop_zero]at hd
 cases h1:aG (r.getD 0 0) with
 |true=>
  have:=hd.1 h1
  simp[this]
 |false=>
  have hn:r.takeWhile aG=[]:=by
   rcases Classical.em (r.takeWhile aG=[])with h|h
   ·exact h
   ·have:=hd.2 h;rw[h1]at this;cases this
  rw[hn]
  clear hd h1 hn
  generalize r.getD 0 0=x
  generalize aG (r.getD 1 0)=y
  by_cases h46:x=46<;>cases y<;>simp[h46]
theorem HF(s:List UInt8)(a:Nat)(ha:a<=10000)(w:Int)(b:Bool)(l:List D):
  rk Tryz.prog aE (Task.at_ 92 1 [true,false,true] (sv 192 [(0,V.p 0 0),(2,V.d (D.i .i64 (a:Int))),(42,V.d (D.b true))]) [] [bo s (a:Int) 0 w b l])=
   rk Tryz.prog aE (Task.at_ 92 1 [true,false,true,true] (sv 192 [(0,V.p 0 0),(2,V.d (D.i .i64 (a:Int))),(103,V.d (D.b (wD (s.drop (a+1)))))]) [] [bo s ((a+1:Nat):Int) 0 w b l]):=by
 have hp0:rk Tryz.prog aE (Task.call 86 [V.p 0 0,V.d (D.i .i64 0)] [bo s ((a+1:Nat):Int) 0 w b l])=_:=fR s (a+1) 0 0 w b l (by omega)
 have hp1:rk Tryz.prog aE (Task.call 86 [V.p 0 0,V.d (D.i .i64 1)] [bo s ((a+1:Nat):Int) 0 w b l])=_:=fR s (a+1) 1 0 w b l (by omega)
 have hg0:=gk ((s.drop (a+1)).getD 0 0)
 have hg1:=gk ((s.drop (a+1)).getD 1 0)
 have e46:((((s.drop (a+1)).getD 0 0).toNat:Int)==46)=((s.drop (a+1)).getD 0 0==46):=bG _ 46
 have w1:IntKind.i64.wrap ((a:Int)+1)=((a+1:Nat):Int):=by rw[wrap_i64]<;>omega
 unfold wD
 unfold bo at hp0 hp1⊢
 rw[oW,bk,w1,cr hp0 (by rfl) (by rfl),dh hg0]
 cases h0:aG ((s.drop (a+1)).getD 0 0) with
 |true=>rw[jP,aA,Bool.not_true,Bool.false_and]
 |false=>
  rw[iL,cr hp0 (by rfl) (by rfl),e46]
  cases h1:((s.drop (a+1)).getD 0 0==46) with
  |false=>rw[aY,aA];rfl
  |true=>rw[bk,cr hp1 (by rfl) (by rfl),dh hg1,aA];rfl
theorem HI(s:List UInt8)(u a:Nat)(hu:u<=10000)(w:Int)(b:Bool)(l:List D):
  rk Tryz.prog aE (Task.at_ 92 1 [true,true,true,false,true] (sv 192 [(0,V.p 0 0),(2,V.d (D.i .i64 (a:Int))),(77,V.d (D.b false))]) [] [bo s (u:Int) 0 w b l])=
   rk Tryz.prog aE (Task.at_ 92 1 [true,false,true,true] (sv 192 [(0,V.p 0 0),(2,V.d (D.i .i64 (a:Int))),(103,V.d (D.b (wD (s.drop u))))]) [] [bo s (u:Int) 0 w b l]):=by
 have hp0:rk Tryz.prog aE (Task.call 86 [V.p 0 0,V.d (D.i .i64 0)] [bo s (u:Int) 0 w b l])=_:=fR s u 0 0 w b l (by omega)
 have hp1:rk Tryz.prog aE (Task.call 86 [V.p 0 0,V.d (D.i .i64 1)] [bo s (u:Int) 0 w b l])=_:=fR s u 1 0 w b l (by omega)
 have hg0:=gk ((s.drop u).getD 0 0)
 have hg1:=gk ((s.drop u).getD 1 0)
 have e46:((((s.drop u).getD 0 0).toNat:Int)==46)=((s.drop u).getD 0 0==46):=bG _ 46
 unfold wD
 unfold bo at hp0 hp1⊢
 rw[nK,aY,cr hp0 (by rfl) (by rfl),dh hg0]
 cases h0:aG ((s.drop u).getD 0 0) with
 |true=>rw[jP,aA,Bool.not_true,Bool.false_and]
 |false=>
  rw[iL,cr hp0 (by rfl) (by rfl),e46]
  cases h1:((s.drop u).getD 0 0==46) with
  |false=>rw[aY,aA];rfl
  |true=>rw[bk,cr hp1 (by rfl) (by rfl),dh hg1,aA];rfl
theorem p7(s:List UInt8)(a n:Nat)(w:Int)(L:List Tok)(T:Tok):jb s a w L (nX (s.drop a) n a T) (some (.t [],[na s (a+n) 0 w L T])):=by
 rw[El]
 unfold na
 cases h:nW s (a+n) with
 |true=>exact⟨by decide,_,_,_,rfl⟩
 |false=>rfl
theorem j5(s:List UInt8)(a x w':Nat)(e w:Int)(he:e≠0)(L:List Tok)(T:Tok):jb s a w L (.inr (e,w')) (some (.t [],[na s x e (w':Int) L T])):=by
 unfold na
 cases h:nW s x with
 |true=>rw[if_pos rfl,if_neg he,if_neg he];exact⟨he,_,_,_,rfl⟩
 |false=>exact⟨he,_,_,_,rfl⟩
theorem HG(s:List UInt8)(a sg:Nat)(hs:s.length<=10000)(hsg:(s.drop a).take sg=[]\/(s.drop a).take sg=[43]\/(s.drop a).take sg=[45])(hsl:sg=((s.drop a).take sg).length)
    (hnd:wD (s.drop (a+sg))=false) (ha:a+sg<=s.length) (w:Int) (b:Bool) (L:List Tok) (hL:L.length<=100000):
    jb s a w L
      (let u:=s.drop (a+sg)
       let ds:=u.takeWhile aG
       let fa:=cH (u.drop ds.length)
       let fb:=dP (u.drop (ds.length+fa))
       let n:=sg+(ds.length+(fa+fb))
       if fa=0/\fb=0 then
         let v:=eE ((s.drop a).head?==some 45) (cy ds)
         if 60<ds.length then .inr (4,a)
         else if v.2=false then .inr (5,a)
         else nX (s.drop a) n a ⟨2,[],v.1,0,a⟩
       else
         let p:=dc ((s.drop a).take n)
         if p.2≠0 then .inr (p.2,a)else nX (s.drop a) n a ⟨3,[],0,p.1,a⟩)
      (rk Tryz.prog aE (Task.at_ 92 1 [true,false,true,true] (sv 192 [(0,V.p 0 0),(2,V.d (D.i .i64 (a:Int))),(103,V.d (D.b false))]) [] [bo s ((a+sg:Nat):Int) 0 w b (cF L)])):=by
  have hr:=lN s (a+sg) ha (by omega) 0 w b (cF L)
  have hself:=gb (s.drop (a+sg)) aG
  have hall:=oX aG (s.drop (a+sg))
  have hle:=fe (s.drop (a+sg)) aG
  rw[List.length_drop]at hle
  have hnd':¬((s.drop (a+sg)).takeWhile aG=[]/\cH (s.drop (a+sg))=0):=fun h=>by
    have:=(yy _).2 h;rw[hnd]at this;cases this
  simp only
  generalize hds:(s.drop (a+sg)).takeWhile aG=ds at *
  have htl:=JO s (a+sg+ds.length) (by omega) hs 0 w b (cF L)
  have hdd:s.drop (a+sg+ds.length)=(s.drop (a+sg)).drop ds.length:=by rw[List.drop_drop]
  have hdd2:(s.drop (a+sg+ds.length)).drop (cH (s.drop (a+sg+ds.length)))=(s.drop (a+sg)).drop (ds.length+cH ((s.drop (a+sg)).drop ds.length)):=by
    rw[hdd,List.drop_drop]
  rw[hdd2,hdd]at htl
  have hxl:a+sg+ds.length+(cH ((s.drop (a+sg)).drop ds.length)+dP ((s.drop (a+sg)).drop (ds.length+cH ((s.drop (a+sg)).drop ds.length))))<=s.length:=by
    have h2:=se ((s.drop (a+sg)).drop ds.length)
    have h3:=vY ((s.drop (a+sg)).drop (ds.length+cH ((s.drop (a+sg)).drop ds.length)))
    rw[List.length_drop,List.length_drop]at h2 h3
    omega
  generalize hfa:cH ((s.drop (a+sg)).drop ds.length)=fa at *
  generalize hfb:dP ((s.drop (a+sg)).drop (ds.length+fa))=fb at *
  have ex:a+sg+ds.length+(fa+fb)=a+(sg+(ds.length+(fa+fb))):=by omega
  rw[ex]at htl hxl
  have hcut:List.take ((((a+(sg+(ds.length+(fa+fb))):Nat):Int)).toNat-(a:Int).toNat) (List.drop (a:Int).toNat s)=(s.drop a).take (sg+(ds.length+(fa+fb))):=by
    rw[Int.toNat_natCast,Int.toNat_natCast,Nat.add_sub_cancel_left]
  have hwr:IntKind.i64.wrap (((a+sg+ds.length:Nat):Int)-((a+sg:Nat):Int))=(ds.length:Int):=by rw[wrap_i64]<;>omega
  by_cases hd:fa=0/\fb=0
  · rw [if_pos hd]
    obtain⟨rfl,rfl⟩:=hd
    rw[decide_eq_false (by simp)]at htl
    rw[Nat.add_zero,Nat.add_zero]at *
    have htk:(s.drop a).take (sg+ds.length)=(s.drop a).take sg++ds:=by
      rw[List.take_add,List.drop_drop,<-hself]
    have hds0:ds≠[]:=by
      intro e
      apply hnd'
      refine⟨e,?_⟩
      have:=hfa
      rw[e]at this
      exact this
    have hne:(s.drop a).take sg++ds≠[]:=by simp[hds0]
    have hh:((s.drop a).take sg++ds).head?=(s.drop a).head?:=by
      rw[<-htk]
      have:sg+ds.length≠0:=by have:=List.length_pos_iff.2 hds0;omega
      rw[List.head?_take,if_neg this]
    obtain⟨N,hW,hN⟩:=Ik ((s.drop a).take sg) ds hsg (fun c h=>List.all_eq_true.1 hall c h) hne (by rw[<-htk,List.length_take,List.length_drop];omega)
    rw[hh]at hW hN
    rw[<-htk]at hW
    generalize hv:eE ((s.drop a).head?==some 45) (cy ds)=v at *
    have h4:=fK s ((a+(sg+ds.length):Nat):Int) 0 w 4 (a:Int) b (cF L)
    rw[if_pos rfl,if_pos rfl]at h4
    by_cases h60:60<ds.length
    · rw [if_pos h60]
      have hI:=B0 s (a+(sg+ds.length)) a N v.2 (by omega) 4 (a:Int) b L hL
      have e1:(if v.2=true then(4:Int)else if (4:Int)=0 then 5 else 4)=4:=by split<;>rfl
      have e2:(if v.2=true then(a:Int)else if (4:Int)=0 then(a:Int) else(a:Int))=(a:Int):=by split<;>rfl
      rw[e1,e2]at hI
      have hgo:rk Tryz.prog aE (Task.at_ 92 1 [true,false,true,true] (sv 192 [(0,V.p 0 0),(2,V.d (D.i .i64 (a:Int))),(103,V.d (D.b false))]) [] [bo s ((a+sg:Nat):Int) 0 w b (cF L)])=
          some (.t [],[na s (a+(sg+ds.length)) 4 (a:Int) L ⟨2,[],N,0,a⟩]):=by
        rw[<-hI]
        unfold Gm
        unfold bo at hr htl h4⊢
        rw[lP,aY,aJ (a:=V.d (D.i .i64 ((a+sg:Nat):Int))) (by rfl),bj,bL,dz hr (by rfl) (by rfl),aJ (a:=V.d (D.i .i64 ((a+sg+ds.length:Nat):Int))) (by rfl),bj,bL,
          gB htl (by rfl) (by rfl),aJ (a:=V.d (D.s s)) (by rfl),bj,fU,aJ (a:=V.d (D.i .i64 ((a+(sg+ds.length):Nat):Int))) (by rfl),bj,bL,aH (by omega),aH (by omega),iL,
          hcut,vC hW,hwr,bf (by omega),dz h4 (by rfl) (by rfl),aA]
        rfl
      rw[hgo]
      exact j5 s a _ a 4 w (by decide) L _
    · rw [if_neg h60]
      have hI:=B0 s (a+(sg+ds.length)) a N v.2 (by omega) 0 w b L hL
      have hgo:rk Tryz.prog aE (Task.at_ 92 1 [true,false,true,true] (sv 192 [(0,V.p 0 0),(2,V.d (D.i .i64 (a:Int))),(103,V.d (D.b false))]) [] [bo s ((a+sg:Nat):Int) 0 w b (cF L)])=
          some (.t [],[na s (a+(sg+ds.length)) (if v.2=true then 0 else if (0:Int)=0 then 5 else 0) (if v.2=true then w else if (0:Int)=0 then(a:Int)else w) L ⟨2,[],N,0,a⟩]):=by
        rw[<-hI]
        unfold Gm
        unfold bo at hr htl⊢
        rw[lP,aY,aJ (a:=V.d (D.i .i64 ((a+sg:Nat):Int))) (by rfl),bj,bL,dz hr (by rfl) (by rfl),aJ (a:=V.d (D.i .i64 ((a+sg+ds.length:Nat):Int))) (by rfl),bj,bL,
          gB htl (by rfl) (by rfl),aJ (a:=V.d (D.s s)) (by rfl),bj,fU,aJ (a:=V.d (D.i .i64 ((a+(sg+ds.length):Nat):Int))) (by rfl),bj,bL,aH (by omega),aH (by omega),iL,
          hcut,vC hW,hwr,bc (by omega),aA]
        rfl
      rw[hgo]
      cases hv2:v.2 with
      |false=>exact j5 s a _ a 5 w (by decide) L _
      |true=>
        rw[hN hv2]
        exact p7 s a _ w L _
  · rw [if_neg hd]
    have hdd3:decide (fa≠0\/fb≠0)=true:=decide_eq_true (by omega)
    rw[hdd3]at htl
    generalize hn:sg+(ds.length+(fa+fb))=n at *
    have hps:=HL ((s.drop a).take n) (by rw[List.length_take,List.length_drop];omega)
    generalize dc ((s.drop a).take n)=p at *
    by_cases hp:p.2≠0
    · rw [if_pos hp]
      have hf:=fK s ((a+n:Nat):Int) 0 w p.2 (a:Int) b (cF L)
      rw[if_pos rfl,if_pos rfl]at hf
      have hI:=BX s (a+n) a p.1 (by omega) p.2 (a:Int) b L hL
      have hgo:rk Tryz.prog aE (Task.at_ 92 1 [true,false,true,true] (sv 192 [(0,V.p 0 0),(2,V.d (D.i .i64 (a:Int))),(103,V.d (D.b false))]) [] [bo s ((a+sg:Nat):Int) 0 w b (cF L)])=
          some (.t [],[na s (a+n) p.2 (a:Int) L ⟨3,[],0,p.1,a⟩]):=by
        rw[<-hI]
        unfold Gm
        unfold bo at hr htl hf⊢
        rw[lP,aY,aJ (a:=V.d (D.i .i64 ((a+sg:Nat):Int))) (by rfl),bj,bL,dz hr (by rfl) (by rfl),aJ (a:=V.d (D.i .i64 ((a+sg+ds.length:Nat):Int))) (by rfl),bj,bL,
          gB htl (by rfl) (by rfl),aJ (a:=V.d (D.s s)) (by rfl),bj,fU,aJ (a:=V.d (D.i .i64 ((a+n:Nat):Int))) (by rfl),bj,bL,aH (by omega),aH (by omega),jP,
          hcut,qG hps,jl hp,dz hf (by rfl) (by rfl),aA]
        rfl
      rw[hgo]
      exact j5 s a _ a p.2 w hp L _
    · rw [if_neg hp]
      have hp0:p.2=0:=by omega
      have hI:=BX s (a+n) a p.1 (by omega) 0 w b L hL
      have hgo:rk Tryz.prog aE (Task.at_ 92 1 [true,false,true,true] (sv 192 [(0,V.p 0 0),(2,V.d (D.i .i64 (a:Int))),(103,V.d (D.b false))]) [] [bo s ((a+sg:Nat):Int) 0 w b (cF L)])=
          some (.t [],[na s (a+n) 0 w L ⟨3,[],0,p.1,a⟩]):=by
        rw[<-hI]
        unfold Gm
        unfold bo at hr htl⊢
        rw[lP,aY,aJ (a:=V.d (D.i .i64 ((a+sg:Nat):Int))) (by rfl),bj,bL,dz hr (by rfl) (by rfl),aJ (a:=V.d (D.i .i64 ((a+sg+ds.length:Nat):Int))) (by rfl),bj,bL,
          gB htl (by rfl) (by rfl),aJ (a:=V.d (D.s s)) (by rfl),bj,fU,aJ (a:=V.d (D.i .i64 ((a+n:Nat):Int))) (by rfl),bj,bL,aH (by omega),aH (by omega),jP,
          hcut,qG hps,eM hp0,aA]
        rfl
      rw[hgo]
      exact p7 s a n w L _
end Go.Dn.Dec
namespace Go.Dn.Dec
open Go.Proofs
theorem HH(s:List UInt8)(a:Nat)(x w:Int)(b:Bool)(L:List Tok):
  jb s a w L (.inr (2,a)) (rk Tryz.prog aE (Task.at_ 92 1 [true,false,true,true] (sv 192 [(0,V.p 0 0),(2,V.d (D.i .i64 (a:Int))),(103,V.d (D.b true))]) [] [bo s x 0 w b (cF L)])):=by
 have hf:=fK s x 0 w 2 (a:Int) b (cF L)
 rw[if_pos rfl,if_pos rfl]at hf
 refine⟨by decide,x,b,L,?_⟩
 unfold bo at hf⊢
 rw[lP,bk,dz hf (by rfl) (by rfl),aD]
def yE(r:List UInt8)(sg a:Nat):Cz:=
 let u:=r.drop sg
 if u.takeWhile aG=[]/\cH u=0 then .inr (2,a)
 else
  let ds:=u.takeWhile aG
  let fa:=cH (u.drop ds.length)
  let fb:=dP (u.drop (ds.length+fa))
  let n:=sg+(ds.length+(fa+fb))
  if fa=0/\fb=0 then
   let v:=eE (r.head?==some 45) (cy ds)
   if 60<ds.length then .inr (4,a)
   else if v.2=false then .inr (5,a)
   else nX r n a ⟨2,[],v.1,0,a⟩
  else
   let p:=dc (r.take n)
   if p.2≠0 then .inr (p.2,a)else nX r n a ⟨3,[],0,p.1,a⟩
theorem wI(r:List UInt8)(a:Nat):wH r a=
  if fu r=0/\r.head?=some 48/\(r.drop 1).head?=some 120/\((r.drop 2).takeWhile cX)≠[]then wk r a else yE r (fu r) a:=rfl
theorem Fs(s:List UInt8)(a sg:Nat)(hs:s.length<=10000)(hsg:(s.drop a).take sg=[]\/(s.drop a).take sg=[43]\/(s.drop a).take sg=[45])(hsl:sg=((s.drop a).take sg).length)
  (ha:a+sg<=s.length) (w:Int) (b:Bool) (L:List Tok) (hL:L.length<=100000):
  jb s a w L (yE (s.drop a) sg a)
   (rk Tryz.prog aE (Task.at_ 92 1 [true,false,true,true] (sv 192 [(0,V.p 0 0),(2,V.d (D.i .i64 (a:Int))),(103,V.d (D.b (wD (s.drop (a+sg)))))]) [] [bo s ((a+sg:Nat):Int) 0 w b (cF L)])):=by
 cases h:wD (s.drop (a+sg)) with
 |true=>
  have:=(yy _).1 h
  unfold yE
  simp only
  rw[List.drop_drop,if_pos this]
  exact HH s a _ w b L
 |false=>
  have hn:¬((s.drop (a+sg)).takeWhile aG=[]/\cH (s.drop (a+sg))=0):=fun e=>by have:=(yy _).2 e;rw[h]at this;cases this
  have:=HG s a sg hs hsg hsl h ha w b L hL
  unfold yE
  simp only at this⊢
  rw[List.drop_drop,if_neg hn]
  exact this
theorem Jf(t:List UInt8)(k:Nat):cX (t.getD k 0)=true↔(t.drop k).takeWhile cX≠[]:=by
 have h0:cX 0=false:=by decide
 have hh:t.getD k 0=(t.drop k).getD 0 0:=by
  rw[List.getD_eq_getElem?_getD,List.getD_eq_getElem?_getD,List.getElem?_drop,Nat.add_zero]
 rw[hh]
 cases t.drop k with
 |nil=>simp[h0]
 |cons c q=>
  show cX c=true↔_
  rw[List.takeWhile_cons]
  cases cX c<;>simp
theorem Jg(s:List UInt8)(a y:Nat)(w:Int)(b:Bool)(L:List Tok)(T:Tok)(er ew:Int)(hy:y<=1000000)
  (h1:rk Tryz.prog aE (Task.call 140 [V.p 0 0,V.d (D.i .i64 (a:Int))] [bo s a 0 w b (cF L)])=some (.t [],[bo s (y:Int) er ew false (cF (L++[T]))])):
  rk Tryz.prog aE (Task.at_ 92 1 [true,true,true,false,true] (sv 192 [(0,V.p 0 0),(2,V.d (D.i .i64 (a:Int))),(77,V.d (D.b true))]) [] [bo s (a:Int) 0 w b (cF L)])=
   some (.t [],[na s y er ew L T]):=by
 have hb:=xv s y er ew false (cF (L++[T])) hy
 unfold na
 cases hB:nW s y with
 |true=>
  rw[hB,if_pos rfl]at hb
  rw[if_pos rfl]
  unfold bo at h1 hb⊢
  rw[nK,bk,dz h1 (by rfl) (by rfl),dz hb (by rfl) (by rfl),aD]
 |false=>
  rw[hB,if_neg (by decide)]at hb
  rw[if_neg (by decide)]
  unfold bo at h1 hb⊢
  rw[nK,bk,dz h1 (by rfl) (by rfl),dz hb (by rfl) (by rfl),aD]
theorem HJ(s:List UInt8)(a:Nat)(ha:a+2<=s.length)(hs:s.length<=10000)(w:Int)(b:Bool)(L:List Tok)(hL:L.length<=100000)(hne:((s.drop a).drop 2).takeWhile cX≠[]):
  jb s a w L (wk (s.drop a) a)
   (rk Tryz.prog aE (Task.at_ 92 1 [true,true,true,false,true] (sv 192 [(0,V.p 0 0),(2,V.d (D.i .i64 (a:Int))),(77,V.d (D.b true))]) [] [bo s (a:Int) 0 w b (cF L)])):=by
 rw[List.drop_drop]at hne
 obtain⟨T,h1,h2⟩:=Hm s a ha hs w b L hL hne
 have hle:=fe (s.drop (a+2)) cX
 rw[List.length_drop]at hle
 unfold wk
 rw[List.drop_drop]
 simp only at h1⊢
 generalize (s.drop (a+2)).takeWhile cX=h at *
 have hgo:=Jg s a (a+2+h.length) w b L T _ _ (by omega) h1
 rw[hgo]
 by_cases h16:16<h.length
 ·rw[if_pos h16,if_pos h16]
  exact j5 s a _ a 4 w (by decide) L T
 ·by_cases h63:2^63<=fN h
  ·rw[if_neg h16,if_pos h63,if_neg h16,if_pos h63]
   exact j5 s a _ a 5 w (by decide) L T
  ·rw[if_neg h16,if_neg h63,if_neg h16,if_neg h63,if_pos rfl,h2 h16 h63,Nat.add_assoc]
   exact p7 s a (2+h.length) w L _
theorem Fx(s:List UInt8)(a:Nat)(c:UInt8)(q:List UInt8)(hd:s.drop a=c::q)(hs:s.length<=10000)(w:Int)(b:Bool)(L:List Tok)(hL:L.length<=100000):
    jb s a w L (wH (s.drop a) a) (rk Tryz.prog aE (Task.call 92 [V.p 0 0] [bo s (a:Int) 0 w b (cF L)])):=by
  have hlen:(s.drop a).length=s.length-a:=List.length_drop ..
  rw[hd,List.length_cons]at hlen
  have g:bh s (a:Int)=some c:=by
    rw[bp]
    have:=congrArg List.head? hd
    rw[List.head?_drop]at this
    simpa using this
  have e43:((c.toNat:Int)==43)=(c==43):=bG c 43
  have e45:((c.toNat:Int)==45)=(c==45):=bG c 45
  have e48:((c.toNat:Int)==48)=(c==48):=bG c 48
  rw[wI]
  by_cases hsgn:c=43\/c=45
  · have hsg : fu (s.drop a) = 1 := by rw [hd]; exact if_pos hsgn
    rw[hsg,if_neg (by omega)]
    have ht:(s.drop a).take 1=[c]:=by rw[hd];rfl
    have hgo:rk Tryz.prog aE (Task.call 92 [V.p 0 0] [bo s (a:Int) 0 w b (cF L)])=
        rk Tryz.prog aE (Task.at_ 92 1 [true,false,true] (sv 192 [(0,V.p 0 0),(2,V.d (D.i .i64 (a:Int))),(42,V.d (D.b true))]) [] [bo s (a:Int) 0 w b (cF L)]):=by
      unfold bo
      rw[t47,aJ g,e43]
      rcases hsgn with rfl|rfl
      · rw[da (by rfl),aA]
      · rw[cj (by rfl),aJ g,e45,aA];rfl
    rw[hgo,HF s a (by omega) w b (cF L)]
    refine Fs s a 1 hs ?_ (by rw[ht];rfl) (by omega) w b L hL
    rw[ht]
    rcases hsgn with rfl|rfl
    · exact Or.inr (Or.inl rfl)
    · exact Or.inr (Or.inr rfl)
  · have hsg : fu (s.drop a) = 0 := by rw [hd]; exact if_neg hsgn
    have h43:(c==43)=false:=beq_eq_false_iff_ne.2 fun e=>hsgn (Or.inl e)
    have h45:(c==45)=false:=beq_eq_false_iff_ne.2 fun e=>hsgn (Or.inr e)
    have ht:(s.drop a).take 0=[]:=rfl
    rw[hsg]
    have hgo:rk Tryz.prog aE (Task.call 92 [V.p 0 0] [bo s (a:Int) 0 w b (cF L)])=
        rk Tryz.prog aE (Task.at_ 92 1 [true,false,true] (sv 192 [(0,V.p 0 0),(2,V.d (D.i .i64 (a:Int))),(42,V.d (D.b false))]) [] [bo s (a:Int) 0 w b (cF L)]):=by
      unfold bo
      rw[t47,aJ g,e43,cj h43,aJ g,e45,h45,aA]
    rw[hgo]
    have dec:∀bb:Bool,rk Tryz.prog aE (Task.at_ 92 1 [true,false,true] (sv 192 [(0,V.p 0 0),(2,V.d (D.i .i64 (a:Int))),(42,V.d (D.b false))]) [] [bo s (a:Int) 0 w b (cF L)])=
          rk Tryz.prog aE (Task.at_ 92 1 [true,true,true,false,true] (sv 192 [(0,V.p 0 0),(2,V.d (D.i .i64 (a:Int))),(77,V.d (D.b bb))]) [] [bo s (a:Int) 0 w b (cF L)])->
        (bb=true↔((s.drop a).head?=some 48/\((s.drop a).drop 1).head?=some 120/\(((s.drop a).drop 2).takeWhile cX)≠[]))->
        jb s a w L (if 0=0/\(s.drop a).head?=some 48/\((s.drop a).drop 1).head?=some 120/\(((s.drop a).drop 2).takeWhile cX)≠[]then wk (s.drop a) a else yE (s.drop a) 0 a)
          (rk Tryz.prog aE (Task.at_ 92 1 [true,false,true] (sv 192 [(0,V.p 0 0),(2,V.d (D.i .i64 (a:Int))),(42,V.d (D.b false))]) [] [bo s (a:Int) 0 w b (cF L)])):=by
      intro bb hg hb
      rw[hg]
      cases bb with
      |true=>
        have h:=hb.1 rfl
        rw[if_pos ⟨rfl,h⟩]
        refine HJ s a ?_ hs w b L hL h.2.2
        have h3:=h.2.2
        rcases Nat.lt_or_ge s.length (a+2)with hl|hl
        · rw[List.drop_drop,List.drop_eq_nil_of_le (by omega)]at h3;exact absurd rfl h3
        · exact hl
      |false=>
        rw[if_neg (fun h=>by have:=hb.2 h.2;cases this),HI s a a (by omega) w b (cF L)]
        exact Fs s a 0 hs (Or.inl ht) (by rw[ht];rfl) (by omega) w b L hL
    have hp1:rk Tryz.prog aE (Task.call 86 [V.p 0 0,V.d (D.i .i64 1)] [bo s (a:Int) 0 w b (cF L)])=_:=fR s a 1 0 w b (cF L) (by omega)
    have hp2:rk Tryz.prog aE (Task.call 86 [V.p 0 0,V.d (D.i .i64 2)] [bo s (a:Int) 0 w b (cF L)])=_:=fR s a 2 0 w b (cF L) (by omega)
    have hx:=Is ((s.drop a).getD 2 0)
    have e120:((((s.drop a).getD 1 0).toNat:Int)==120)=((s.drop a).getD 1 0==120):=bG _ 120
    have hh1:((s.drop a).drop 1).head?=some 120↔(s.drop a).getD 1 0=120:=by
      rw[List.head?_drop,List.getD_eq_getElem?_getD]
      cases h:(s.drop a)[1]? with
      |none=>simp
      |some d=>simp
    by_cases h48:c=48
    · have hh0 : (s.drop a).head? = some 48 := by rw [hd, h48]; rfl
      by_cases h120:(s.drop a).getD 1 0=120
      · refine dec (cX ((s.drop a).getD 2 0)) ?_ ?_
        · unfold bo at hp1 hp2 ⊢
          rw[oW,aY,aJ g,e48,da (by rw[h48];rfl),cr hp1 (by rfl) (by rfl),e120,da (beq_iff_eq.2 h120),cr hp2 (by rfl) (by rfl),dh hx,aA]
        · rw [Jf]
          exact⟨fun h=>⟨hh0,hh1.2 h120,h⟩,fun h=>h.2.2⟩
      · refine dec false ?_ ⟨fun h => (by cases h), fun h => absurd (hh1.1 h.2.1) h120⟩
        unfold bo at hp1⊢
        rw[oW,aY,aJ g,e48,da (by rw[h48];rfl),cr hp1 (by rfl) (by rfl),e120,cj (beq_eq_false_iff_ne.2 h120),aA]
    · refine dec false ?_ ⟨fun h => (by cases h), fun h => ?_⟩
      · unfold bo
        rw[oW,aY,aJ g,e48,cj (beq_eq_false_iff_ne.2 h48),aA]
      · rw [hd] at h
        exact absurd (Option.some.inj h.1) h48
end Go.Dn.Dec
namespace Go.Dn.Dec
open Go.Proofs
theorem BI:∀t:List UInt8,(cc [46,46] t).isSome=mw t
 | []=>rfl
 |c::r=>by
  have ih:=BI r
  have hp:([46,46]:List UInt8).isPrefixOf (c::r)=(c==46&&r.head?==some 46):=by
   cases r with
   |nil=>simp[List.isPrefixOf]
   |cons d r=>
    have e1:((46:UInt8)==c)=(c==46):=by rw[Bool.eq_iff_iff,beq_iff_eq,beq_iff_eq];exact eq_comm
    have e2:((46:UInt8)==d)=(some d==some (46:UInt8)):=by
     rw[Bool.eq_iff_iff,beq_iff_eq,beq_iff_eq]
     exact⟨fun h=>by rw[h],fun h=>(Option.some.inj h).symm⟩
    show ((46:UInt8)==c&&((46:UInt8)==d&&true))=_
    rw[Bool.and_true,e1,e2];rfl
  unfold cc mw
  rw[hp]
  cases h:(c==46&&r.head?==some 46) with
  |true=>rfl
  |false=>
   rw[if_neg (by decide),Bool.false_or,<-ih]
   cases cc [46,46] r<;>rfl
theorem Bg(t:List UInt8):([46]:List UInt8).isSuffixOf t=true↔t.getLast?=some 46:=by
 rw[List.isSuffixOf_iff_suffix]
 constructor
 ·rintro⟨p,rfl⟩
  simp
 ·intro h
  obtain⟨ne,he⟩:=List.getLast?_eq_some_iff.1 h
  exact⟨ne,he.symm⟩
theorem bad_eq(t:List UInt8):nV t=true↔(t.getLast?=some 46\/mw t=true):=by
 unfold nV
 rw[Bool.or_eq_true,Bg,BI]
theorem Ju(s:List UInt8)(a:Nat)(ha:a<=s.length)(hs:s.length<=10000)(w:Int)(b:Bool)(L:List Tok)(hL:L.length<=100000):
  jb s a w L (uP (s.drop a) a) (rk Tryz.prog aE (Task.call 90 [V.p 0 0] [bo s (a:Int) 0 w b (cF L)])):=by
 rw[Jt s a ha hs w b L hL]
 unfold uP
 simp only
 by_cases h1:120<((s.drop a).takeWhile du).length
 ·rw[if_pos h1,if_pos h1]
  exact⟨by decide,_,_,_,rfl⟩
 ·by_cases h2:nV ((s.drop a).takeWhile du)=true
  ·rw[if_neg h1,if_pos h2,if_neg h1,if_pos ((bad_eq _).1 h2)]
   exact⟨by decide,_,_,_,rfl⟩
  ·rw[if_neg h1,if_neg h2,if_neg h1,if_neg (fun h=>h2 ((bad_eq _).2 h)),if_pos rfl]
   rfl
theorem JS(s:List UInt8)(a:Nat)(c:UInt8)(q:List UInt8)(hd:s.drop a=c::q)(hs:s.length<=10000)(w:Int)(b:Bool)(L:List Tok)(hL:L.length<=100000):
  jb s a w L (qL c q a) (rk Tryz.prog aE (Task.call 93 [V.p 0 0] [bo s (a:Int) 0 w b (cF L)])):=by
 rw[JR s a c q hd hs w b L hL]
 unfold qL
 simp only
 split
 ·exact⟨by decide,_,_,_,rfl⟩
 ·rfl
theorem DL(c:UInt8):decide (mm (if eD.dropWhile (· != c)=[]then none else some (eD.takeWhile (· != c)).length) ≥ 0)=eD.contains c:=by
 have h:∀t:List UInt8,t.contains c=true↔t.dropWhile (· != c)≠[]:=by
  intro t
  induction t with
  |nil=>simp
  |cons d t ih=>
   rw[List.dropWhile_cons]
   by_cases h:d=c
   ·subst h;simp
   ·have h2:(d != c)=true:=bne_iff_ne.2 h
    rw[h2,if_pos rfl,<-ih]
    simp[Ne.symm h]
 have h0:=h eD
 by_cases hc:eD.dropWhile (· != c)=[]
 ·rw[if_pos hc]
  have:eD.contains c=false:=by
   cases e:eD.contains c with
   |false=>rfl
   |true=>exact absurd hc (h0.1 e)
  rw[this];rfl
 ·rw[if_neg hc,h0.2 hc]
  exact decide_eq_true (Int.natCast_nonneg _)
theorem DM(c:UInt8)(h:eD.contains c=true):(Utf8.encode (IntKind.i32.wrap (c.toNat:Int))).data.toList=[c]:=by
 have hm:c∈eD:=by simpa using h
 unfold eD at hm
 simp only[List.mem_cons,List.not_mem_nil,or_false]at hm
 rcases hm with rfl|rfl|rfl|rfl|rfl|rfl|rfl|rfl|rfl|rfl|rfl|rfl|rfl<;>decide
theorem JI(s:List UInt8)(a:Nat)(c:UInt8)(q:List UInt8)(hd:s.drop a=c::q)(hs:s.length<=10000)(w:Int)(b:Bool)(L:List Tok)(hL:L.length<=100000):
  jb s a w L (if eD.contains c=true then .inl (⟨5,[c],0,0,a⟩,1)else .inr (2,a))
   (rk Tryz.prog aE (Task.at_ 44 1 [true,true,true,true,true,false,true] (sv 85 [(0,V.p 0 0),(2,V.d (D.i .u8 (c.toNat:Int))),(45,V.d (D.b false))]) [] [bo s (a:Int) 0 w b (cF L)])):=by
 have hlen:(s.drop a).length=s.length-a:=List.length_drop ..
 rw[hd,List.length_cons]at hlen
 have hi:rk Tryz.prog aE (Task.call 85 [V.d (D.s [123,125,40,41,91,93,60,62,44,59,58,61,42]),V.d (D.i .u8 (c.toNat:Int))] [])=_:=nn eD c (by decide)
 have hx:=DL c
 cases hc:eD.contains c with
 |true=>
  rw[hc]at hx
  have hsn:=iP L ⟨5,[c],0,0,a⟩
  have hD:Tok.D ⟨5,[c],0,0,a⟩=D.g [D.i .i64 5,D.s [c],D.i .i64 0,D.i .u64 0,D.i .i64 (a:Int)]:=rfl
  rw[hD]at hsn
  have w1:IntKind.i64.wrap ((a:Int)+1)=((a+1:Nat):Int):=by rw[wrap_i64]<;>omega
  show _=_
  unfold bo
  rw[pW,aY,de hi,da hx,iO,ba,Bool.or_true,ba,aH (by rw[iu];omega),w1,DM c hc,hsn,Bool.and_false,aD]
 |false=>
  rw[hc]at hx
  have hf:=fK s (a:Int) 0 w 2 (a:Int) b (cF L)
  rw[if_pos rfl,if_pos rfl]at hf
  refine⟨by decide,(a:Int),b,L,?_⟩
  unfold bo at hf⊢
  rw[pW,aY,de hi,cj hx,dz hf (by rfl) (by rfl),aD]
theorem JZ(s:List UInt8)(a:Nat)(ha:a<s.length)(hs:s.length<=10000)(w:Int)(b:Bool)(L:List Tok)(hL:L.length<=100000):
  jb s a w L (jo (s.drop a) a) (rk Tryz.prog aE (Task.call 44 [V.p 0 0] [bo s (a:Int) 0 w b (cF L)])):=by
 have hlen:(s.drop a).length=s.length-a:=List.length_drop ..
 have hpass:∀(r:Cz) (k:Nat),jb s a w L r (rk Tryz.prog aE (Task.call k [V.p 0 0] [bo s (a:Int) 0 w b (cF L)]))->
   (∀cs:List V,cs.length=5->rk Tryz.prog aE (Task.call k [V.p 0 0] [bo s (a:Int) 0 w b (cF L)])=some (.t [],[.cells cs [(4,5)]])->
    rk Tryz.prog aE (Task.call 44 [V.p 0 0] [bo s (a:Int) 0 w b (cF L)])=some (.t [],[.cells cs [(4,5)]]))->
   jb s a w L r (rk Tryz.prog aE (Task.call 44 [V.p 0 0] [bo s (a:Int) 0 w b (cF L)])):=by
  intro r k hw hk
  match r,hw with
  | .inr (e,w'),⟨he,x,b',L',h⟩=>exact⟨he,x,b',L',hk _ rfl h⟩
  | .inl (t,n),h=>exact hk _ rfl h
 cases hd:s.drop a with
 |nil=>rw[hd,List.length_nil]at hlen;omega
 |cons c q=>
  have g:bh s (a:Int)=some c:=by
   rw[bp]
   have:=congrArg List.head? hd
   rw[List.head?_drop]at this
   simpa using this
  have e43:((c.toNat:Int)==43)=(c==43):=bG c 43
  have e45:((c.toNat:Int)==45)=(c==45):=bG c 45
  have e46:((c.toNat:Int)==46)=(c==46):=bG c 46
  have e34:((c.toNat:Int)==34)=(c==34):=bG c 34
  have e39:((c.toNat:Int)==39)=(c==39):=bG c 39
  have hl:=sw c
  have hg:=gk c
  unfold jo
  simp only
  cases hlt:ns c with
  |true=>
   rw[if_pos rfl,<-hd]
   refine hpass _ 90 (Ju s a (by omega) hs w b L hL) ?_
   intro cs hcs h
   rw[hlt]at hl
   unfold bo at h⊢
   rw[t21,aJ g,dh hl,bk,dz h hcs (by rfl),aD]
  |false=>
   rw[if_neg (by decide)]
   rw[hlt]at hl
   have h61:rk Tryz.prog aE (Task.call 44 [V.p 0 0] [bo s (a:Int) 0 w b (cF L)])=
     rk Tryz.prog aE (Task.at_ 44 1 [true,true,true,false,true] (sv 85 [(0,V.p 0 0),(2,V.d (D.i .u8 (c.toNat:Int))),(28,V.d (D.b (aG c||(c==43||(c==45||c==46)))))]) [] [bo s (a:Int) 0 w b (cF L)]):=by
    unfold bo
    rw[t21,aJ g,dh hl,aY,dh hg]
    cases hgd:aG c with
    |true=>rw[bk,aA];rfl
    |false=>
     rw[aY,e43]
     cases h43:(c==43) with
     |true=>rw[bk,aA];rfl
     |false=>
      rw[aY,e45]
      cases h45:(c==45) with
      |true=>rw[bk,aA];rfl
      |false=>rw[aY,aA,e46];rfl
   by_cases hn:aG c=true\/c=43\/c=45\/c=46
   ·rw[if_pos hn,<-hd]
    have hb:(aG c||(c==43||(c==45||c==46)))=true:=by simpa using hn
    rw[hb]at h61
    refine hpass _ 92 (Fx s a c q hd hs w b L hL) ?_
    intro cs hcs h
    rw[h61]
    unfold bo at h⊢
    rw[zz,bk,dz h hcs (by rfl),aD]
   ·rw[if_neg hn]
    have hb:(aG c||(c==43||(c==45||c==46)))=false:=by
     cases e:(aG c||(c==43||(c==45||c==46))) with
     |false=>rfl
     |true=>exact absurd (by simpa using e) hn
    rw[hb]at h61
    have h253:rk Tryz.prog aE (Task.call 44 [V.p 0 0] [bo s (a:Int) 0 w b (cF L)])=
      rk Tryz.prog aE (Task.at_ 44 1 [true,true,true,true,true,false,true] (sv 85 [(0,V.p 0 0),(2,V.d (D.i .u8 (c.toNat:Int))),(45,V.d (D.b (c==34||c==39)))]) [] [bo s (a:Int) 0 w b (cF L)]):=by
     rw[h61]
     unfold bo
     rw[zz,aY,e34]
     cases h34:(c==34) with
     |true=>rw[bk,aA];rfl
     |false=>rw[aY,aA,e39];rfl
    by_cases ht:c=34\/c=39
    ·rw[if_pos ht]
     have hb2:(c==34||c==39)=true:=by simpa using ht
     rw[hb2]at h253
     refine hpass _ 93 (JS s a c q hd hs w b L hL) ?_
     intro cs hcs h
     rw[h253]
     unfold bo at h⊢
     rw[pW,bk,dz h hcs (by rfl),aD]
    ·rw[if_neg ht]
     have hb2:(c==34||c==39)=false:=by
      cases e:(c==34||c==39) with
      |false=>rfl
      |true=>exact absurd (by simpa using e) ht
     rw[hb2]at h253
     rw[h253]
     exact JI s a c q hd hs w b L hL
end Go.Dn.Dec
namespace Go.Dn.Dec
open Go.Proofs
def wB(s:List UInt8)(o:Ob):Task:=Task.at_ 19 0 [false,false,false,false,false,true,true,true] (sv 72 [(0,V.d (D.s s)),(5,V.p 0 0)]) [] [o]
def gm(r:Lh):Out:=(.t [.d (.l r.1.isEmpty (cF r.1)),.d (.i .i64 r.2.1),.d (.i .i64 (r.2.2:Int))],[])
theorem JJ(s:List UInt8)(a a':Nat)(w:Int)(b:Bool)(l:List D)(h:rk Tryz.prog aE (Task.call 43 [V.p 0 0] [bo s (a:Int) 0 w b l])=some (.d (.b true),[bo s (a':Int) 0 w b l])):
  rk Tryz.prog aE (wB s (bo s (a:Int) 0 w b l))=rk Tryz.prog aE (wB s (bo s (a':Int) 0 w b l)):=by
 unfold wB
 unfold bo at h⊢
 rw[jR,gB h (by rfl) (by rfl),bk,aA]
theorem F3(s:List UInt8)(a w':Nat)(x w:Int)(b:Bool)(l:List D)(h:rk Tryz.prog aE (Task.call 43 [V.p 0 0] [bo s (a:Int) 0 w b l])=some (.d (.b false),[bo s x 2 (w':Int) b l])):
  rk Tryz.prog aE (wB s (bo s (a:Int) 0 w b l))=some (gm ([],2,w')):=by
 unfold wB
 unfold bo at h⊢
 rw[jR,gB h (by rfl) (by rfl),aY,aJ (a:=V.d (D.i .i64 2)) (by rfl),bj,bL,jl (by decide),aJ (a:=V.d (D.i .i64 2)) (by rfl),bj,bL,
  aJ (a:=V.d (D.i .i64 (w':Int))) (by rfl),bj,bL,aD]
 rfl
theorem Hs(s:List UInt8)(a:Nat)(ha:s.length<=a)(w:Int)(b:Bool)(L:List Tok)(hL:L.length<=100000)
  (h:rk Tryz.prog aE (Task.call 43 [V.p 0 0] [bo s (a:Int) 0 w b (cF L)])=some (.d (.b false),[bo s (a:Int) 0 w b (cF L)])):
  rk Tryz.prog aE (wB s (bo s (a:Int) 0 w b (cF L)))=some (gm (L++[⟨6,[],0,0,s.length⟩],0,0)):=by
 have hsn:=iP L ⟨6,[],0,0,s.length⟩
 have hD:Tok.D ⟨6,[],0,0,s.length⟩=D.g [D.i .i64 6,D.s [],D.i .i64 0,D.i .u64 0,D.i .i64 (s.length:Int)]:=rfl
 rw[hD]at hsn
 have hemp:(L++[(⟨6,[],0,0,s.length⟩:Tok)]).isEmpty=false:=by cases L<;>rfl
 unfold gm
 simp only
 rw[hemp]
 unfold wB
 unfold bo at h⊢
 rw[jR,gB h (by rfl) (by rfl),aY,aJ (a:=V.d (D.i .i64 0)) (by rfl),bj,bL,eM rfl,aJ (a:=V.d (D.i .i64 (a:Int))) (by rfl),bj,bL,
  aJ (a:=V.d (D.s s)) (by rfl),bj,fU,bf (by omega),aJ (a:=V.d (D.l b (cF L))) (by rfl)]
 show aC (rk Tryz.prog aE) (aW (V.d (D.l b (cF L))) _)=_
 rw[bj,ed,iO,ba,Bool.or_true,ba,aH (by rw[iu];omega),aD,Bool.and_false,hsn]
 rfl
theorem E5(s:List UInt8)(a:Nat)(ha:a<s.length)(hs:s.length<=10000)(w:Int)(b:Bool)(L:List Tok)(hL:L.length<=100000)
  (h:rk Tryz.prog aE (Task.call 43 [V.p 0 0] [bo s (a:Int) 0 w b (cF L)])=some (.d (.b false),[bo s (a:Int) 0 w b (cF L)])):
  match jo (s.drop a) a with
  | .inr (e,w')=>rk Tryz.prog aE (wB s (bo s (a:Int) 0 w b (cF L)))=some (gm ([],e,w'))
  | .inl (t,n)=>rk Tryz.prog aE (wB s (bo s (a:Int) 0 w b (cF L)))=rk Tryz.prog aE (wB s (bo s ((a+n:Nat):Int) 0 w false (cF (L++[t])))):=by
 have hw:=JZ s a ha hs w b L hL
 generalize jo (s.drop a) a=W at *
 match W,hw with
 | .inr (e,w'),⟨he,x,b',L',hw⟩=>
  simp only
  unfold wB
  unfold bo at h hw⊢
  rw[jR,gB h (by rfl) (by rfl),aY,aJ (a:=V.d (D.i .i64 0)) (by rfl),bj,bL,eM rfl,aJ (a:=V.d (D.i .i64 (a:Int))) (by rfl),bj,bL,
   aJ (a:=V.d (D.s s)) (by rfl),bj,fU,bc (by omega),dz hw (by rfl) (by rfl),aJ (a:=V.d (D.i .i64 e)) (by rfl),bj,bL,jl he,
   aJ (a:=V.d (D.i .i64 e)) (by rfl),bj,bL,aJ (a:=V.d (D.i .i64 (w':Int))) (by rfl),bj,bL,aD]
  rfl
 | .inl (t,n),hw=>
  have hw:rk Tryz.prog aE (Task.call 44 [V.p 0 0] [bo s (a:Int) 0 w b (cF L)])=some (.t [],[bo s ((a+n:Nat):Int) 0 w false (cF (L++[t]))]):=hw
  simp only
  unfold wB
  unfold bo at h hw⊢
  rw[jR,gB h (by rfl) (by rfl),aY,aJ (a:=V.d (D.i .i64 0)) (by rfl),bj,bL,eM rfl,aJ (a:=V.d (D.i .i64 (a:Int))) (by rfl),bj,bL,
   aJ (a:=V.d (D.s s)) (by rfl),bj,fU,bc (by omega),dz hw (by rfl) (by rfl),aJ (a:=V.d (D.i .i64 0)) (by rfl),bj,bL,eM rfl,aA,zw,aA]
theorem F4(s:List UInt8)(a:Nat)(hs:s.length<=10000)(w:Int)(b:Bool)(l:List D):∀(f k:Nat),s.length<=a+k+f->a+k<=s.length->
  match gv f (s.drop (a+k)) k with
  |(k',false)=>rk Tryz.prog aE (wB s (bo s ((a+k:Nat):Int) 0 w b l))=some (gm ([],2,a+k'))
  |(k',true)=>rk Tryz.prog aE (wB s (bo s ((a+k:Nat):Int) 0 w b l))=rk Tryz.prog aE (wB s (bo s ((a+k':Nat):Int) 0 w b l))/\
    rk Tryz.prog aE (Task.call 43 [V.p 0 0] [bo s ((a+k':Nat):Int) 0 w b l])=some (.d (.b false),[bo s ((a+k':Nat):Int) 0 w b l])
 |0,k,hf,hk=>by
  have hp:=B5 s (a+k) hk hs w b l
  unfold wO at hp
  rw[List.drop_eq_nil_of_le (by omega)]at hp
  exact⟨rfl,hp⟩
 |f+1,k,hf,hk=>by
  have hp:=B5 s (a+k) hk hs w b l
  have hlen:(s.drop (a+k)).length=s.length-(a+k):=List.length_drop ..
  unfold wO at hp
  unfold gv
  cases hd:s.drop (a+k) with
  |nil=>
   rw[hd]at hp
   exact⟨rfl,hp⟩
  |cons c q=>
   have hln:=(lE (s.drop (a+k))).1
   have hln1:=(lE (s.drop (a+k))).2 (by rw[hd];simp)
   rw[hd]at hp hln hln1
   rw[hd,List.length_cons]at hlen
   rw[List.length_cons]at hln
   simp only at hp⊢
   have nxt:∀m:Nat,1<=m->a+k+m<=s.length->rk Tryz.prog aE (Task.call 43 [V.p 0 0] [bo s ((a+k:Nat):Int) 0 w b l])=some (.d (.b true),[bo s ((a+k+m:Nat):Int) 0 w b l])->
     match gv f ((c::q).drop m) (k+m) with
     |(k',false)=>rk Tryz.prog aE (wB s (bo s ((a+k:Nat):Int) 0 w b l))=some (gm ([],2,a+k'))
     |(k',true)=>rk Tryz.prog aE (wB s (bo s ((a+k:Nat):Int) 0 w b l))=rk Tryz.prog aE (wB s (bo s ((a+k':Nat):Int) 0 w b l))/\
       rk Tryz.prog aE (Task.call 43 [V.p 0 0] [bo s ((a+k':Nat):Int) 0 w b l])=some (.d (.b false),[bo s ((a+k':Nat):Int) 0 w b l]):=by
    intro m h1 h2 h3
    have ih:=F4 s a hs w b l f (k+m) (by omega) (by omega)
    rw[JJ s (a+k) (a+k+m) w b l h3]
    rw[<-hd,List.drop_drop,Nat.add_assoc]
    exact ih
   by_cases h1:Ea c=true
   ·rw[if_pos h1]at hp⊢
    exact nxt 1 (by omega) (by omega) hp
   ·rw[if_neg h1]at hp⊢
    by_cases h2:c=35\/(c=47/\q.head?=some 47)
    ·rw[if_pos h2]at hp⊢
     exact nxt _ hln1 (by omega) hp
    ·rw[if_neg h2]at hp⊢
     by_cases h3:c=47/\q.head?=some 42
     ·rw[if_pos h3]at hp⊢
      cases he:mZ (q.drop 1) with
      |none=>
       rw[he]at hp
       exact F3 s (a+k) (a+k) _ w b l hp
      |some n=>
       rw[he]at hp
       have hn:=qY _ _ he
       rw[List.length_drop]at hn
       have hq1:1<=q.length:=by
        cases q with
        |nil=>exact absurd h3.2 (by simp)
        |cons d q=>rw[List.length_cons];omega
       exact nxt (2+n) (by omega) (by omega) hp
     ·rw[if_neg h3]at hp⊢
      exact⟨rfl,hp⟩
theorem yo(s:List UInt8)(hs:s.length<=10000)(w:Int):∀(f a:Nat) (b:Bool) (L:List Tok),s.length-a<f->a<=s.length->L.length<=a->
  rk Tryz.prog aE (wB s (bo s (a:Int) 0 w b (cF L)))=some (gm (wy f (s.drop a) a L))
 |0,a,b,L,h,_,_=>by omega
 |f+1,a,b,L,h,ha,hL=>by
  have hlen:(s.drop a).length=s.length-a:=List.length_drop ..
  have hk:=mh (s.drop a).length (s.drop a) 0
  have hsk:=F4 s a hs w b (cF L) (s.drop a).length 0 (by omega) (by omega)
  unfold wy
  rw[Nat.add_zero]at hsk
  generalize gv (s.drop a).length (s.drop a) 0=K at *
  obtain⟨k,bb⟩:=K
  simp only at hk
  cases bb with
  |false=>exact hsk
  |true=>
   simp only at hsk⊢
   rw[hsk.1]
   by_cases he:(s.drop a).length<=k
   ·rw[if_pos he]
    have e1:a+(s.drop a).length=s.length:=by omega
    rw[e1]
    exact Hs s (a+k) (by omega) w b L (by omega) hsk.2
   ·rw[if_neg he]
    have hw:=E5 s (a+k) (by omega) hs w b L (by omega) hsk.2
    have hok:=xb (s.drop (a+k)) (a+k)
    rw[List.drop_drop]
    generalize jo (s.drop (a+k)) (a+k)=W at *
    match W,hw,hok with
    | .inr (e,w'),hw,hok=>exact hw
    | .inl (t,n),hw,hok=>
     simp only at hw⊢
     obtain⟨-,h1,h2,-⟩:=hok
     rw[List.length_drop]at h2
     rw[hw,List.drop_drop,<-Nat.add_assoc]
     exact yo s hs w f (a+k+n) false (L++[t]) (by omega) (by omega) (by rw[List.length_append,List.length_singleton];omega)
theorem E4(s:List UInt8):rk Tryz.prog aE (Task.call 19 [V.d (D.s s)] [])=some (gm (lexB s)):=by
 unfold lexB
 by_cases h:2000<s.length
 ·rw[t10,bf (by omega),aD,if_pos h]
  rfl
 ·rw[t10,bc (by omega),aA,if_neg h,zw,aA]
  have:=yo s (by omega) 0 (s.length+1) 0 true [] (by omega) (by omega) (by simp)
  exact this
end Go.Dn.Dec
namespace Go.Dn.Dec
open Go.Proofs
section
variable {f : Task → Option Out}
theorem pU{t:Task}{k j:IntKind}{b:Bool}{l:List D}{n m:Int}{e e' e'':V}{K:Bool->List D->Int->Int->Tr}(h:f t=some (.t [.d (.l b l),.d (.i k n),.d (.i j m)],[])):
  aC f (.call t fun o=>aM o.snd.isEmpty (dY o.fst fun l=>aM (l.length==3) (aW (l.getD 0 e) fun d=>dZ d fun x y=>aW (l.getD 1 e') fun d'=>bD k d' fun z=>aW (l.getD 2 e'') fun d''=>bD j d'' fun w=>K x y z w)))=aC f (K b l n m):=by
 rw[cE h]
 show aC f (bD k (.i k n) fun x=>bD j (.i j m) fun y=>K b l x y)=_
 rw[bl,if_pos rfl,bl,if_pos rfl]
end
theorem E3(s:List UInt8)(hs:s.length<=2000):(lexB s).1.length<=100000:=by
 rcases AI s with⟨l',hg,e⟩|⟨e,w,he,-,-⟩
 ·rw[e]
  obtain⟨h1,h2⟩:=hg
  have hbound:∀(k:Nat) (hk:k<l'.length),k<=l'[k].at_:=by
   intro k
   induction k with
   |zero=>intro _;exact Nat.zero_le _
   |succ k ih=>
    intro hk
    have h3:=ih (by omega)
    have h4:=List.pairwise_iff_getElem.1 h2 k (k+1) (by omega) hk (by omega)
    omega
  show (l'++[_]).length<=_
  rw[List.length_append,List.length_singleton]
  rcases Nat.eq_zero_or_pos l'.length with h0|h0
  ·omega
  ·have h3:=hbound (l'.length-1) (by omega)
   have h4:=(h1 _ (List.getElem_mem (show l'.length-1<l'.length by omega))).2.2
   omega
 ·rw[he];exact Nat.zero_le _
theorem Ln:lexB [97,32,61,32,49]=([⟨1,[97],0,0,0⟩,⟨5,[61],0,0,2⟩,⟨2,[],1,0,4⟩,⟨6,[],0,0,5⟩],0,0):=by kernel_rfl
theorem Lo:lexB [97,32,63]=([],2,2):=by kernel_rfl
theorem GS:rk Tryz.prog aE (Task.call 18 [] [])=some (.d (.b true),[]):=by
 have h1:=E4 [97,32,61,32,49]
 have h2:=E4 [97,32,63]
 rw[Ln]at h1
 rw[Lo]at h2
 rw[t9,pU h1,pU h2]
 rfl
end Go.Dn.Dec
namespace Go.Dn.Dec.Mx
open Go.Proofs
set_option linter.unusedVariables false
set_option linter.unusedSimpArgs false
def e9(s:List UInt8):Prop:=s=[]\/s=[98,97,115,101,46]
theorem e9.len{s:List UInt8}(h:e9 s):s.length<=100:=by rcases h with rfl|rfl<;>decide
def pw(w:List UInt8):Bool:=(match w with|c::_=>ns c | []=>false)&&w.all du&&decide (w.length<=120) && !(w.getLast?==some 46) && !mw w
theorem ao{w:List UInt8}(h:pw w=true):eb w:=by
 simp only[pw,Bool.and_eq_true,Bool.not_eq_true',decide_eq_true_eq,List.all_eq_true]at h
 obtain⟨⟨⟨⟨h1,h2⟩,h3⟩,h4⟩,h5⟩:=h
 refine⟨?_,h2,h3,?_,h5⟩
 ·cases w with
  |nil=>cases h1
  |cons c q=>exact⟨c,q,rfl,h1⟩
 ·simpa using h4
theorem Iu{zs:List Int}{n:Nat}(h:Pk zs n)(s:List UInt8)(hs:e9 s):∃(t:List UInt8) (n':Nat),t.length<=11/\eb t/\Pk zs n'/\
  rk Tryz.prog bn (Task.call 121 [V.p 0 0,V.d (D.s s)] [pk zs n])=some (.d (.s t),[pk zs n']):=by
 obtain⟨k,n',hk,h',hr⟩:=eJ h (m:=8) 8 rfl (by omega) (by omega)
 have hx:∃t:List UInt8,([D.s [105,51,50],D.s [115,116,114,105,110,103],D.s [98,111,111,108],D.s (s++[69]),D.s [105,54,52],D.s [98,105,110,97,114,121],D.s [100,111,117,98,108,101],D.s [105,56]]:List D)[k]?=some (.s t)/\t.length<=11/\eb t:=by
  rcases hs with rfl|rfl
  all_goals
   rcases k with _|_|_|_|_|_|_|_|k
   all_goals first
    |exact⟨_,rfl,by decide,ao (by decide)⟩
    |omega
 obtain⟨t,ht,hl,hn⟩:=hx
 have hs:=hs.len
 refine⟨t,n',hl,hn,h',?_⟩
 rw[L5,aH (by omega),cr (m:=2) (fl':=[]) hr rfl rfl,xi ht]
 rfl
end Go.Dn.Dec.Mx
namespace Go.Dn.Dec.Mx
open Go.Proofs
set_option linter.unusedVariables false
set_option linter.unusedSimpArgs false
def By(d B:Nat):Prop:=∀(zs:List Int) (n:Nat) (s:List UInt8),Pk zs n->e9 s->∃(t:List UInt8) (n':Nat),t.length<=B/\iT t/\Pk zs n'/\
 rk Tryz.prog bn (Task.call 55 [V.p 0 0,V.d (D.s s),V.d (D.i .i64 (d:Int))] [pk zs n])=some (.d (.s t),[pk zs n'])
theorem zN{k:Nat}(hk:k<14)(s:List UInt8)(hs:e9 s)(d:Int)(cs:List V):∃t:List UInt8,t.length<=106/\iT t/\
    rk Tryz.prog bn (Task.at_ 55 1 [true,true,true] (sv 67 [(0,V.p 0 0),(1,V.d (D.s s)),(2,V.d (D.i .i64 d)),(7,V.d (D.i .i64 (k:Int)))]) [] [Ob.cells cs []])=some (.d (.s t),[Ob.cells cs []]):=by
  have hx:∃t:List UInt8,([D.s [105,51,50],D.s [115,116,114,105,110,103],D.s [98,111,111,108],D.s [105,56],D.s [105,49,54],D.s [105,54,52],D.s [100,111,117,98,108,101],
                D.s [98,105,110,97,114,121],D.s (s++[69]),D.s (s++[84]),D.s [105,51,50],D.s [115,116,114,105,110,103],D.s (s++[80]),D.s (s++[85])]:List D)[k]?=some (.s t)/\t.length<=106/\iT t:=by
    rcases hs with rfl|rfl
    all_goals
     rcases k with _|_|_|_|_|_|_|_|_|_|_|_|_|_|k
     all_goals first
      |exact⟨_,rfl,by decide,aq (ao (by decide))⟩
      |omega
  obtain⟨t,ht,hl,hx⟩:=hx
  have hs:=hs.len
  refine⟨t,hl,hx,?_⟩
  rw[pd,aH (by omega),aH (by omega),aH (by omega),aH (by omega),bf (by omega),xi ht]
  rfl
theorem KP:By 3 106:=by
 intro zs n s h hs
 have hsl:=hs.len
 obtain⟨k,n',hk,h',hr⟩:=eJ h (m:=18) 18 rfl (by omega) (by omega)
 obtain⟨t,ht,hx,hl⟩:=zN (k:=k%12) (by omega) s hs 3 (fS zs n')
 refine⟨t,n',ht,hx,h',?_⟩
 have e:((k:Int)).tmod 12=((k%12:Nat):Int):=rfl
 rw[Mm,cr (m:=2) (fl':=[]) hr rfl rfl,bf (by decide),e]
 exact bB hl
theorem Bl{d B:Nat}(hd:d<=2)(hB:B<=1000)(hi:By (d+1) B):By d (B+112):=by
 intro zs n s h hs
 have hsl:=hs.len
 obtain⟨k,n',hk,h',hr⟩:=eJ h (m:=18) 18 rfl (by omega) (by omega)
 have w:IntKind.i64.wrap ((d:Int)+1)=((d+1:Nat):Int):=by rw[wrap_i64]<;>omega
 have key:∃(t:List UInt8) (n2:Nat),t.length<=B+112/\iT t/\Pk zs n2/\rk Tryz.prog bn (Task.at_ 55 1 [true,true,true] (sv 67 [(0,V.p 0 0),(1,V.d (D.s s)),(2,V.d (D.i .i64 (d:Int))),(7,V.d (D.i .i64 (k:Int)))]) [] [Ob.cells (fS zs n') []])=some (.d (.s t),[pk zs n2]):=by
  by_cases hk14:k<14
  ·obtain⟨t,ht,hx,hl⟩:=zN hk14 s hs d (fS zs n')
   by_cases hB106:B+112<106
   ·omega
   ·exact⟨t,n',by omega,hx,h',hl⟩
  ·-- a list
   have hlist:∃(t:List UInt8) (n2:Nat),t.length<=B+112/\iT t/\Pk zs n2/\∀k2:Int,rk Tryz.prog bn (Task.at_ 55 1 [true,true,true,false,false,true,true,true,true] (sv 67 [(0,V.p 0 0),(1,V.d (D.s s)),(2,V.d (D.i .i64 (d:Int))),(7,V.d (D.i .i64 k2)),(33,V.d (D.b true))]) [] [Ob.cells (fS zs n') []])=some (.d (.s t),[pk zs n2]):=by
    obtain⟨t,n2,ht,hx,h2,hr2⟩:=hi zs n' s h' hs
    have hs:=hs.len
    refine⟨[108,105,115,116,60]++t++[62],n2,by simp;omega,(((((aq (w:=[108,105,115,116]) (ao (by decide))).app (ar (c:=60) (by decide)) ⟨60,[],rfl,by decide⟩).Lk hx).app (ar (c:=62) (by decide)) ⟨62,[],rfl,by decide⟩)).t,h2,fun k2=>?_⟩
    rw[p9,bk,w,wW (m:=(fS zs n').length) (fl':=[]) hr2 rfl rfl,aH (by omega),aH (by simp;omega)]
    rfl
   have hset:k=16->∃(t:List UInt8) (n2:Nat),t.length<=B+112/\iT t/\Pk zs n2/\rk Tryz.prog bn (Task.at_ 55 1 [true,true,true,false,false,true,true,true,true] (sv 67 [(0,V.p 0 0),(1,V.d (D.s s)),(2,V.d (D.i .i64 (d:Int))),(7,V.d (D.i .i64 (k:Int))),(33,V.d (D.b false))]) [] [Ob.cells (fS zs n') []])=some (.d (.s t),[pk zs n2]):=by
    intro hk16
    obtain⟨t,n2,ht,hx,h2,hr2⟩:=Iu h' s hs
    have hs:=hs.len
    refine⟨[115,101,116,60]++t++[62],n2,by simp;omega,(((((aq (w:=[115,101,116]) (ao (by decide))).app (ar (c:=60) (by decide)) ⟨60,[],rfl,by decide⟩).Lk (aq hx)).app (ar (c:=62) (by decide)) ⟨62,[],rfl,by decide⟩)).t,h2,?_⟩
    rw[p9,aY,cm (by omega),wW (m:=(fS zs n').length) (fl':=[]) hr2 rfl rfl,aH (by omega),aH (by simp;omega)]
    rfl
   have hmap:k≠16->∃(t:List UInt8) (n2:Nat),t.length<=B+112/\iT t/\Pk zs n2/\rk Tryz.prog bn (Task.at_ 55 1 [true,true,true,false,false,true,true,true,true] (sv 67 [(0,V.p 0 0),(1,V.d (D.s s)),(2,V.d (D.i .i64 (d:Int))),(7,V.d (D.i .i64 (k:Int))),(33,V.d (D.b false))]) [] [Ob.cells (fS zs n') []])=some (.d (.s t),[pk zs n2]):=by
    intro hk16
    obtain⟨t,n2,ht,hx,h2,hr2⟩:=Iu h' s hs
    obtain⟨u,n3,hu,hxu,h3,hr3⟩:=hi zs n2 s h2 hs
    have hs:=hs.len
    refine⟨[109,97,112,60]++t++[44]++u++[62],n3,by simp;omega,((((((aq (w:=[109,97,112]) (ao (by decide))).app (ar (c:=60) (by decide)) ⟨60,[],rfl,by decide⟩).Lk (aq hx)).app (ar (c:=44) (by decide)) ⟨44,[],rfl,by decide⟩).Lk hxu).app (ar (c:=62) (by decide)) ⟨62,[],rfl,by decide⟩).t,h3,?_⟩
    rw[p9,aY,bO (by omega),wW (m:=(fS zs n').length) (fl':=[]) hr2 rfl rfl,aH (by omega),aH (by simp;omega),w,
     wW (m:=(fS zs n2).length) (fl':=[]) hr3 rfl rfl,aH (by simp;omega),aH (by simp;omega)]
    rfl
   by_cases h14:k=14
   ·obtain⟨t,n2,ht,hxt,h2,hr2⟩:=hlist
    refine⟨t,n2,ht,hxt,h2,?_⟩
    rw[pd,aH (by omega),aH (by omega),aH (by omega),aH (by omega),bc (by omega),cm (by omega)]
    exact bB (hr2 _)
   ·by_cases h15:k=15
    ·obtain⟨t,n2,ht,hxt,h2,hr2⟩:=hlist
     refine⟨t,n2,ht,hxt,h2,?_⟩
     have e:((k:Int)==15)=true:=by rw[h15];rfl
     rw[pd,aH (by omega),aH (by omega),aH (by omega),aH (by omega),bc (by omega),bO (by omega),e]
     exact bB (hr2 _)
    ·have e:((k:Int)==15)=false:=beq_eq_false_iff_ne.2 (by omega)
     have hx:∃(t:List UInt8) (n2:Nat),t.length<=B+112/\iT t/\Pk zs n2/\rk Tryz.prog bn (Task.at_ 55 1 [true,true,true,false,false,true,true,true,true] (sv 67 [(0,V.p 0 0),(1,V.d (D.s s)),(2,V.d (D.i .i64 (d:Int))),(7,V.d (D.i .i64 (k:Int))),(33,V.d (D.b false))]) [] [Ob.cells (fS zs n') []])=some (.d (.s t),[pk zs n2]):=by
      by_cases h16:k=16
      ·exact hset h16
      ·exact hmap h16
     obtain⟨t,n2,ht,hxt,h2,hr2⟩:=hx
     refine⟨t,n2,ht,hxt,h2,?_⟩
     rw[pd,aH (by omega),aH (by omega),aH (by omega),aH (by omega),bc (by omega),bO (by omega),e]
     exact bB hr2
 obtain⟨t,n2,ht,hxt,h2,hr2⟩:=key
 refine⟨t,n2,ht,hxt,h2,?_⟩
 rw[Mm,cr (m:=2) (fl':=[]) hr rfl rfl,bc (by omega)]
 exact bB hr2
theorem KQ:By 0 442:=Bl (by omega) (by omega) (Bl (by omega) (by omega) (Bl (by omega) (by omega) KP))
end Go.Dn.Dec.Mx
namespace Go.Dn.Dec.Mx
open Go.Proofs
set_option linter.unusedVariables false
set_option linter.unusedSimpArgs false
theorem D4(n:Int):IntKind.u64.wrap n=n%18446744073709551616:=by
 have e:((2:Int)^IntKind.u64.bits)=18446744073709551616:=by decide
 simp[IntKind.wrap,IntKind.signed,e]
theorem D3(n:Int):0<=IntKind.u64.wrap n/\IntKind.u64.wrap n<18446744073709551616:=by
 rw[D4];omega
def ki(k u:Int)(s:List UInt8):Prop:=(k=2->mW u.toNat)/\(k=3->xD s)/\(k=4->eb s)
theorem lG{u:Int}{s:List UInt8}(h:xD s):ki 3 u s:=⟨fun h=>(by cases h),fun _=>h,fun h=>(by cases h)⟩
theorem gJ{u:Int}{s:List UInt8}(h:eb s):ki 4 u s:=⟨fun h=>(by cases h),fun h=>(by cases h),fun _=>h⟩
theorem eg{k u:Int}{s:List UInt8}(h:k=0\/k=1\/k=5):ki k u s:=⟨fun h=>by omega,fun h=>by omega,fun h=>by omega⟩
theorem uE{a b:Nat}(ha:a<255)(hb:b<255){s:List UInt8}:ki 2 (IntKind.u64.wrap ((BitVec.ofInt IntKind.u64.bits (IntKind.u64.wrap (IntKind.u64.wrap (a:Int)*36028797018963968)) ||| BitVec.ofInt IntKind.u64.bits (IntKind.u64.wrap (IntKind.u64.wrap (b:Int)*1099511627776))).toNat:Int)) s:=by
 refine⟨fun _=>?_,fun h=>(by cases h),fun h=>(by cases h)⟩
 have w1:IntKind.u64.wrap (IntKind.u64.wrap (a:Int)*36028797018963968)=((a*36028797018963968:Nat):Int):=by rw[D4,D4];omega
 have w2:IntKind.u64.wrap (IntKind.u64.wrap (b:Int)*1099511627776)=((b*1099511627776:Nat):Int):=by rw[D4,D4];omega
 have e:(BitVec.ofInt IntKind.u64.bits ((a*36028797018963968:Nat):Int) ||| BitVec.ofInt IntKind.u64.bits ((b*1099511627776:Nat):Int)).toNat=a*36028797018963968+b*1099511627776:=by
  show (BitVec.ofInt 64 ((a*36028797018963968:Nat):Int) ||| BitVec.ofInt 64 ((b*1099511627776:Nat):Int)).toNat=_
  rw[BitVec.toNat_or,BitVec.ofInt_natCast,BitVec.ofInt_natCast,BitVec.toNat_ofNat,BitVec.toNat_ofNat,Nat.mod_eq_of_lt (by omega),Nat.mod_eq_of_lt (by omega)]
  exact FD (k:=55) (by omega)
 have w3:IntKind.u64.wrap ((a*36028797018963968+b*1099511627776:Nat):Int)=((a*36028797018963968+b*1099511627776:Nat):Int):=by rw[D4];omega
 rw[w1,w2,e,w3,Int.toNat_natCast]
 exact⟨by omega,by omega⟩
def vP(d:D):Prop:=∃(k n u:Int) (s:List UInt8),d = .g [.i .i64 k,.i .i64 n,.i .u64 u,.s s,.l true []]/\1<=k/\k<=5/\-1000<=n/\n<=1000/\0<=u/\u<18446744073709551616/\s.length<=103/\ki k u s
theorem iq{k n u:Int}{s:List UInt8}(h1:1<=k/\k<=5)(h2:-1000<=n/\n<=1000)(h3:0<=u/\u<18446744073709551616)(h4:s.length<=103)(h5:ki k u s):vP (.g [.i .i64 k,.i .i64 n,.i .u64 u,.s s,.l true []]):=
 ⟨k,n,u,s,rfl,h1.1,h1.2,h2.1,h2.2,h3.1,h3.2,h4,h5⟩
theorem GA{zs:List Int}{n:Nat}(h:Pk zs n)(s t:List UInt8)(hs:e9 s)(b:Bool)(hb:b=false->t≠[100,111,117,98,108,101])(n3 n4 n5:Int)(l6:List UInt8)(b7:Bool)(l8:List D):
  ∃(d:D) (n':Nat),vP d/\Pk zs n'/\rk Tryz.prog bn (Task.at_ 120 1 [true,true,true,true,true,false,true,false,true] (sv 61 [(0,V.p 0 0),(2,V.d (D.s s)),(6,V.p 1 0),(7,V.d (D.s t)),(29,V.d (D.b b))]) []
   [Ob.cells [V.d (D.i IntKind.i64 n3),V.d (D.i IntKind.i64 n4),V.d (D.i IntKind.u64 n5),V.d (D.s l6),V.d (D.l b7 l8)] [],pk zs n])=some (.d d,[pk zs n']):=by
 cases b with
 |true=>
  obtain⟨k,n',hk,h',hr⟩:=eJ h (m:=4) 4 rfl (by omega) (by omega)
  have hx:∃u:List UInt8,([D.s [],D.s [97],D.s [120,32,121],D.s [105,116,39,115]]:List D)[k]?=some (.s u)/\u.length<=103/\xD u:=by
   rcases k with _|_|_|_|k
   all_goals first
    |exact⟨_,rfl,by decide,by decide,by decide⟩
    |omega
  obtain⟨u,hu,hl,hg⟩:=hx
  have hs:=hs.len
  refine⟨_,n',iq (k:=3) (n:=0) (u:=0) (by omega) (by omega) (by omega) hl (lG hg),h',?_⟩
  rw[ic,bk,cr (m:=2) (fl':=[]) hr rfl rfl,xi hu];rfl
 |false=>
  by_cases hbool:t=[98,111,111,108]
  ·obtain⟨k,n',hk,h',hr⟩:=eJ h (m:=2) 2 rfl (by omega) (by omega)
   have hx:∃u:List UInt8,([D.s [116,114,117,101],D.s [102,97,108,115,101]]:List D)[k]?=some (.s u)/\u.length<=103/\eb u:=by
    rcases k with _|_|k
    all_goals first
     |exact⟨_,rfl,by decide,ao (by decide)⟩
     |omega
   obtain⟨u,hu,hl,hg⟩:=hx
   have hs:=hs.len
   refine⟨_,n',iq (k:=4) (n:=0) (u:=0) (by omega) (by omega) (by omega) hl (gJ hg),h',?_⟩
   rw[ic,aY,da (by rw[hbool];rfl),cr (m:=2) (fl':=[]) hr rfl rfl,xi hu];rfl
  ·have nE:eb (s++[69,46,65]):=by rcases hs with rfl|rfl<;>exact ao (by decide)
   have nC:eb (s++[67]):=by rcases hs with rfl|rfl<;>exact ao (by decide)
   have hs:=hs.len
   by_cases hE:t=s++[69]
   ·refine⟨_,n,iq (k:=4) (n:=0) (u:=0) (s:=s++[69,46,65]) (by omega) (by omega) (by omega) (by simp;omega) (gJ nE),h,?_⟩
    rw[ic,aY,cj (beq_eq_false_iff_ne.2 hbool),aH (by omega),da (beq_iff_eq.2 hE),aH (by omega)];rfl
   ·by_cases hT:t=s++[84]
    ·refine⟨_,n,iq (k:=4) (n:=0) (u:=0) (s:=s++[67]) (by omega) (by omega) (by omega) (by simp;omega) (gJ nC),h,?_⟩
     rw[ic,aY,cj (beq_eq_false_iff_ne.2 hbool),aH (by omega),cj (beq_eq_false_iff_ne.2 hE),aH (by omega),da (beq_iff_eq.2 hT),aH (by omega)];rfl
    ·refine⟨_,n,iq (k:=5) (n:=0) (u:=0) (s:=[]) (by omega) (by omega) (by omega) (by simp) (eg (by omega)),h,?_⟩
     rw[ic,aY,cj (beq_eq_false_iff_ne.2 hbool),aH (by omega),cj (beq_eq_false_iff_ne.2 hE),aH (by omega),cj (beq_eq_false_iff_ne.2 hT)];rfl
theorem J0{zs:List Int}{n:Nat}(h:Pk zs n)(s t:List UInt8)(hs:e9 s)(b:Bool)(n3 n4 n5:Int)(l6:List UInt8)(b7:Bool)(l8:List D):
  ∃(d:D) (n':Nat),vP d/\Pk zs n'/\rk Tryz.prog bn (Task.at_ 120 1 [true,false,true,false,true] (sv 61 [(0,V.p 0 0),(2,V.d (D.s s)),(6,V.p 1 0),(7,V.d (D.s t)),(8,V.d (D.b b))]) []
   [Ob.cells [V.d (D.i IntKind.i64 n3),V.d (D.i IntKind.i64 n4),V.d (D.i IntKind.u64 n5),V.d (D.s l6),V.d (D.l b7 l8)] [],pk zs n])=some (.d d,[pk zs n']):=by
 cases b with
 |true=>
  obtain⟨k,n',hk,h',hr⟩:=eJ h (m:=200) 200 rfl (by omega) (by omega)
  have w:IntKind.i64.wrap ((k:Int)-72)=(k:Int)-72:=by rw[wrap_i64]<;>omega
  refine⟨_,n',iq (k:=1) (n:=(k:Int)-72) (u:=0) (s:=[]) (by omega) (by omega) (by omega) (by simp) (eg (by omega)),h',?_⟩
  rw[mi,bk,cr (m:=2) (fl':=[]) hr rfl rfl,w];rfl
 |false=>
  by_cases hd:t=[100,111,117,98,108,101]
  ·obtain⟨k,n',hk,h',hr⟩:=eJ h (m:=255) 255 rfl (by omega) (by omega)
   obtain⟨k2,n2,hk2,h2,hr2⟩:=eJ h' (m:=255) 255 rfl (by omega) (by omega)
   refine⟨_,n2,iq (k:=2) (n:=0) (u:=IntKind.u64.wrap ((BitVec.ofInt IntKind.u64.bits (IntKind.u64.wrap (IntKind.u64.wrap (k:Int)*36028797018963968)) ||| BitVec.ofInt IntKind.u64.bits (IntKind.u64.wrap (IntKind.u64.wrap (k2:Int)*1099511627776))).toNat:Int)) (s:=[]) (by omega) (by omega) (D3 _) (by simp) (uE hk hk2),h2,?_⟩
   rw[mi,aY,da (by rw[hd];rfl),cr (m:=2) (fl':=[]) hr rfl rfl,cr (m:=(fS zs n').length) (fl':=[]) hr2 rfl rfl];rfl
  ·by_cases hstr:t=[115,116,114,105,110,103]
   ·obtain⟨d,n',hL,h',hr⟩:=GA h s t hs true (fun e=>by cases e) n3 n4 n5 l6 b7 l8
    refine⟨d,n',hL,h',?_⟩
    have e:(t==[115,116,114,105,110,103])=true:=beq_iff_eq.2 hstr
    rw[mi,aY,cj (beq_eq_false_iff_ne.2 hd),e]
    exact bB hr
   ·obtain⟨d,n',hL,h',hr⟩:=GA h s t hs (t==[98,105,110,97,114,121]) (fun _=>hd) n3 n4 n5 l6 b7 l8
    refine⟨d,n',hL,h',?_⟩
    rw[mi,aY,cj (beq_eq_false_iff_ne.2 hd),cj (beq_eq_false_iff_ne.2 hstr)]
    exact bB hr
theorem Jj{zs:List Int}{n:Nat}(h:Pk zs n)(t s:List UInt8)(hs:e9 s):∃(d:D) (n':Nat),vP d/\Pk zs n'/\
  rk Tryz.prog bn (Task.call 120 [V.p 0 0,V.d (D.s t),V.d (D.s s)] [pk zs n])=some (.d d,[pk zs n']):=by
 have key:∀b:Bool,_:=fun b=>J0 h s t hs b 0 0 0 [] true []
 by_cases h1:t=[105,51,50]
 ·obtain⟨d,n',hL,h',hr⟩:=key (t==[105,51,50])
  refine⟨d,n',hL,h',?_⟩
  rw[Il,da (beq_iff_eq.2 h1)];exact bB hr
 ·by_cases h2:t=[105,54,52]
  ·obtain⟨d,n',hL,h',hr⟩:=key (t==[105,54,52])
   refine⟨d,n',hL,h',?_⟩
   rw[Il,cj (beq_eq_false_iff_ne.2 h1),da (beq_iff_eq.2 h2)];exact bB hr
  ·by_cases h3:t=[105,49,54]
   ·obtain⟨d,n',hL,h',hr⟩:=key (t==[105,49,54])
    refine⟨d,n',hL,h',?_⟩
    rw[Il,cj (beq_eq_false_iff_ne.2 h1),cj (beq_eq_false_iff_ne.2 h2),da (beq_iff_eq.2 h3)];exact bB hr
   ·obtain⟨d,n',hL,h',hr⟩:=key (t==[105,56])
    refine⟨d,n',hL,h',?_⟩
    rw[Il,cj (beq_eq_false_iff_ne.2 h1),cj (beq_eq_false_iff_ne.2 h2),cj (beq_eq_false_iff_ne.2 h3)];exact bB hr
end Go.Dn.Dec.Mx
namespace Go.Dn.Dec.Mx
open Go.Proofs
set_option linter.unusedVariables false
set_option linter.unusedSimpArgs false
def TB(t:List UInt8):Prop:=t.length<=442/\iT t
def NB(n:Nat)(w:List UInt8):Prop:=w.length<=n/\eb w
theorem Cx{i:Nat}(h:i<2):NB 2 ([97]++[UInt8.ofNat (IntKind.u8.wrap (IntKind.i64.wrap (48+(i:Int)))).toNat]):=by
 match i,h with
 |0,_=>exact⟨by decide,ao (by decide)⟩
 |1,_=>exact⟨by decide,ao (by decide)⟩
theorem Ci{i:Nat}(h:i<5):NB 2 ([102]++[UInt8.ofNat (IntKind.u8.wrap (IntKind.i64.wrap (97+(i:Int)))).toNat]):=by
 match i,h with
 |0,_=>exact⟨by decide,ao (by decide)⟩
 |1,_=>exact⟨by decide,ao (by decide)⟩
 |2,_=>exact⟨by decide,ao (by decide)⟩
 |3,_=>exact⟨by decide,ao (by decide)⟩
 |4,_=>exact⟨by decide,ao (by decide)⟩
theorem AN{i:Nat}(h:i<3):NB 3 ([109]++[UInt8.ofNat (IntKind.u8.wrap (IntKind.i64.wrap (48+(i:Int)))).toNat]):=by
 match i,h with
 |0,_=>exact⟨by decide,ao (by decide)⟩
 |1,_=>exact⟨by decide,ao (by decide)⟩
 |2,_=>exact⟨by decide,ao (by decide)⟩
theorem Ce{i:Nat}(h:i<2):NB 1 [UInt8.ofNat (IntKind.u8.wrap (IntKind.i64.wrap (66+(i:Int)))).toNat]:=by
 match i,h with
 |0,_=>exact⟨by decide,ao (by decide)⟩
 |1,_=>exact⟨by decide,ao (by decide)⟩
def dj(d:D):Prop:=∃(h:Bool) (id r:Int) (t nm:List UInt8) (hi:Bool) (k n u:Int) (s:List UInt8),
 d = .g [.b h,.i .i64 id,.i .i64 r,.s t,.s nm,.b hi,.i .i64 k,.i .i64 n,.i .u64 u,.s s,.l true []]/\0<=id/\id<=1000/\0<=r/\r<=2/\TB t/\NB 2 nm/\
  (hi=true->1<=k)/\0<=k/\k<=5/\-1000<=n/\n<=1000/\0<=u/\u<18446744073709551616/\(s.length<=103/\(hi=true->ki k u s))
theorem dj.width{d:D}(h:dj d):d.width=11:=by
 obtain⟨_,_,_,_,_,_,_,_,_,_,rfl,_⟩:=h;rfl
theorem oB{l:List D}(h:∀x∈l,dj x):bw 11 l=true:=by
 cases l with
 |nil=>rfl
 |cons x l=>
  have:=(h x (by simp)).width
  simp[bw,this]
theorem Gs{zs:List Int}{n:Nat}(h:Pk zs n)(s:List UInt8)(hs:e9 s):∃(t:List UInt8) (n':Nat),TB t/\Pk zs n'/\
  rk Tryz.prog bn (Task.call 55 [V.p 0 0,V.d (D.s s),V.d (D.i .i64 0)] [pk zs n])=some (.d (.s t),[pk zs n']):=by
 obtain⟨t,n',a,b,c⟩:=KQ zs n s h hs
 exact⟨t,n',⟨a,b⟩,c⟩
theorem tO(zs:List Int)(s:List UInt8)(hs:e9 s)(N:Nat)(hN:N<=2):∀(m i n:Nat) (b:Bool) (l:List D),i+m=N->Pk zs n->l.length=i->(∀x∈l,dj x)->
  ∃(b':Bool) (l':List D) (n':Nat),l'.length<=2/\(∀x∈l',dj x)/\Pk zs n'/\
   rk Tryz.prog bn (Task.at_ 54 1 [false,true,false,true,true] (sv 31 [(0,V.p 0 0),(1,V.d (D.s s)),(5,V.d (D.l b l)),(6,V.d (D.i .i64 (i:Int))),(7,V.d (D.i .i64 (N:Int)))]) [(5,11)] [Ob.cells (fS zs n) []])=some (.d (.l b' l'),[pk zs n'])
 |0,i,n,b,l,e,h,hl,hf=>by
  refine⟨b,l,n,by omega,hf,h,?_⟩
  rw[zV,bc (by omega)];rfl
 |m+1,i,n,b,l,e,h,hl,hf=>by
  obtain⟨t,n2,ht,h2,hr⟩:=Gs h s hs
  have w1:IntKind.i64.wrap ((i:Int)+1)=((i+1:Nat):Int):=by rw[wrap_i64]<;>omega
  have hf':∀x∈l++[D.g [D.b true,D.i .i64 ((i+1:Nat):Int),D.i .i64 0,D.s t,D.s ([97]++[UInt8.ofNat (IntKind.u8.wrap (IntKind.i64.wrap (48+(i:Int)))).toNat]),D.b false,D.i .i64 0,D.i .i64 0,D.i .u64 0,D.s [],D.l true []]],dj x:=by
   intro x hx
   rcases List.mem_append.1 hx with hx|hx
   ·exact hf x hx
   ·simp only[List.mem_singleton]at hx
    subst hx
    exact⟨_,_,_,_,_,_,_,_,_,_,rfl,by omega,by omega,by omega,by omega,ht,Cx (by omega),by simp,by omega,by omega,by omega,by omega,by omega,by omega,by simp⟩
  obtain⟨b',l',n',q1,q2,q3,q4⟩:=tO zs s hs N hN m (i+1) n2 (b&&false) _ (by omega) h2 (by simp[hl]) hf'
  refine⟨b',l',n',q1,q2,q3,?_⟩
  rw[zV,bf (by omega),wW (m:=(fS zs n).length) (fl':=[]) hr rfl rfl,oB hf,ba,Bool.or_true,ba,aH (by omega),w1]
  exact bB q4
theorem IK{zs:List Int}{n:Nat}(h:Pk zs n)(s:List UInt8)(hs:e9 s):∃(b:Bool) (l:List D) (n':Nat),l.length<=2/\(∀x∈l,dj x)/\Pk zs n'/\
  rk Tryz.prog bn (Task.call 54 [V.p 0 0,V.d (D.s s)] [pk zs n])=some (.d (.l b l),[pk zs n']):=by
 obtain⟨k,n1,hk,h1,hr⟩:=eJ h (m:=3) 3 rfl (by omega) (by omega)
 obtain⟨b,l,n',q1,q2,q3,q4⟩:=tO zs s hs k (by omega) k 0 n1 true [] (by omega) h1 rfl (by simp)
 refine⟨b,l,n',q1,q2,q3,?_⟩
 rw[MH,cr (m:=2) (fl':=[]) hr rfl rfl]
 exact bB q4
end Go.Dn.Dec.Mx
namespace Go.Dn.Dec.Mx
open Go.Proofs
set_option linter.unusedVariables false
set_option linter.unusedSectionVars false
set_option linter.unusedSimpArgs false
theorem KK{f:Task->Option Out}{t:Task}{gs:List D}{cs:List V}{fl fl':Fl}{m w:Nat}{K:List V->List D->Tr}(h:f t=some (.d (.g gs),[.cells cs fl]))(hm:cs.length=m)(hf:(fl==fl')=true)(hw:gs.length=w):
  aC f (.call t fun o=>gE o.snd fun x l2=>fk x fun c g=>aM (c.length==m) (aM (g==fl') (jZ l2 (aW o.fst fun d=>xj w d fun y=>K c y))))=aC f (K cs gs):=by
 rw[cE h]
 show aC f (aM (cs.length==m) (aM (fl==fl') (xj w (.g gs) fun y=>K cs y)))=_
 rw[hm,beq_self_eq_true,ba,hf,ba,sn,if_pos hw]
def fw(zs:List Int)(t:Task):Prop:=∃(b':Bool) (l':List D) (n':Nat),l'.length<=5/\(∀x∈l',dj x)/\Pk zs n'/\rk Tryz.prog bn t=some (.d (.l b' l'),[pk zs n'])
abbrev fc(h:Bool)(id r:Int)(t nm:List UInt8)(hi:Bool)(k n u:Int)(s:List UInt8):Ob:=
 Ob.cells [V.d (D.b h),V.d (D.i .i64 id),V.d (D.i .i64 r),V.d (D.s t),V.d (D.s nm),V.d (D.b hi),V.d (D.i .i64 k),V.d (D.i .i64 n),V.d (D.i .u64 u),V.d (D.s s),V.d (D.l true [])] []
abbrev JV(s:List UInt8)(u b:Bool)(l:List D)(i N:Int)(o:Ob):Task:=
 Task.at_ 53 1 [false,true,false,true,true] (sv 100 [(0,V.p 0 0),(2,V.d (D.s s)),(3,V.d (D.b u)),(9,V.d (D.l b l)),(10,V.d (D.i .i64 i)),(11,V.d (D.i .i64 N))]) [(9,11)] [o]
abbrev JW(s:List UInt8)(u b:Bool)(l:List D)(i N:Int)(f o:Ob):Task:=
 Task.at_ 53 1 [true,true,true,false,false,true,false,false,true,false,true,true] (sv 100 [(0,V.p 0 0),(2,V.d (D.s s)),(3,V.d (D.b u)),(9,V.d (D.l b l)),(10,V.d (D.i .i64 i)),(11,V.d (D.i .i64 N)),(12,V.p 1 0)]) [(9,11)] [f,o]
abbrev KS(s:List UInt8)(u b:Bool)(l:List D)(i N:Int)(c:Bool)(f o:Ob):Task:=
 Task.at_ 53 1 [true,false,true,false,true,false,true,true,false,false,true,false,false,true,false,true,true] (sv 100 [(0,V.p 0 0),(2,V.d (D.s s)),(3,V.d (D.b u)),(9,V.d (D.l b l)),(10,V.d (D.i .i64 i)),(11,V.d (D.i .i64 N)),(12,V.p 1 0),(83,V.d (D.b c))]) [(9,11)] [f,o]
abbrev L0(s:List UInt8)(u b:Bool)(l:List D)(i N:Int)(f o:Ob):Task:=
 Task.at_ 53 1 [true,true,false,false,true,false,false,true,false,true,true] (sv 100 [(0,V.p 0 0),(2,V.d (D.s s)),(3,V.d (D.b u)),(9,V.d (D.l b l)),(10,V.d (D.i .i64 i)),(11,V.d (D.i .i64 N)),(12,V.p 1 0)]) [(9,11)] [f,o]
abbrev Ii(s:List UInt8)(u b:Bool)(l:List D)(i N:Int)(c:Bool)(o:Ob):Task:=
 Task.at_ 53 1 [true,false,false,false,true,false,true,true] (sv 100 [(0,V.p 0 0),(2,V.d (D.s s)),(3,V.d (D.b u)),(9,V.d (D.l b l)),(10,V.d (D.i .i64 i)),(11,V.d (D.i .i64 N)),(26,V.d (D.b c))]) [(9,11)] [o]
theorem fw.of_eq{zs:List Int}{t t2:Task}(h:fw zs t2)(e:rk Tryz.prog bn t=aC (rk Tryz.prog bn) (Tr.call t2 Tr.ret)):fw zs t:=by
 obtain⟨b,l,n,h1,h2,h3,h4⟩:=h
 exact⟨b,l,n,h1,h2,h3,by rw[e];exact bB h4⟩
section
variable {zs : List Int} {s : List UInt8} (hs : e9 s) {u b : Bool} {l : List D} {i N : Nat} (hl : l.length = i) (hi5 : i < 5) (hf : ∀ x ∈ l, dj x)
include hs hl hi5 hf
theorem Jd{h:Bool}{id r:Int}{t nm:List UInt8}{hi:Bool}{k n u':Int}{s':List UInt8}{m:Nat}
  (hg:fw zs (JV s u (b&&false) (l++[D.g [.b h,.i .i64 id,.i .i64 r,.s t,.s nm,.b hi,.i .i64 k,.i .i64 n,.i .u64 u',.s s',.l true []]]) ((i+1:Nat):Int) (N:Int) (pk zs m))):
  fw zs (JW s u b l (i:Int) (N:Int) (fc h id r t nm hi k n u' s') (pk zs m)):=by
 refine hg.of_eq ?_
 have w1:IntKind.i64.wrap ((i:Int)+1)=((i+1:Nat):Int):=by rw[wrap_i64]<;>omega
 rw[Bv,oB hf,ba,Bool.or_true,ba,aH (by omega),w1]
def KX(zs:List Int)(s:List UInt8)(u b:Bool)(l:List D)(i N:Nat):Prop:=∀(x:D) (m:Nat),dj x->Pk zs m->fw zs (JV s u (b&&false) (l++[x]) ((i+1:Nat):Int) (N:Int) (pk zs m))
theorem LG(hN:KX zs s u b l i N){c h:Bool}{id r:Int}{t nm:List UInt8}{m:Nat}(hp:Pk zs m)(hid:0<=id/\id<=1000)(hr:0<=r/\r<=2)(ht:TB t)(hnm:NB 2 nm):
  fw zs (KS s u b l (i:Int) (N:Int) c (fc h id r t nm false 0 0 0 []) (pk zs m)):=by
 obtain⟨k,m2,hk,h2,hr2⟩:=eJ hp (m:=6) 6 rfl (by omega) (by omega)
 obtain⟨d,m3,⟨ck,cn,cu,cs,rfl,q1,q2,q3,q4,q5,q6,q7⟩,h3,hr3⟩:=Jj h2 t s hs
 have plain:∀r':Int,0<=r'/\r'<=2->fw zs (JW s u b l (i:Int) (N:Int) (fc h id r' t nm false 0 0 0 []) (pk zs m2)):=fun r' hr'=>
  Jd hs hl hi5 hf (hN _ _ ⟨_,_,_,_,_,_,_,_,_,_,rfl,hid.1,hid.2,hr'.1,hr'.2,ht,hnm,by simp,by omega,by omega,by omega,by omega,by omega,by omega,by simp⟩ h2)
 have made:∀r':Int,0<=r'/\r'<=2->fw zs (JW s u b l (i:Int) (N:Int) (fc h id r' t nm true ck cn cu cs) (pk zs m3)):=fun r' hr'=>
  Jd hs hl hi5 hf (hN _ _ ⟨_,_,_,_,_,_,_,_,_,_,rfl,hid.1,hid.2,hr'.1,hr'.2,ht,hnm,fun _=>q1,by omega,q2,q3,q4,q5,q6,q7.1,fun _=>q7.2⟩ h3)
 cases c with
 |true=>
  by_cases hk0:k=0
  ·refine(made 0 (by omega)).of_eq ?_
   rw[ix,bk,cr (m:=(fS zs m).length) (fl':=[]) hr2 rfl rfl,cm (by omega),KK (m:=(fS zs m2).length) (fl':=[]) (w:=5) hr3 rfl rfl rfl]
   rfl
  ·refine(plain 0 (by omega)).of_eq ?_
   rw[ix,bk,cr (m:=(fS zs m).length) (fl':=[]) hr2 rfl rfl,bO (by omega)]
 |false=>
  by_cases hk0:k=0
  ·refine(made r hr).of_eq ?_
   rw[ix,aY,cr (m:=(fS zs m).length) (fl':=[]) hr2 rfl rfl,cm (by omega),KK (m:=(fS zs m2).length) (fl':=[]) (w:=5) hr3 rfl rfl rfl]
   rfl
  ·refine(plain r hr).of_eq ?_
   rw[ix,aY,cr (m:=(fS zs m).length) (fl':=[]) hr2 rfl rfl,bO (by omega)]
theorem Ku(hN:KX zs s u b l i N){h:Bool}{id:Int}{t nm:List UInt8}{m:Nat}(hp:Pk zs m)(hid:0<=id/\id<=1000)(ht:TB t)(hnm:NB 2 nm):
  fw zs (L0 s u b l (i:Int) (N:Int) (fc h id 0 t nm false 0 0 0 []) (pk zs m)):=by
 have hsl:=hs.len
 cases hu:u with
 |true=>
  subst hu
  refine(Jd hs hl hi5 hf (hN _ _ ⟨h,id,0,t,nm,false,0,0,0,[],rfl,hid.1,hid.2,by omega,by omega,ht,hnm,by simp,by omega,by omega,by omega,by omega,by omega,by omega,by simp⟩ hp)).of_eq ?_
  rw[iU,jP]
 |false=>
  subst hu
  obtain⟨k,m2,hk,h2,hr2⟩:=eJ hp (m:=4) 4 rfl (by omega) (by omega)
  have hx:∃r:Int,([D.i IntKind.i64 0,D.i IntKind.i64 0,D.i IntKind.i64 1,D.i IntKind.i64 2]:List D)[k]?=some (.i .i64 r)/\0<=r/\r<=2:=by
   rcases k with _|_|_|_|k
   all_goals first
    |(refine⟨_,rfl,?_,?_⟩<;>omega)
    |omega
  obtain⟨r,hr,hr0⟩:=hx
  obtain⟨k3,m3,hk3,h3,hr3⟩:=eJ h2 (m:=4) 4 rfl (by omega) (by omega)
  have g:∀(c:Bool) (m':Nat),Pk zs m'->fw zs (KS s false b l (i:Int) (N:Int) c (fc h id r t nm false 0 0 0 []) (pk zs m')):=fun c m' hm'=>LG hs hl hi5 hf hN hm' hid hr0 ht hnm
  by_cases hr1:r=1
  ·by_cases hP:t=s++[80]
   ·refine(g (decide ((k3:Int)>0)) m3 h3).of_eq ?_
    rw[iU,iL,cr (m:=(fS zs m).length) (fl':=[]) hr2 rfl rfl,GF hr,cm hr1,aH (by omega),da (beq_iff_eq.2 hP),cr (m:=(fS zs m2).length) (fl':=[]) hr3 rfl rfl]
   ·by_cases hU:t=s++[85]
    ·refine(g (decide ((k3:Int)>0)) m3 h3).of_eq ?_
     rw[iU,iL,cr (m:=(fS zs m).length) (fl':=[]) hr2 rfl rfl,GF hr,cm hr1,aH (by omega),cj (beq_eq_false_iff_ne.2 hP),aH (by omega),da (beq_iff_eq.2 hU),cr (m:=(fS zs m2).length) (fl':=[]) hr3 rfl rfl]
    ·refine(g false m2 h2).of_eq ?_
     rw[iU,iL,cr (m:=(fS zs m).length) (fl':=[]) hr2 rfl rfl,GF hr,cm hr1,aH (by omega),cj (beq_eq_false_iff_ne.2 hP),aH (by omega),cj (beq_eq_false_iff_ne.2 hU)]
  ·refine(g false m2 h2).of_eq ?_
   rw[iU,iL,cr (m:=(fS zs m).length) (fl':=[]) hr2 rfl rfl,GF hr,bO hr1]
theorem LH(hN:KX zs s u b l i N){m:Nat}(hp:Pk zs m):fw zs (Ii s u b l (i:Int) (N:Int) true (pk zs m)):=by
 obtain⟨k,m2,hk,h2,hr2⟩:=eJ hp (m:=6) 6 rfl (by omega) (by omega)
 obtain⟨k3,m3,hk3,h3,hr3⟩:=eJ h2 (m:=3) 3 rfl (by omega) (by omega)
 obtain⟨t,m4,ht,h4,hr4⟩:=Gs h3 s hs
 have w1:IntKind.i64.wrap (1+(i:Int))=1+(i:Int):=by rw[wrap_i64]<;>omega
 have hik:(0:Int)<=(i:Int)*(k3:Int)/\(i:Int)*(k3:Int)<=12:=by
  have h1:(i:Int)*(k3:Int)=((i*k3:Nat):Int):=by push_cast;rfl
  have h2:i*k3<=4*3:=Nat.mul_le_mul (by omega) (by omega)
  omega
 have w2:IntKind.i64.wrap ((i:Int)*(k3:Int))=(i:Int)*(k3:Int):=by rw[wrap_i64]<;>omega
 have w3:IntKind.i64.wrap ((i:Int)*(k3:Int)*8)=(i:Int)*(k3:Int)*8:=by rw[wrap_i64]<;>omega
 have w4:IntKind.i64.wrap (1+(i:Int)+(i:Int)*(k3:Int)*8)=1+(i:Int)+(i:Int)*(k3:Int)*8:=by rw[wrap_i64]<;>omega
 by_cases hk0:(k:Int)>0
 ·refine(Ku hs hl hi5 hf hN (h:=decide ((k:Int)>0)) (id:=1+(i:Int)+(i:Int)*(k3:Int)*8) (t:=t) (nm:=[102]++[UInt8.ofNat (IntKind.u8.wrap (IntKind.i64.wrap (97+(i:Int)))).toNat]) h4 (by omega) ht (Ci (by omega))).of_eq ?_
  rw[p8,bk,cr (m:=(fS zs m).length) (fl':=[]) hr2 rfl rfl,cr (m:=(fS zs m2).length) (fl':=[]) hr3 rfl rfl,wW (m:=(fS zs m3).length) (fl':=[]) hr4 rfl rfl,cj (by simpa using hk0),w1,w2,w3,w4]
 ·refine(Ku hs hl hi5 hf hN (h:=decide ((k:Int)>0)) (id:=0) (t:=t) (nm:=[102]++[UInt8.ofNat (IntKind.u8.wrap (IntKind.i64.wrap (97+(i:Int)))).toNat]) h4 (by omega) ht (Ci (by omega))).of_eq ?_
  rw[p8,bk,cr (m:=(fS zs m).length) (fl':=[]) hr2 rfl rfl,cr (m:=(fS zs m2).length) (fl':=[]) hr3 rfl rfl,wW (m:=(fS zs m3).length) (fl':=[]) hr4 rfl rfl,da (by simpa using hk0)]
end
theorem yb{zs:List Int}{s:List UInt8}{u b:Bool}{l:List D}{i N:Int}(hl:l.length<=5)(hf:∀x∈l,dj x){m:Nat}(hp:Pk zs m):fw zs (Ii s u b l i N false (pk zs m)):=
 ⟨b,l,m,hl,hf,hp,by rw[p8,aY];rfl⟩
theorem Kv{zs:List Int}{s:List UInt8}(hs:e9 s)(u:Bool){N:Nat}(hN:N<=5):∀(j i:Nat) (b:Bool) (l:List D) (m:Nat),i+j=max N 1->l.length=i->(∀x∈l,dj x)->Pk zs m->
  fw zs (JV s u b l (i:Int) (N:Int) (pk zs m))
 |0,i,b,l,m,e,hl,hf,hp=>by
  have hend:fw zs (Ii s u b l (i:Int) (N:Int) false (pk zs m)):=yb (by omega) hf hp
  refine hend.of_eq ?_
  cases u with
  |true=>
   have e0:((i:Int)==0)=false:=beq_eq_false_iff_ne.2 (by omega)
   rw[lT,bc (by omega),bk,e0]
  |false=>rw[lT,bc (by omega),aY]
 |j+1,i,b,l,m,e,hl,hf,hp=>by
  have nx:KX zs s u b l i N:=fun x m' hx hm'=>Kv hs u hN j (i+1) (b&&false) (l++[x]) m' (by omega) (by simp[hl]) (fun y hy=>by
   rcases List.mem_append.1 hy with hy|hy
   ·exact hf y hy
   ·simp only[List.mem_singleton]at hy;subst hy;exact hx) hm'
  have good:fw zs (Ii s u b l (i:Int) (N:Int) true (pk zs m)):=LH hs hl (by omega) hf nx hp
  by_cases hi:i<N
  ·refine good.of_eq ?_
   rw[lT,bf (by omega)]
  ·cases u with
   |true=>
    refine good.of_eq ?_
    have e0:((i:Int)==0)=true:=beq_iff_eq.2 (by omega)
    rw[lT,bc (by omega),bk,e0]
   |false=>
    refine(yb (u:=false) (s:=s) (b:=b) (i:=(i:Int)) (N:=(N:Int)) (by omega) hf hp).of_eq ?_
    rw[lT,bc (by omega),aY]
theorem ov{zs:List Int}{n:Nat}(h:Pk zs n)(M:Int){most:Nat}(hM:M=(most:Int))(hm:most<=5)(s:List UInt8)(hs:e9 s)(u:Bool):∃(b:Bool) (l:List D) (n':Nat),l.length<=5/\(∀x∈l,dj x)/\Pk zs n'/\
  rk Tryz.prog bn (Task.call 53 [V.p 0 0,V.d (D.i .i64 M),V.d (D.s s),V.d (D.b u)] [pk zs n])=some (.d (.l b l),[pk zs n']):=by
 subst hM
 have w1:IntKind.i64.wrap ((most:Int)+1)=((most+1:Nat):Int):=by rw[wrap_i64]<;>omega
 obtain⟨k,n1,hk,h1,hr⟩:=eJ h (m:=most+1) _ rfl (by omega) (by omega)
 obtain⟨b,l,n',q1,q2,q3,q4⟩:=Kv hs u (N:=k) (by omega) (max k 1) 0 true [] n1 (by omega) rfl (by simp) h1
 refine⟨b,l,n',q1,q2,q3,?_⟩
 rw[MG,w1,cr (m:=2) (fl':=[]) hr rfl rfl]
 exact bB q4
end Go.Dn.Dec.Mx
namespace Go.Dn.Dec.Mx
open Go.Proofs
set_option linter.unusedVariables false
set_option linter.unusedSimpArgs false
set_option linter.unusedSectionVars false
theorem pS{f:Task->Option Out}{t:Task}{b:Bool}{l:List D}{cs:List V}{fl fl':Fl}{m:Nat}{K:List V->Bool->List D->Tr}(h:f t=some (.d (.l b l),[.cells cs fl]))(hm:cs.length=m)(hf:(fl==fl')=true):
  aC f (.call t fun o=>gE o.snd fun x l2=>fk x fun c g=>aM (c.length==m) (aM (g==fl') (jZ l2 (aW o.fst fun d=>dZ d fun y z=>K c y z))))=aC f (K cs b l):=by
 rw[cE h]
 show aC f (aM (cs.length==m) (aM (fl==fl') (K cs b l)))=_
 rw[hm,beq_self_eq_true,ba,hf,ba]
def ka(x:D):Prop:=∃(nm:List UInt8) (h:Bool) (n:Int),x = .g [.s nm,.b h,.i .i64 n]/\NB 1 nm/\0<=n/\n<=1000
def lU(x:D):Prop:=∃(nm:List UInt8) (ow:Bool) (ret:List UInt8) (ab:Bool) (al:List D) (tb:Bool) (tl:List D),x = .g [.s nm,.b ow,.s ret,.l ab al,.l tb tl]/\NB 3 nm/\TB ret/\al.length<=2/\tl.length<=1/\(∀y∈al,dj y)/\∀y∈tl,dj y
def Cy(x:D):Prop:=∃(kd:Int) (nm ty:List UInt8) (ck cn cu:Int) (cs:List UInt8) (cb:Bool) (cl:List D) (fb:Bool) (fl:List D) (mb:Bool) (ml:List D) (ex:List UInt8) (tb:Bool) (tl:List D),
 x = .g [.i .i64 kd,.s nm,.s ty,.i .i64 ck,.i .i64 cn,.i .u64 cu,.s cs,.l cb cl,.l fb fl,.l mb ml,.s ex,.l tb tl]/\1<=kd/\kd<=7/\NB 1 nm/\(ty.length<=15/\(kd=1\/kd=3->iT ty))/\
  0<=ck/\ck<=5/\(kd=3->1<=ck)/\-1000<=cn/\cn<=1000/\0<=cu/\cu<18446744073709551616/\(cs.length<=1/\(kd=3->ki ck cu cs))/\cl.length<=2/\(∀y∈cl,vP y)/\
  fl.length<=5/\(∀y∈fl,dj y)/\ml.length<=3/\(∀y∈ml,ka y)/\(ex.length<=1/\(ex=[]\/eb ex))/\tl.length<=3/\(∀y∈tl,lU y)/\
  (kd=2->fl=[]/\tl=[]/\ex=[])/\(4<=kd/\kd<=6->ml=[]/\tl=[]/\ex=[])/\(kd=7->fl=[]/\ml=[])
abbrev ec(b:Bool)(ml:List D):Ob := .cells [V.d (D.i .i64 2),V.d (D.s [69]),V.d (D.s []),V.d (D.i .i64 0),V.d (D.i .i64 0),V.d (D.i .u64 0),V.d (D.s []),V.d (D.l true []),V.d (D.l true []),V.d (D.l b ml),V.d (D.s []),V.d (D.l true [])] [(9,3)]
abbrev MA(ty:List UInt8):Ob := .cells [V.d (D.i .i64 1),V.d (D.s [84]),V.d (D.s ty),V.d (D.i .i64 0),V.d (D.i .i64 0),V.d (D.i .u64 0),V.d (D.s []),V.d (D.l true []),V.d (D.l true []),V.d (D.l true []),V.d (D.s []),V.d (D.l true [])] []
abbrev Mp(ck cn:Int)(cs:List UInt8)(cl:List D):Ob := .cells [V.d (D.i .i64 3),V.d (D.s [67]),V.d (D.s [84]),V.d (D.i .i64 ck),V.d (D.i .i64 cn),V.d (D.i .u64 0),V.d (D.s cs),V.d (D.l true cl),V.d (D.l true []),V.d (D.l true []),V.d (D.s []),V.d (D.l true [])] []
def nR(zs:List Int)(t:Task):Prop:=∃(l:List D) (n':Nat),l.length=5/\(∀x∈l,Cy x)/\Pk zs n'/\rk Tryz.prog bn t=some (.d (.l true l),[pk zs n'])
theorem nR.of_eq{zs:List Int}{t t2:Task}(h:nR zs t2)(e:rk Tryz.prog bn t=aC (rk Tryz.prog bn) (Tr.call t2 Tr.ret)):nR zs t:=by
 obtain⟨l,n,h1,h2,h3,h4⟩:=h
 exact⟨l,n,h1,h2,h3,by rw[e];exact bB h4⟩
theorem uM:iT [108,105,115,116,60,69,62]:=
 (show aQ (([108,105,115,116]++[60])++[69]++[62]) from((((aq (ao (by decide))).app (ar (by decide)) ⟨60,[],rfl,by decide⟩).Lk (aq (ao (by decide)))).app (ar (by decide)) ⟨62,[],rfl,by decide⟩)).t
theorem yn:iT [109,97,112,60,115,116,114,105,110,103,44,105,54,52,62]:=
 (show aQ (([109,97,112]++[60])++[115,116,114,105,110,103]++[44]++[105,54,52]++[62]) from((((((aq (ao (by decide))).app (ar (by decide)) ⟨60,[],rfl,by decide⟩).Lk (aq (ao (by decide)))).app (ar (by decide)) ⟨44,[],rfl,by decide⟩).Lk (aq (ao (by decide)))).app (ar (by decide)) ⟨62,[],rfl,by decide⟩)).t
theorem GR{zs:List Int}{m:Nat}(hp:Pk zs m){ck cn:Int}{cs ty:List UInt8}{cl:List D}{b:Bool}{ml:List D}(h1:1<=ck/\ck<=5)(h2:-1000<=cn/\cn<=1000)(h3:cs.length<=1/\ki ck 0 cs)(h4:cl.length<=2)(h5:∀y∈cl,vP y)(h6:ty.length<=15/\iT ty)(h7:ml.length<=3)(h8:∀y∈ml,ka y):
  nR zs (Task.at_ 26 1 [true,true,true,true,true,true] (sv 83 [(0,V.p 0 0),(3,V.p 1 0),(7,V.p 2 0),(8,V.p 3 0)]) [] [Mp ck cn cs cl,MA ty,ec b ml,pk zs m]):=by
 obtain⟨b1,l1,m1,p1,p2,p3,p4⟩:=ov hp 4 (most:=4) rfl (by omega) [] (.inl rfl) false
 obtain⟨b2,l2,m2,q1,q2,q3,q4⟩:=ov p3 3 (most:=3) rfl (by omega) [] (.inl rfl) true
 refine⟨_,m2,rfl,?_,q3,by rw[D7,pS (m:=(fS zs m).length) (fl':=[]) p4 rfl rfl,pS (m:=(fS zs m1).length) (fl':=[]) q4 rfl rfl];rfl⟩
 intro x hx
 simp only[List.mem_cons,List.not_mem_nil,or_false]at hx
 rcases hx with rfl|rfl|rfl|rfl|rfl
 ·exact⟨2,_,_,0,0,0,_,_,_,_,_,_,_,_,_,_,rfl,by omega,by omega,⟨by decide,ao (by decide)⟩,⟨by decide,fun h=>by omega⟩,by omega,by omega,by omega,by omega,by omega,by omega,by omega,⟨by decide,fun h=>by omega⟩,by simp,by simp,by simp,by simp,h7,h8,⟨by decide,.inl rfl⟩,by simp,by simp,fun _=>⟨rfl,rfl,rfl⟩,fun h=>by omega,fun h=>by omega⟩
 ·exact⟨1,_,_,0,0,0,_,_,_,_,_,_,_,_,_,_,rfl,by omega,by omega,⟨by decide,ao (by decide)⟩,⟨h6.1,fun _=>h6.2⟩,by omega,by omega,by omega,by omega,by omega,by omega,by omega,⟨by decide,fun h=>by omega⟩,by simp,by simp,by simp,by simp,by simp,by simp,⟨by decide,.inl rfl⟩,by simp,by simp,fun h=>by omega,fun h=>by omega,fun h=>by omega⟩
 ·exact⟨3,_,_,ck,cn,0,_,_,_,_,_,_,_,_,_,_,rfl,by omega,by omega,⟨by decide,ao (by decide)⟩,⟨by decide,fun _=>aq (ao (by decide))⟩,by omega,by omega,fun _=>h1.1,by omega,by omega,by omega,by omega,⟨h3.1,fun _=>h3.2⟩,h4,h5,by simp,by simp,by simp,by simp,⟨by decide,.inl rfl⟩,by simp,by simp,fun h=>by omega,fun h=>by omega,fun h=>by omega⟩
 ·exact⟨4,_,_,0,0,0,_,_,_,_,_,_,_,_,_,_,rfl,by omega,by omega,⟨by decide,ao (by decide)⟩,⟨by decide,fun h=>by omega⟩,by omega,by omega,by omega,by omega,by omega,by omega,by omega,⟨by decide,fun h=>by omega⟩,by simp,by simp,p1,p2,by simp,by simp,⟨by decide,.inl rfl⟩,by simp,by simp,fun h=>by omega,fun _=>⟨rfl,rfl,rfl⟩,fun h=>by omega⟩
 ·exact⟨5,_,_,0,0,0,_,_,_,_,_,_,_,_,_,_,rfl,by omega,by omega,⟨by decide,ao (by decide)⟩,⟨by decide,fun h=>by omega⟩,by omega,by omega,by omega,by omega,by omega,by omega,by omega,⟨by decide,fun h=>by omega⟩,by simp,by simp,q1,q2,by simp,by simp,⟨by decide,.inl rfl⟩,by simp,by simp,fun h=>by omega,fun _=>⟨rfl,rfl,rfl⟩,fun h=>by omega⟩
abbrev JU(i N:Int)(o1 o2:Ob):Task:=Task.at_ 26 1 [false,true,false,true,true] (sv 83 [(0,V.p 0 0),(3,V.p 1 0),(4,V.d (D.i .i64 i)),(5,V.d (D.i .i64 N))]) [] [o1,o2]
theorem Dj{l:List D}(h:∀x∈l,ka x):bw 3 l=true:=by
 cases l with
 |nil=>rfl
 |cons x l=>
  obtain⟨_,_,_,rfl,_⟩:=h x (by simp)
  rfl
theorem Ki{zs:List Int}{m:Nat}{nm:List UInt8}{h:Bool}{n:Int}{b:Bool}{ml:List D}{i N:Nat}(hi:i<=5)(hl:ml.length<=5)(hm:∀y∈ml,ka y)
  (hg:nR zs (JU ((i+1:Nat):Int) (N:Int) (ec (b&&false) (ml++[D.g [.s nm,.b h,.i .i64 n]])) (pk zs m))):
  nR zs (Task.at_ 26 1 [true,true,false,false,true,false,false,true,false,true,true] (sv 83 [(0,V.p 0 0),(3,V.p 1 0),(4,V.d (D.i .i64 (i:Int))),(5,V.d (D.i .i64 (N:Int))),(6,V.p 2 0)]) []
   [Ob.cells [V.d (D.s nm),V.d (D.b h),V.d (D.i .i64 n)] [],ec b ml,pk zs m]):=by
 refine hg.of_eq ?_
 have w1:IntKind.i64.wrap ((i:Int)+1)=((i+1:Nat):Int):=by rw[wrap_i64]<;>omega
 rw[Bu,Dj hm,ba,Bool.or_true,ba,aH (by omega),w1]
theorem Md{zs:List Int}{N:Nat}(hN:N<=2):∀(j i:Nat) (b:Bool) (ml:List D) (m:Nat),i+j=N->ml.length=i+1->(∀y∈ml,ka y)->Pk zs m->nR zs (JU (i:Int) (N:Int) (ec b ml) (pk zs m))
 |0,i,b,ml,m,e,hl,hm,hp=>by
  obtain⟨k,m2,hk,h2,hr2⟩:=eJ hp (m:=4) 4 rfl (by omega) (by omega)
  have hx:∃ty:List UInt8,([D.s [105,51,50],D.s [108,105,115,116,60,69,62],D.s [115,116,114,105,110,103],D.s [109,97,112,60,115,116,114,105,110,103,44,105,54,52,62]]:List D)[k]?=some (.s ty)/\ty.length<=15/\iT ty:=by
   rcases k with _|_|_|_|k
   all_goals first
    |exact⟨_,rfl,by decide,aq (ao (by decide))⟩
    |exact⟨_,rfl,by decide,uM⟩
    |exact⟨_,rfl,by decide,yn⟩
    |omega
  obtain⟨ty,hty,hlen⟩:=hx
  obtain⟨k3,m3,hk3,h3,hr3⟩:=eJ h2 (m:=99) 99 rfl (by omega) (by omega)
  by_cases e1:ty=[105,51,50]
  ·refine(GR h3 (ck:=1) (cn:=(k3:Int)) (cs:=[]) (ty:=ty) (cl:=[]) (b:=b) (ml:=ml) (by omega) (by omega) ⟨by decide,eg (by omega)⟩ (by simp) (by simp) hlen (by omega) hm).of_eq ?_
   rw[j7,bc (by omega),cr (m:=(fS zs m).length) (fl':=[]) hr2 rfl rfl,xi hty,da (beq_iff_eq.2 e1),cr (m:=(fS zs m2).length) (fl':=[]) hr3 rfl rfl]
  ·by_cases e2:ty=[108,105,115,116,60,69,62]
   ·refine(GR h2 (ck:=5) (cn:=0) (cs:=[]) (ty:=ty) (cl:=[D.g [D.i .i64 4,D.i .i64 0,D.i .u64 0,D.s [69,46,65],D.l true []],D.g [D.i .i64 1,D.i .i64 0,D.i .u64 0,D.s [],D.l true []]]) (b:=b) (ml:=ml) (by omega) (by omega) ⟨by decide,eg (by omega)⟩ (by simp) (fun y hy=>?_) hlen (by omega) hm).of_eq ?_
    ·simp only[List.mem_cons,List.not_mem_nil,or_false]at hy
     rcases hy with rfl|rfl
     ·exact iq (by omega) (by omega) (by omega) (by simp) (gJ (ao (by decide)))
     ·exact iq (by omega) (by omega) (by omega) (by simp) (eg (by omega))
    ·rw[j7,bc (by omega),cr (m:=(fS zs m).length) (fl':=[]) hr2 rfl rfl,xi hty,cj (beq_eq_false_iff_ne.2 e1),da (beq_iff_eq.2 e2)]
   ·by_cases e3:ty=[115,116,114,105,110,103]
    ·refine(GR h2 (ck:=3) (cn:=0) (cs:=[99]) (ty:=ty) (cl:=[]) (b:=b) (ml:=ml) (by omega) (by omega) ⟨by decide,lG ⟨by decide,by decide⟩⟩ (by simp) (by simp) hlen (by omega) hm).of_eq ?_
     rw[j7,bc (by omega),cr (m:=(fS zs m).length) (fl':=[]) hr2 rfl rfl,xi hty,cj (beq_eq_false_iff_ne.2 e1),cj (beq_eq_false_iff_ne.2 e2),da (beq_iff_eq.2 e3)]
    ·refine(GR h2 (ck:=5) (cn:=0) (cs:=[]) (ty:=ty) (cl:=[]) (b:=b) (ml:=ml) (by omega) (by omega) ⟨by decide,eg (by omega)⟩ (by simp) (by simp) hlen (by omega) hm).of_eq ?_
     rw[j7,bc (by omega),cr (m:=(fS zs m).length) (fl':=[]) hr2 rfl rfl,xi hty,cj (beq_eq_false_iff_ne.2 e1),cj (beq_eq_false_iff_ne.2 e2),cj (beq_eq_false_iff_ne.2 e3)]
 |j+1,i,b,ml,m,e,hl,hm,hp=>by
  obtain⟨k,m2,hk,h2,hr2⟩:=eJ hp (m:=2) 2 rfl (by omega) (by omega)
  obtain⟨k3,m3,hk3,h3,hr3⟩:=eJ h2 (m:=9) 9 rfl (by omega) (by omega)
  have w1:IntKind.i64.wrap (10*(i:Int))=10*(i:Int):=by rw[wrap_i64]<;>omega
  have w2:IntKind.i64.wrap (5+10*(i:Int))=5+10*(i:Int):=by rw[wrap_i64]<;>omega
  have w3:IntKind.i64.wrap (5+10*(i:Int)+(k3:Int))=5+10*(i:Int)+(k3:Int):=by rw[wrap_i64]<;>omega
  have nx:∀(nm:List UInt8) (h:Bool) (n:Int) (m':Nat),NB 1 nm->0<=n->n<=1000->Pk zs m'->nR zs (JU ((i+1:Nat):Int) (N:Int) (ec (b&&false) (ml++[D.g [.s nm,.b h,.i .i64 n]])) (pk zs m')):=fun nm h n m' a1 a2 a3 hm'=>
   Md hN j (i+1) (b&&false) _ m' (by omega) (by simp[hl]) (fun y hy=>by
    rcases List.mem_append.1 hy with hy|hy
    ·exact hm y hy
    ·simp only[List.mem_singleton]at hy;subst hy;exact⟨_,_,_,rfl,a1,a2,a3⟩) hm'
  by_cases hk0:k=0
  ·refine(Ki (b:=b) (ml:=ml) (by omega) (by omega) hm (nx [UInt8.ofNat (IntKind.u8.wrap (IntKind.i64.wrap (66+(i:Int)))).toNat] true (5+10*(i:Int)+(k3:Int)) m3 (Ce (by omega)) (by omega) (by omega) h3)).of_eq ?_
   rw[j7,bf (by omega),cr (m:=(fS zs m).length) (fl':=[]) hr2 rfl rfl,cm (by omega),cr (m:=(fS zs m2).length) (fl':=[]) hr3 rfl rfl,w1,w2,w3]
  ·refine(Ki (b:=b) (ml:=ml) (by omega) (by omega) hm (nx [UInt8.ofNat (IntKind.u8.wrap (IntKind.i64.wrap (66+(i:Int)))).toNat] false 0 m2 (Ce (by omega)) (by omega) (by omega) h2)).of_eq ?_
   rw[j7,bf (by omega),cr (m:=(fS zs m).length) (fl':=[]) hr2 rfl rfl,bO (by omega)]
theorem Ek{zs:List Int}{n:Nat}(h:Pk zs n):nR zs (Task.call 26 [V.p 0 0] [pk zs n]):=by
 obtain⟨k,n1,hk,h1,hr⟩:=eJ h (m:=3) 3 rfl (by omega) (by omega)
 refine(Md (N:=k) (by omega) k 0 true [D.g [D.s [65],D.b false,D.i .i64 0]] n1 (by omega) rfl (fun y hy=>?_) h1).of_eq ?_
 ·simp only[List.mem_singleton]at hy;subst hy;exact⟨_,_,_,rfl,⟨by decide,ao (by decide)⟩,by omega,by omega⟩
 ·rw[ME,cr (m:=2) (fl':=[]) hr rfl rfl];rfl
end Go.Dn.Dec.Mx
namespace Go.Dn.Dec.Mx
open Go.Proofs
set_option linter.unusedVariables false
set_option linter.unusedSimpArgs false
set_option linter.unusedSectionVars false
abbrev vc(b:Bool)(l:List D):Ob := .cells [V.d (D.i .i64 7),V.d (D.s [86]),V.d (D.s []),V.d (D.i .i64 0),V.d (D.i .i64 0),V.d (D.i .u64 0),V.d (D.s []),V.d (D.l true []),V.d (D.l true []),V.d (D.l true []),V.d (D.s []),V.d (D.l b l)] [(11,5)]
abbrev xc(b:Bool)(l:List D):Ob := .cells [V.d (D.i .i64 6),V.d (D.s [88]),V.d (D.s []),V.d (D.i .i64 0),V.d (D.i .i64 0),V.d (D.i .u64 0),V.d (D.s []),V.d (D.l true []),V.d (D.l b l),V.d (D.l true []),V.d (D.s []),V.d (D.l true [])] []
abbrev qc(b:Bool)(l:List D):Ob := .cells [V.d (D.i .i64 4),V.d (D.s [81]),V.d (D.s []),V.d (D.i .i64 0),V.d (D.i .i64 0),V.d (D.i .u64 0),V.d (D.s []),V.d (D.l true []),V.d (D.l b l),V.d (D.l true []),V.d (D.s []),V.d (D.l true [])] []
abbrev mc(nm:List UInt8)(ow:Bool)(ret:List UInt8)(ab:Bool)(al:List D)(tl:List D):Ob := .cells [V.d (D.s nm),V.d (D.b ow),V.d (D.s ret),V.d (D.l ab al),V.d (D.l true tl)] []
def qa(zs:List Int)(t:Task):Prop:=∃(l:List D) (n':Nat),l.length=4/\(∀x∈l,Cy x)/\Pk zs n'/\rk Tryz.prog bn t=some (.d (.l true l),[pk zs n'])
theorem qa.of_eq{zs:List Int}{t t2:Task}(h:qa zs t2)(e:rk Tryz.prog bn t=aC (rk Tryz.prog bn) (Tr.call t2 Tr.ret)):qa zs t:=by
 obtain⟨l,n,h1,h2,h3,h4⟩:=h
 exact⟨l,n,h1,h2,h3,by rw[e];exact bB h4⟩
abbrev KT(s:List UInt8)(i N:Int)(v x q o:Ob):Task:=Task.at_ 25 1 [false,true,false,true,true,true,true] (sv 72 [(0,V.p 0 0),(1,V.d (D.s s)),(5,V.p 1 0),(6,V.p 2 0),(7,V.p 3 0),(8,V.d (D.i .i64 i)),(9,V.d (D.i .i64 N))]) [] [v,x,q,o]
abbrev KR(s:List UInt8)(i N:Int)(m v x q o:Ob):Task:=Task.at_ 25 1 [true,true,false,false,true,false,false,true,false,true,true,true,true] (sv 72 [(0,V.p 0 0),(1,V.d (D.s s)),(5,V.p 1 0),(6,V.p 2 0),(7,V.p 3 0),(8,V.d (D.i .i64 i)),(9,V.d (D.i .i64 N)),(10,V.p 4 0)]) [] [m,v,x,q,o]
theorem AM{l:List D}(h:∀x∈l,lU x):bw 5 l=true:=by
 cases l with
 |nil=>rfl
 |cons x l=>
  obtain⟨_,_,_,_,_,_,_,rfl,_⟩:=h x (by simp)
  rfl
def K5:D:=D.g [D.b true,D.i .i64 1,D.i .i64 0,D.s [88],D.s [120],D.b false,D.i .i64 0,D.i .i64 0,D.i .u64 0,D.s [],D.l true []]
theorem Kq:dj K5:=⟨true,1,0,[88],[120],false,0,0,0,[],rfl,by omega,by omega,by omega,by omega,⟨by decide,aq (ao (by decide))⟩,⟨by decide,ao (by decide)⟩,by simp,by omega,by omega,by omega,by omega,by omega,by omega,by simp⟩
theorem My{zs:List Int}{s:List UInt8}{b bx bq:Bool}{l lx lq:List D}{i N m:Nat}(hi:i<=5)(hl:l.length<=5)(hm:∀y∈l,lU y){nm ret:List UInt8}{ow ab:Bool}{al tl:List D}
  (hg:qa zs (KT s ((i+1:Nat):Int) (N:Int) (vc (b&&false) (l++[D.g [.s nm,.b ow,.s ret,.l ab al,.l true tl]])) (xc bx lx) (qc bq lq) (pk zs m))):
  qa zs (KR s (i:Int) (N:Int) (mc nm ow ret ab al tl) (vc b l) (xc bx lx) (qc bq lq) (pk zs m)):=by
 refine hg.of_eq ?_
 have w1:IntKind.i64.wrap ((i:Int)+1)=((i+1:Nat):Int):=by rw[wrap_i64]<;>omega
 rw[zU,AM hm,ba,Bool.or_true,ba,aH (by omega),w1]
theorem KH{zs:List Int}{s:List UInt8}(hs:e9 s){bx bq:Bool}{lx lq:List D}(hx:lx.length<=5/\∀y∈lx,dj y)(hq:lq.length<=5/\∀y∈lq,dj y){N:Nat}(hN:N<=3):
  ∀(j i:Nat) (b:Bool) (l:List D) (m:Nat),i+j=N->l.length=i->(∀y∈l,lU y)->Pk zs m->qa zs (KT s (i:Int) (N:Int) (vc b l) (xc bx lx) (qc bq lq) (pk zs m))
 |0,i,b,l,m,e,hl,hm,hp=>by
  refine⟨_,m,rfl,?_,hp,by rw[j6,bc (by omega)];rfl⟩
  intro x hx'
  simp only[List.mem_cons,List.not_mem_nil,or_false]at hx'
  rcases hx' with rfl|rfl|rfl|rfl
  ·exact⟨4,_,_,0,0,0,_,_,_,_,_,_,_,_,_,_,rfl,by omega,by omega,⟨by decide,ao (by decide)⟩,⟨by decide,fun h=>by omega⟩,by omega,by omega,by omega,by omega,by omega,by omega,by omega,⟨by decide,fun h=>by omega⟩,by simp,by simp,hq.1,hq.2,by simp,by simp,⟨by decide,.inl rfl⟩,by simp,by simp,fun h=>by omega,fun _=>⟨rfl,rfl,rfl⟩,fun h=>by omega⟩
  ·exact⟨6,_,_,0,0,0,_,_,_,_,_,_,_,_,_,_,rfl,by omega,by omega,⟨by decide,ao (by decide)⟩,⟨by decide,fun h=>by omega⟩,by omega,by omega,by omega,by omega,by omega,by omega,by omega,⟨by decide,fun h=>by omega⟩,by simp,by simp,hx.1,hx.2,by simp,by simp,⟨by decide,.inl rfl⟩,by simp,by simp,fun h=>by omega,fun _=>⟨rfl,rfl,rfl⟩,fun h=>by omega⟩
  ·exact⟨7,_,_,0,0,0,_,_,_,_,_,_,_,_,_,_,rfl,by omega,by omega,⟨by decide,ao (by decide)⟩,⟨by decide,fun h=>by omega⟩,by omega,by omega,by omega,by omega,by omega,by omega,by omega,⟨by decide,fun h=>by omega⟩,by simp,by simp,by simp,by simp,by simp,by simp,⟨by decide,.inl rfl⟩,by omega,hm,fun h=>by omega,fun h=>by omega,fun _=>⟨rfl,rfl⟩⟩
  ·exact⟨7,_,_,0,0,0,_,_,_,_,_,_,_,_,_,_,rfl,by omega,by omega,⟨by decide,ao (by decide)⟩,⟨by decide,fun h=>by omega⟩,by omega,by omega,by omega,by omega,by omega,by omega,by omega,⟨by decide,fun h=>by omega⟩,by simp,by simp,by simp,by simp,by simp,by simp,⟨by decide,.inr (ao (by decide))⟩,by simp,fun y hy=>by
    simp only[List.mem_singleton]at hy;subst hy
    exact⟨_,_,_,_,_,_,_,rfl,⟨by decide,ao (by decide)⟩,⟨by decide,aq (ao (by decide))⟩,by simp,by simp,by simp,by simp⟩,fun h=>by omega,fun h=>by omega,fun _=>⟨rfl,rfl⟩⟩
 |j+1,i,b,l,m,e,hl,hm,hp=>by
  obtain⟨ab,al,m1,a1,a2,h1,hr1⟩:=IK hp s hs
  obtain⟨k,m2,hk,h2,hr2⟩:=eJ h1 (m:=4) 4 rfl (by omega) (by omega)
  obtain⟨t,m3,ht,h3,hr3⟩:=Gs h2 s hs
  obtain⟨k4,m4,hk4,h4,hr4⟩:=eJ h3 (m:=2) 2 rfl (by omega) (by omega)
  have nx:∀(nm:List UInt8) (ow:Bool) (ret:List UInt8) (tl:List D) (m':Nat),NB 3 nm->TB ret->tl.length<=1->(∀y∈tl,dj y)->Pk zs m'->
    qa zs (KR s (i:Int) (N:Int) (mc nm ow ret ab al tl) (vc b l) (xc bx lx) (qc bq lq) (pk zs m')):=fun nm ow ret tl m' q1 q2 q3 q4 hm'=>
   My (by omega) (by omega) hm (KH hs hx hq hN j (i+1) (b&&false) _ m' (by omega) (by simp[hl]) (fun y hy=>by
    rcases List.mem_append.1 hy with hy|hy
    ·exact hm y hy
    ·simp only[List.mem_singleton]at hy;subst hy;exact⟨_,_,_,_,_,_,_,rfl,q1,q2,a1,q3,a2,q4⟩) hm')
  have hex:∀y∈[K5],dj y:=fun y hy=>by simp only[List.mem_singleton]at hy;subst hy;exact Kq
  by_cases e0:k=0
  ·refine(nx ([109]++[UInt8.ofNat (IntKind.u8.wrap (IntKind.i64.wrap (48+(i:Int)))).toNat]) true [118,111,105,100] [] m2 (AN (by omega)) ⟨by decide,aq (ao (by decide))⟩ (by simp) (by simp) h2).of_eq ?_
   rw[j6,bf (by omega),pS (m:=(fS zs m).length) (fl':=[]) hr1 rfl rfl,cr (m:=(fS zs m1).length) (fl':=[]) hr2 rfl rfl,cm (by omega)]
  ·by_cases e1:k=1
   ·refine(nx ([109]++[UInt8.ofNat (IntKind.u8.wrap (IntKind.i64.wrap (48+(i:Int)))).toNat]) false [118,111,105,100] [K5] m2 (AN (by omega)) ⟨by decide,aq (ao (by decide))⟩ (by simp) hex h2).of_eq ?_
    rw[j6,bf (by omega),pS (m:=(fS zs m).length) (fl':=[]) hr1 rfl rfl,cr (m:=(fS zs m1).length) (fl':=[]) hr2 rfl rfl,bO (by omega),cm (by omega)]
    rfl
   ·by_cases e4:k4=0
    ·refine(nx ([109]++[UInt8.ofNat (IntKind.u8.wrap (IntKind.i64.wrap (48+(i:Int)))).toNat]) false t [K5] m4 (AN (by omega)) ht (by simp) hex h4).of_eq ?_
     rw[j6,bf (by omega),pS (m:=(fS zs m).length) (fl':=[]) hr1 rfl rfl,cr (m:=(fS zs m1).length) (fl':=[]) hr2 rfl rfl,bO (by omega),bO (by omega),wW (m:=(fS zs m2).length) (fl':=[]) hr3 rfl rfl,cr (m:=(fS zs m3).length) (fl':=[]) hr4 rfl rfl,cm (by omega)]
     rfl
    ·refine(nx ([109]++[UInt8.ofNat (IntKind.u8.wrap (IntKind.i64.wrap (48+(i:Int)))).toNat]) false t [] m4 (AN (by omega)) ht (by simp) (by simp) h4).of_eq ?_
     rw[j6,bf (by omega),pS (m:=(fS zs m).length) (fl':=[]) hr1 rfl rfl,cr (m:=(fS zs m1).length) (fl':=[]) hr2 rfl rfl,bO (by omega),bO (by omega),wW (m:=(fS zs m2).length) (fl':=[]) hr3 rfl rfl,cr (m:=(fS zs m3).length) (fl':=[]) hr4 rfl rfl,bO (by omega)]
theorem FQ{zs:List Int}{n:Nat}(h:Pk zs n)(s:List UInt8)(hs:e9 s):qa zs (Task.call 25 [V.p 0 0,V.d (D.s s)] [pk zs n]):=by
 obtain⟨b1,l1,m1,p1,p2,h1,hr1⟩:=ov h 5 (most:=5) rfl (by omega) s hs false
 obtain⟨b2,l2,m2,q1,q2,h2,hr2⟩:=ov h1 2 (most:=2) rfl (by omega) s hs false
 obtain⟨k,m3,hk,h3,hr3⟩:=eJ h2 (m:=4) 4 rfl (by omega) (by omega)
 refine(KH hs (bx:=b2) (bq:=b1) ⟨q1,q2⟩ ⟨p1,p2⟩ (N:=k) (by omega) k 0 true [] m3 (by omega) rfl (by simp) h3).of_eq ?_
 rw[MD,pS (m:=2) (fl':=[]) hr1 rfl rfl,pS (m:=(fS zs m1).length) (fl':=[]) hr2 rfl rfl,cr (m:=(fS zs m2).length) (fl':=[]) hr3 rfl rfl]
 rfl
def Bw(x:D):Prop:=∃(il sl:List D) (b:Bool) (l:List D),x = .g [.l true il,.l true sl,.l b l]/\(il=[]/\sl=[]\/il=[.s [98,97,115,101]]/\sl=[.g [.s [103,111],.s [97,46,98]]])/\1<=l.length/\l.length<=9/\∀y∈l,Cy y
theorem uN{l:List D}(h:∀x∈l,Cy x):bw 12 l=true:=by
 cases l with
 |nil=>rfl
 |cons x l=>
  obtain⟨_,_,_,_,_,_,_,_,_,_,_,_,_,_,_,_,rfl,_⟩:=h x (by simp)
  rfl
theorem Hl{zs:List Int}{n:Nat}(h:Pk zs n):∃(x:D) (r:List D) (n':Nat),Bw x/\(∀y∈r,Bw y)/\r.length<=1/\Pk zs n'/\rk Tryz.prog bn (Task.call 11 [V.p 0 0] [pk zs n])=some (.d (.l true (x::r)),[pk zs n']):=by
 obtain⟨k,m,hk,h1,hr⟩:=eJ h (m:=3) 3 rfl (by omega) (by omega)
 by_cases e0:k=0
 ·obtain⟨l1,m1,p1,p2,h2,hr2⟩:=FQ h1 [98,97,115,101,46] (.inr rfl)
  obtain⟨l2,m2,q1,q2,h3,hr3⟩:=Ek h2
  refine⟨_,_,m2,⟨_,_,true,l1,rfl,.inr ⟨rfl,rfl⟩,by omega,by omega,p2⟩,fun y hy=>?_,?_,h3,by rw[Mk,cr (m:=2) (fl':=[]) hr rfl rfl,cm (by omega),pS (m:=(fS zs m).length) (fl':=[]) hr2 rfl rfl,pS (m:=(fS zs m1).length) (fl':=[]) hr3 rfl rfl];rfl⟩
  ·simp only[List.mem_singleton]at hy;subst hy
   exact⟨_,_,true,l2,rfl,.inl ⟨rfl,rfl⟩,by omega,by omega,q2⟩
  ·simp
 ·obtain⟨l1,m1,p1,p2,h2,hr2⟩:=Ek h1
  obtain⟨l2,m2,q1,q2,h3,hr3⟩:=FQ h2 [] (.inl rfl)
  refine⟨D.g [D.l true [],D.l true [],D.l (true&&l2.isEmpty) (l1++l2)],[],m2,⟨_,_,_,l1++l2,rfl,.inl ⟨rfl,rfl⟩,by simp;omega,by simp;omega,fun y hy=>?_⟩,by simp,by simp,h3,?_⟩
  ·rcases List.mem_append.1 hy with hy|hy
   ·exact p2 y hy
   ·exact q2 y hy
  ·rw[Mk,cr (m:=2) (fl':=[]) hr rfl rfl,bO (by omega),pS (m:=(fS zs m).length) (fl':=[]) hr2 rfl rfl,pS (m:=(fS zs m1).length) (fl':=[]) hr3 rfl rfl,ba,uN p2,ba,uN q2,ba,Bool.true_or,ba,aH (by omega)]
   rfl
end Go.Dn.Dec.Mx
namespace Go.Dn.Dec.Mx
open Go.Proofs
set_option linter.unusedVariables false
set_option linter.unusedSimpArgs false
theorem Ai{x:D}(h:vP x):Dec.vP x:=by
 obtain⟨k,n,u,s,e,h1,h2,h3,h4,h5,h6,h7⟩:=h
 exact⟨k,n,u,s,e,h1,h2,h3,h4,h5,h6,h7.1⟩
theorem ll{x:D}(h:dj x):Dec.dj x:=by
 obtain⟨h,id,r,t,nm,hi,k,n,u,s,e,a1,a2,a3,a4,a5,a6,a7,a8,a9,b1,b2,b3,b4,b5⟩:=h
 exact⟨h,id,r,t,nm,hi,k,n,u,s,e,a1,a2,a3,a4,a5.1,a6.1,a7,a8,a9,b1,b2,b3,b4,b5.1⟩
theorem uQ{x:D}(h:ka x):Dec.ka x:=by
 obtain⟨nm,h,n,e,a1,a2⟩:=h
 exact⟨nm,h,n,e,a1.1,a2⟩
theorem uU{x:D}(h:lU x):Dec.lU x:=by
 obtain⟨nm,ow,ret,ab,al,tb,tl,e,a1,a2,a3,a4,a5,a6⟩:=h
 exact⟨nm,ow,ret,ab,al,tb,tl,e,a1.1,a2.1,a3,a4,fun y hy=>ll (a5 y hy),fun y hy=>ll (a6 y hy)⟩
theorem BR{x:D}(h:Cy x):Dec.Cy x:=by
 obtain⟨kd,nm,ty,ck,cn,cu,cs,cb,cl,fb,fl,mb,ml,ex,tb,tl,e,a1,a2,a3,a4,a5,a6,a7,a8,a9,b1,b2,b3,b4,b5,b6,b7,b8,b9,c1,c2,c3,c4,c5,c6⟩:=h
 exact⟨kd,nm,ty,ck,cn,cu,cs,cb,cl,fb,fl,mb,ml,ex,tb,tl,e,a1,a2,a3.1,a4.1,a5,a6,a7,a8,a9,b1,b2,b3.1,b4,fun y hy=>Ai (b5 y hy),b6,fun y hy=>ll (b7 y hy),b8,fun y hy=>uQ (b9 y hy),c1.1,c2,fun y hy=>uU (c3 y hy),c4,c5,c6⟩
theorem zK{x:D}(h:Bw x):Dec.Bw x:=by
 obtain⟨il,sl,b,l,e,h1,h2,h3,h4⟩:=h
 exact⟨il,sl,b,l,e,h1,h2,h3,fun y hy=>BR (h4 y hy)⟩
theorem gh{l:List (List UInt8)}(h:∀y∈l,aQ y):aQ l.flatten:=by
 induction l with
 |nil=>exact aQ.nil
 |cons a l ih=>rw[List.flatten_cons];exact(h a (by simp)).app (ih fun y hy=>h y (by simp[hy]))
theorem qd{l:List (List UInt8)}(h:∀y∈l,iT y):iT (Lib.join l [44,32]):=by
 induction l with
 |nil=>rw[Lib.join_nil];exact aQ.nil.t
 |cons a l ih=>
  cases l with
  |nil=>rw[Lib.join_one];exact h a (by simp)
  |cons b l=>
   have e:Lib.join (a::b::l) [44,32]=a++(([44]++[32])++Lib.join (b::l) [44,32]):=by
    rw[Lib.join_cons,Lib.join_cons]
    simp[Lib.joinTail]
   rw[e]
   exact(h a (by simp)).Lk (((ar (by decide)).app (aw (by decide))).Lk (ih fun y hy=>h y (by simp[hy]))) ⟨44,_,rfl,by decide⟩
theorem kw{w:List UInt8}(h:pw w=true):aQ (w++[32]):=(aq (ao h)).app (aw (by decide)) ⟨32,[],rfl,by decide⟩
theorem oU{k n u:Int}{s:List UInt8}{b:Bool}{l:List D}(hk:1<=k/\k<=5)(hn:Kc n)(hx:ki k u s)(hl:∀y∈l,iT (fC y)):iT (fC (.g [.i .i64 k,.i .i64 n,.i .u64 u,.s s,.l b l])):=by
 simp only[fC]
 by_cases e1:k=1
 ·rw[if_pos e1];exact pv hn
 by_cases e2:k=2
 ·rw[if_neg e1,if_pos e2];exact At (hx.1 e2)
 by_cases e3:k=3
 ·rw[if_neg e1,if_neg e2,if_pos e3];exact(qb (hx.2.1 e3)).t
 by_cases e4:k=4
 ·rw[if_neg e1,if_neg e2,if_neg e3,if_pos e4];exact aq (hx.2.2 e4)
 rw[if_neg e1,if_neg e2,if_neg e3,if_neg e4,if_pos (by omega)]
 refine((((ar (by decide)).Lk (qd ?_)).app (ar (by decide)) ⟨93,[],rfl,by decide⟩)).t
 intro y hy
 rw[kD]at hy
 obtain⟨z,hz,rfl⟩:=List.mem_map.1 hy
 exact hl z hz
theorem xV{x:D}(h:vP x):iT (fC x):=by
 obtain⟨k,n,u,s,rfl,h1,h2,h3,h4,h5,h6,h7⟩:=h
 exact oU ⟨h1,h2⟩ ⟨by omega,by omega⟩ h7.2 (by simp)
theorem nd{x:D}(h:dj x):iT (Du x):=by
 obtain⟨h,id,r,t,nm,hi,k,n,u,s,rfl,a1,a2,a3,a4,a5,a6,a7,a8,a9,b1,b2,b3,b4,b5⟩:=h
 rw[show Du (D.g [.b h,.i .i64 id,.i .i64 r,.s t,.s nm,.b hi,.i .i64 k,.i .i64 n,.i .u64 u,.s s,.l true []])=LK h id++JE r++t++[32]++nm++Az hi (cD k n u s true [])from rfl]
 have d1:aQ (LK h id):=by
  unfold LK
  split
  ·exact(pv ⟨by omega,by omega⟩).app (show aQ ([58]++[32]) from(ar (by decide)).app (aw (by decide))) ⟨58,[32],rfl,by decide⟩
  ·exact aQ.nil
 have d2:aQ (JE r):=by
  unfold JE
  split
  ·exact kw (w:=[114,101,113,117,105,114,101,100]) (by decide)
  ·split
   ·exact kw (w:=[111,112,116,105,111,110,97,108]) (by decide)
   ·exact aQ.nil
 have d3:aQ (LK h id++JE r++t++[32]):=((d1.app d2).Lk a5.2).app (aw (by decide)) ⟨32,[],rfl,by decide⟩
 have d4:=d3.Lk (aq a6.2)
 unfold Az
 split
 ·rename_i hh
  have c:=oU (k:=k) (n:=n) (u:=u) (s:=s) (b:=true) (l:=[]) ⟨a7 hh,a9⟩ ⟨by omega,by omega⟩ (b5.2 hh) (by simp)
  rw[<-List.append_assoc]
  exact(d4.app (show aQ ([32]++[61]++[32]) from((aw (by decide)).app (ar (by decide))).app (aw (by decide))) ⟨32,_,rfl,by decide⟩).Lk c
 ·rw[List.append_nil];exact d4
theorem Cw:aQ ([32,32]:List UInt8):=show aQ ([32]++[32]) from(aw (by decide)).app (aw (by decide))
theorem zJ:aQ ([44,10]:List UInt8):=show aQ ([44]++[10]) from(ar (by decide)).app (aw (by decide))
theorem CR:aQ ([32,61,32]:List UInt8):=show aQ ([32]++[61]++[32]) from((aw (by decide)).app (ar (by decide))).app (aw (by decide))
theorem yF:aQ ([32,123,10]:List UInt8):=show aQ ([32]++[123]++[10]) from((aw (by decide)).app (ar (by decide))).app (aw (by decide))
theorem zk:aQ ([125,10]:List UInt8):=show aQ ([125]++[10]) from(ar (by decide)).app (aw (by decide))
theorem xP{x:D}(h:dj x):aQ (Dw x):=(Cw.Lk (nd h)).app zJ ⟨44,_,rfl,by decide⟩
theorem rP{x:D}(h:ka x):aQ (B6 x):=by
 obtain⟨nm,h,n,rfl,a1,a2,a3⟩:=h
 simp only[B6]
 split
 ·rw[<-List.append_assoc ([32,32]++nm)]
  exact((((Cw.Lk (aq a1.2)).app CR ⟨32,_,rfl,by decide⟩).Lk (pv ⟨by omega,by omega⟩))).app zJ ⟨44,_,rfl,by decide⟩
 ·rw[List.append_nil]
  exact(Cw.Lk (aq a1.2)).app zJ ⟨44,_,rfl,by decide⟩
theorem lL{l:List D}(h:∀y∈l,dj y):iT (jM l):=qd fun y hy=>by
 obtain⟨z,hz,rfl⟩:=List.mem_map.1 hy
 exact nd (h z hz)
theorem rQ{x:D}(h:lU x):aQ (mo x):=by
 obtain⟨nm,ow,ret,ab,al,tb,tl,rfl,a1,a2,a3,a4,a5,a6⟩:=h
 rw[show mo (D.g [.s nm,.b ow,.s ret,.l ab al,.l tb tl])=[32,32]++Cp ow++ret++[32]++nm++[40]++jM al++[41]++Kb tl++[44,10]from rfl]
 have d1:aQ (Cp ow):=by
  unfold Cp
  split
  ·exact kw (w:=[111,110,101,119,97,121]) (by decide)
  ·exact aQ.nil
 have d2:aQ (Kb tl):=by
  unfold Kb
  split
  ·exact aQ.nil
  ·exact((show aQ ([32]++([116,104,114,111,119,115]++[32])++[40]) from((aw (by decide)).app (kw (by decide))).app (ar (by decide))).Lk (lL a6)).app (ar (by decide)) ⟨41,[],rfl,by decide⟩
 have e1:aQ ([32,32]++Cp ow++ret++[32]++nm++[40]):=((((Cw.app d1).Lk a2.2).app (aw (by decide)) ⟨32,[],rfl,by decide⟩).Lk (aq a1.2)).app (ar (by decide)) ⟨40,[],rfl,by decide⟩
 exact(((e1.Lk (lL a5)).app (ar (by decide)) ⟨41,[],rfl,by decide⟩).app d2).app zJ
theorem nl:aQ ([10]:List UInt8):=aw (by decide)
theorem Ap{x:D}(h:Cy x):aQ (Dt x):=by
 obtain⟨kd,nm,ty,ck,cn,cu,cs,cb,cl,fb,fl,mb,ml,ex,tb,tl,rfl,a1,a2,a3,a4,a5,a6,a7,a8,a9,b1,b2,b3,b4,b5,b6,b7,b8,b9,c1,c2,c3,c4,c5,c6⟩:=h
 simp only[Dt]
 have hn:=aq a3.2
 by_cases e1:kd=1
 ·rw[if_pos e1]
  exact((((kw (w:=[116,121,112,101,100,101,102]) (by decide)).Lk (a4.2 (.inl e1))).app (aw (c:=32) (by decide)) ⟨32,[],rfl,by decide⟩).Lk hn).app nl ⟨10,[],rfl,by decide⟩
 by_cases e3:kd=3
 ·rw[if_neg e1,if_pos e3]
  have c:=oU (k:=ck) (n:=cn) (u:=cu) (s:=cs) (b:=cb) (l:=cl) ⟨a7 e3,a6⟩ ⟨by omega,by omega⟩ (b3.2 e3) fun y hy=>xV (b5 y hy)
  exact((((((kw (w:=[99,111,110,115,116]) (by decide)).Lk (a4.2 (.inr e3))).app (aw (c:=32) (by decide)) ⟨32,[],rfl,by decide⟩).Lk hn).app CR ⟨32,_,rfl,by decide⟩).Lk c).app nl ⟨10,[],rfl,by decide⟩
 rw[if_neg e1,if_neg e3]
 by_cases e2:kd=2
 ·rw[if_pos e2]
  refine((((kw (w:=[101,110,117,109]) (by decide)).Lk hn).app yF ⟨32,_,rfl,by decide⟩).app (gh fun y hy=>?_)).app zk
  obtain⟨z,hz,rfl⟩:=List.mem_map.1 hy
  exact rP (b9 z hz)
 rw[if_neg e2]
 by_cases e7:kd=7
 ·rw[if_pos e7]
  have s1:iT ([115,101,114,118,105,99,101,32]++nm):=(kw (w:=[115,101,114,118,105,99,101]) (by decide)).Lk hn
  have s2:iT ([115,101,114,118,105,99,101,32]++nm++(if ex=[]then []else [32,101,120,116,101,110,100,115,32]++ex)):=by
   split
   ·rw[List.append_nil];exact s1
   ·rename_i hx
    exact s1.Lk ((show aQ ([32]++([101,120,116,101,110,100,115]++[32])) from(aw (by decide)).app (kw (by decide))).Lk (aq (c1.2.resolve_left hx))) ⟨32,_,rfl,by decide⟩
  refine((s2.app yF ⟨32,_,rfl,by decide⟩).app (gh fun y hy=>?_)).app zk
  obtain⟨z,hz,rfl⟩:=List.mem_map.1 hy
  exact rQ (c3 z hz)
 ·rw[if_neg e7]
  have hk:aQ (J7 kd):=by
   unfold J7
   split
   ·exact kw (w:=[115,116,114,117,99,116]) (by decide)
   ·split
    ·exact kw (w:=[117,110,105,111,110]) (by decide)
    ·exact kw (w:=[101,120,99,101,112,116,105,111,110]) (by decide)
  refine(((hk.Lk hn).app yF ⟨32,_,rfl,by decide⟩).app (gh fun y hy=>?_)).app zk
  obtain⟨z,hz,rfl⟩:=List.mem_map.1 hy
  exact xP (b7 z hz)
theorem xN{x:D}(h:Bw x):aQ (Dv x):=by
 obtain⟨il,sl,b,l,rfl,h1,h2,h3,h4⟩:=h
 simp only[Dv]
 have hd:aQ (l.map Dt).flatten:=gh fun y hy=>by
  obtain⟨z,hz,rfl⟩:=List.mem_map.1 hy
  exact Ap (h4 z hz)
 rcases h1 with⟨rfl,rfl⟩|⟨rfl,rfl⟩
 ·exact(aQ.nil.app aQ.nil).app hd
 ·refine(aQ.app ?_ ?_).app hd
  ·exact gh fun y hy=>by
    simp only[List.map_cons,List.map_nil,List.mem_singleton]at hy
    subst hy
    exact(show aQ (([105,110,99,108,117,100,101]++[32])++pQ [98,97,115,101]++[10]) from((kw (by decide)).app (qb ⟨by decide,by decide⟩)).app nl)
  ·exact gh fun y hy=>by
    simp only[List.map_cons,List.map_nil,List.mem_singleton]at hy
    subst hy
    exact(show aQ ((([110,97,109,101,115,112,97,99,101]++[32])++[103,111]++[32])++[97,46,98]++[10]) from((((kw (by decide)).Lk (aq (ao (by decide)))).app (aw (by decide)) ⟨32,[],rfl,by decide⟩).Lk (aq (ao (by decide)))).app nl ⟨10,[],rfl,by decide⟩)
theorem Am{x:D}(h:Bw x):Lx (Dv x):=by
 have:=xN h [] Lx.nil
 rwa[List.append_nil]at this
end Go.Dn.Dec.Mx
namespace Go.Dn.Dec
open Go.Proofs
set_option linter.unusedVariables false
set_option linter.unusedSimpArgs false
set_option maxRecDepth 100000
section
variable {f : Task → Option Out} {l : List D} {i : Nat} {x : D} {w j : Nat}
theorem BD{c:D}(h:l[i]?=some x)(hw:x.width=w)(hc:x.cells[j]?=some c){K:D->Tr}:aC f (eC l (i:Int) w j K)=aC f (K c):=by
 show aC f (ob (bh l (i:Int)) fun d=>aM (d.width==w) (ob l[(i:Int).toNat]? fun e=>ob e.cells[j]? K))=_
 subst hw
 rw[bp,aJ h,beq_self_eq_true,ba,Int.toNat_natCast,aJ h,aJ hc]
theorem kj{k:IntKind}{n:Int}(h:l[i]?=some x)(hw:x.width=w)(hc:x.cells[j]?=some (.i k n)){K:Int->Tr}:aC f (eC l (i:Int) w j fun a=>bD k a K)=aC f (K n):=by
 rw[BD h hw hc,bl,if_pos rfl]
theorem om{s:List UInt8}(h:l[i]?=some x)(hw:x.width=w)(hc:x.cells[j]?=some (.s s)){K:List UInt8->Tr}:aC f (eC l (i:Int) w j fun a=>fF a K)=aC f (K s):=by
 rw[BD h hw hc];rfl
end
theorem r6{W:List Tok}{i:Nat}{t:Tok}(h:W[i]?=some t):(cF W)[i]?=some t.D:=by
 unfold cF;rw[List.getElem?_map,h];rfl
def Cv:List D:=[.s [32],.s [10],.s [9,32,13],.s [47,42,32,97,32,42,47],.s [35,32,120,10],.s [47,47,32,121,10]]
theorem zj{k:Nat}(h:k<6):Cv[k]?=some (.s (au k)):=by
 match k,h with
 |0,_=>rfl
 |1,_=>rfl
 |2,_=>rfl
 |3,_=>rfl
 |4,_=>rfl
 |5,_=>rfl
theorem tJ(k:Nat):(au k).length<=7:=by
 unfold au
 split<;>decide
def lh(ms:List Int)(i:Nat):Nat:=(ms[i]?.getD 0).toNat%6
def xk(t:Tok):Prop:=(kV t/\t.text.length<=2000)\/∃e,t=⟨6,[],0,0,e⟩
theorem rC{t:Tok}(h:xk t):(iQ t).length<=3000:=by
 rcases h with⟨h,hl⟩|⟨e,rfl⟩
 ·rcases h with⟨w,x,rfl,h⟩|⟨n,x,rfl,h1,h2⟩|⟨d,x,rfl,h1,h2⟩|⟨s,x,rfl,h1,h2⟩|⟨c,x,rfl,h⟩
  ·exact Nat.le_trans hl (by decide)
  ·exact Nat.le_trans (rJ ⟨h1,h2⟩) (by decide)
  ·exact Nat.le_trans (vz d h1) (by decide)
  ·have:iQ ⟨4,s,0,0,x⟩=pQ s:=rfl
   rw[this,u9]
   exact Nat.le_trans (Nat.add_le_add_right hl 2) (by decide)
  ·exact Nat.le_trans (show ([c]:List UInt8).length<=1 from Nat.le_refl _) (by decide)
 ·exact Nat.zero_le _
theorem ou{k n u:Int}{s:List UInt8}(hk:k=1\/k=2\/k=3)(hn:Kc n)(hu:L9 u)(hs:s.length<=2000)(hl:(fC (cD k n u s true [])).length<=900000):
  rk Tryz.prog jK (Task.call 22 [V.d (cD k n u s true [])] [])=some (.d (.s (fC (cD k n u s true []))),[]):=
 IH (oM 1 _ ⟨k,n,u,s,true,[],rfl,hn,hu,hs,by simp,.inr (.inr rfl),by simp⟩ (show k≠0 by omega) hl) (by decide) (by decide)
abbrev qX(b:Bool)(ms:List Int)(c:Bool)(T:List Tok)(s:List UInt8)(i:Int):Task:=
 Task.at_ 8 0 [false,true,false,true,true,true,true,true,true] (sv 183 [(1,V.d (D.l b (ints .u8 ms))),(5,V.d (D.l c (cF T))),(8,V.d (D.s s)),(9,V.d (D.i .i64 i))]) [] []
theorem Bi(b:Bool)(ms:List Int)(c:Bool)(T:List Tok)(s:List UInt8)(i:Nat)(t:Tok)(k:Nat)(hk:k<6)(ht:T[i]?=some t)(hg:xk t)(hs:s.length<=1000000000)(hi:i<=100000):
  rk Tryz.prog jK (Task.at_ 8 0 [true,true,false,false,true,false,false,true,false,true,true,true,true,true,true] (sv 183 [(1,V.d (D.l b (ints .u8 ms))),(5,V.d (D.l c (cF T))),(8,V.d (D.s s)),(9,V.d (D.i .i64 (i:Int))),(10,V.d (D.i .i64 (k:Int)))]) [] [])
   = rk Tryz.prog jK (qX b ms c T (s++(au k++iQ t)) ((i+1:Nat):Int)):=by
 have g:=r6 ht
 have hlen:=rC hg
 have hsep:=tJ k
 have w1:IntKind.i64.wrap ((i:Int)+1)=((i+1:Nat):Int):=by rw[wrap_i64]<;>omega
 have hl1:s.length+(au k).length<4611686018427387904:=by omega
 have hl2:(s++au k).length+(iQ t).length<4611686018427387904:=by rw[List.length_append];omega
 rw[sG]
 refine(om (l:=Cv) (zj hk) rfl rfl).trans ?_
 rw[aH hl1]
 refine(kj g rfl rfl).trans ?_
 have big:∀(fl:Bool),fl=decide (t.kind=1\/t.kind=5)->rk Tryz.prog jK (Task.at_ 8 0 [true,false,true,true,true,true,false,false,true,false,false,true,false,true,true,true,true,true,true] (sv 183 [(1,V.d (D.l b (ints .u8 ms))),(5,V.d (D.l c (cF T))),(8,V.d (D.s (s++au k))),(9,V.d (D.i .i64 (i:Int))),(66,V.d (D.i .i64 (t.kind:Int))),(67,V.d (D.b fl))]) [] [])
   = rk Tryz.prog jK (qX b ms c T (s++(au k++iQ t)) ((i+1:Nat):Int)):=by
  intro fl hfl
  rw[rO,<-List.append_assoc]
  rcases hg with⟨hg,hl⟩|⟨e,rfl⟩
  ·rcases hg with⟨w,x,rfl,h⟩|⟨n,x,rfl,h1,h2⟩|⟨d,x,rfl,h1,h2⟩|⟨q,x,rfl,h1,h2⟩|⟨q,x,rfl,h⟩
   ·rw[show fl=true from hfl,bk]
    refine(om g rfl rfl).trans ?_
    refine(aH hl2).trans ?_
    rw[w1];exact aA _
   ·rw[show fl=false from hfl,aY]
    refine(bk).trans ?_
    refine(kj g rfl rfl).trans ?_
    refine(iZ (ou (.inl rfl) ⟨h1,h2⟩ ⟨by decide,by decide⟩ (by decide) (Nat.le_trans hlen (by decide)))).trans ?_
    refine(aH hl2).trans ?_
    rw[w1];exact aA _
   ·rw[show fl=false from hfl,aY]
    refine(aY).trans ?_
    refine(bk).trans ?_
    refine(kj g rfl rfl).trans ?_
    have e:fC (cD 2 0 (d:Int) [] true [])=qC d:=rfl
    have:=ou (k:=2) (n:=0) (u:=(d:Int)) (s:=[]) (.inr (.inl rfl)) ⟨by decide,by decide⟩ ⟨by omega,by omega⟩ (by decide) (by rw[e];exact Nat.le_trans hlen (by decide))
    rw[e]at this
    refine(iZ this).trans ?_
    refine(aH hl2).trans ?_
    rw[w1];exact aA _
   ·rw[show fl=false from hfl,aY]
    refine(aY).trans ?_
    refine(aY).trans ?_
    refine(bk).trans ?_
    refine(om g rfl rfl).trans ?_
    refine(iZ (ou (.inr (.inr rfl)) ⟨by decide,by decide⟩ ⟨by decide,by decide⟩ hl (Nat.le_trans hlen (by decide)))).trans ?_
    refine(aH hl2).trans ?_
    rw[w1];exact aA _
   ·rw[show fl=true from hfl,bk]
    refine(om g rfl rfl).trans ?_
    refine(aH hl2).trans ?_
    rw[w1];exact aA _
  ·rw[show fl=false from hfl,aY]
   refine(aY).trans ?_
   refine(aY).trans ?_
   refine(aY).trans ?_
   rw[w1,show iQ ⟨6,[],0,0,e⟩=[]from rfl,List.append_nil];exact aA _
 by_cases h1:t.kind=1
 ·rw[cm (by omega)]
  refine(aA _).trans ?_
  have hb:((t.kind:Int)==1)=decide (t.kind=1\/t.kind=5):=by simp[h1]
  exact big _ hb
 ·rw[show ((t.kind:Int)==1)=false by simp;omega,aY]
  refine(aA _).trans ?_
  have hb:((t.kind:Int)==5)=decide (t.kind=1\/t.kind=5):=by
   by_cases h5:t.kind=5
   ·simp[h5]
   ·have h5':¬(t.kind:Int)=5:=by omega
    simp[h1,h5,h5']
  exact big _ hb
def rZ(ms:List Int):Nat->List Tok->List (Nat×Tok)
 |_,[]=>[]
 |i,t::r=>(lh ms i,t)::rZ ms (i+1) r
theorem pz(ms:List Int):∀(i:Nat) (l:List Tok),(rZ ms i l).map (·.2)=l
 |_,[]=>rfl
 |i,t::r=>by simp only[rZ,List.map_cons,pz ms (i+1) r]
theorem uc(ms:List Int)(e:Nat):∀(i:Nat) (l:List Tok),dv (rZ ms i (l++[⟨6,[],0,0,e⟩]))=dv (rZ ms i l)++au (lh ms (i+l.length))
 |i,[]=>by simp only[List.nil_append,rZ,dv,List.length_nil,Nat.add_zero];exact List.append_nil _
 |i,t::r=>by
  simp only[List.cons_append,rZ,dv,uc ms e (i+1) r,List.append_assoc,List.length_cons]
  rw[Nat.add_right_comm,Nat.add_assoc]
theorem xL{ms:List Int}{i:Nat}{z:Int}(h:ms[i]?=some z):(ints .u8 ms)[i]?=some (.i .u8 z):=by
 unfold ints;rw[List.getElem?_map,h];rfl
theorem ud(b:Bool)(ms:List Int)(hm:∀z∈ms,0<=z/\z<256)(c:Bool)(T:List Tok)(hT:T.length<=100000)(hE:∀t∈T,xk t):∀(r p:List Tok) (s:List UInt8),p++r=T->s.length<=p.length*4000->
  rk Tryz.prog jK (qX b ms c T s (p.length:Int))=rk Tryz.prog jK (qX b ms c T (s++dv (rZ ms p.length r)) (T.length:Int))
 | [],p,s,e,_=>by
  rw[List.append_nil]at e
  subst e
  simp only[rZ,dv,List.append_nil]
 |t::r,p,s,e,hs=>by
  have hl:p.length+(r.length+1)=T.length:=by rw[<-e];simp
  have ht:T[p.length]?=some t:=by rw[<-e];simp
  have hg:xk t:=hE t (by rw[<-e];simp)
  have h1:=rC hg
  have h2:=tJ (lh ms p.length)
  have hk:lh ms p.length<6:=Nat.mod_lt _ (by decide)
  have next:=Bi b ms c T s p.length t (lh ms p.length) hk ht hg (by omega) (by omega)
  have ih:=ud b ms hm c T hT hE r (p++[t]) (s++(au (lh ms p.length)++iQ t)) (by rw[List.append_assoc];exact e) (by simp only[List.length_append,List.length_singleton];omega)
  rw[List.length_append,List.length_singleton]at ih
  simp only[rZ,dv]
  rw[<-List.append_assoc (au (lh ms p.length)),<-List.append_assoc s,<-ih,<-next]
  show rk Tryz.prog jK (Task.at_ 8 0 [false,true,false,true,true,true,true,true,true] (sv 183 [(1,V.d (D.l b (ints .u8 ms))),(5,V.d (D.l c (cF T))),(8,V.d (D.s s)),(9,V.d (D.i .i64 (p.length:Int)))]) [] [])=_
  rw[rN,bf (by rw[iu];omega)]
  by_cases hi:p.length<ms.length
  ·have hz:=hm ms[p.length] (List.getElem_mem hi)
   have gz:ms[p.length]?=some ms[p.length]:=List.getElem?_eq_getElem hi
   have hsp:lh ms p.length=ms[p.length].toNat%6:=by unfold lh;rw[gz];rfl
   rw[hsp]
   generalize ms[p.length]=z at *
   obtain⟨N,rfl⟩:∃N:Nat,z=(N:Int):=⟨z.toNat,by omega⟩
   rw[bf (by rw[gZ];omega)]
   refine(kj (xL gz) rfl rfl).trans ?_
   have w:IntKind.i64.wrap (N:Int)=(N:Int):=by rw[wrap_i64]<;>omega
   rw[w,show (N:Int).tmod 6=((N%6:Nat):Int)from rfl,Int.toNat_natCast]
   exact aA _
  ·have hsp:lh ms p.length=0:=by unfold lh;rw[List.getElem?_eq_none (by omega)];rfl
   rw[hsp,bc (by rw[gZ];omega)]
   exact aA _
theorem rj(b c:Bool)(T U:List Tok)(h:U.map strip=T.map strip)(hT:T.length<=100000):∀(m i:Nat),i+m=T.length->
  rk Tryz.prog jK (Task.at_ 8 0 [false,true,false,true,true,true,true,true,true,true,true,true] (sv 183 [(5,V.d (D.l b (cF T))),(11,V.d (D.l c (cF U))),(14,V.d (D.i .i64 (i:Int)))]) [] [])=some (.d (.b true),[])
 |0,i,hi=>by
  have hl:U.length=T.length:=by have:=congrArg List.length h;simpa using this
  rw[oq,bc (by rw[iu];omega)];rfl
 |m+1,i,hi=>by
  have hl:U.length=T.length:=by have:=congrArg List.length h;simpa using this
  have i1:i<T.length:=by omega
  have i2:i<U.length:=by omega
  have e:strip U[i]=strip T[i]:=by
   have:=congrArg (·[i]?) h
   simp only[List.getElem?_map,List.getElem?_eq_getElem i1,List.getElem?_eq_getElem i2,Option.map_some]at this
   injection this
  have g1:=r6 (List.getElem?_eq_getElem i1)
  have g2:=r6 (List.getElem?_eq_getElem i2)
  have ih:=rj b c T U h hT m (i+1) (by omega)
  have w1:IntKind.i64.wrap ((i:Int)+1)=((i+1:Nat):Int):=by rw[wrap_i64]<;>omega
  have e1:U[i].kind=T[i].kind:=by have:=congrArg Tok.kind e;exact this
  have e2:U[i].text=T[i].text:=by have:=congrArg Tok.text e;exact this
  have e3:U[i].n=T[i].n:=by have:=congrArg Tok.n e;exact this
  have e4:U[i].d=T[i].d:=by have:=congrArg Tok.d e;exact this
  generalize U[i]=x at *
  generalize T[i]=y at *
  rw[oq,bf (by rw[iu];omega)]
  refine(kj g2 rfl rfl).trans ?_
  refine(kj g1 rfl rfl).trans ?_
  rw[e1,show (((y.kind:Int)) != (y.kind:Int))=false by simp,aY]
  refine(om g2 rfl rfl).trans ?_
  refine(om g1 rfl rfl).trans ?_
  rw[e2,show (!(y.text==y.text))=false by simp,aY]
  refine(kj g2 rfl rfl).trans ?_
  refine(kj g1 rfl rfl).trans ?_
  rw[e3,show (y.n != y.n)=false by simp,aY]
  refine(kj g2 rfl rfl).trans ?_
  refine(kj g1 rfl rfl).trans ?_
  rw[e4,show (((y.d:Int)) != (y.d:Int))=false by simp]
  refine(aA _).trans ?_
  rw[rI,aY,w1]
  exact(aA _).trans ih
theorem B4(b:Bool)(ms:List Int)(c:Bool)(W:List Tok)(e:Nat)(hT:W.length<100000)(hG:∀t∈W,kV t/\t.text.length<=2000)(hm:∀z∈ms,0<=z/\z<256):
  rk Tryz.prog jK (qX b ms c (W++[⟨6,[],0,0,e⟩]) [] 0)=some (.d (.b true),[]):=by
 have hE:∀t∈W++[⟨6,[],0,0,e⟩],xk t:=by
  intro t ht
  rcases List.mem_append.1 ht with ht|ht
  ·exact .inl (hG t ht)
  ·exact .inr ⟨e,List.mem_singleton.1 ht⟩
 have hlen:(W++[(⟨6,[],0,0,e⟩:Tok)]).length=W.length+1:=by simp
 refine(ud b ms hm c _ (by rw[hlen];omega) hE (W++[⟨6,[],0,0,e⟩]) [] [] rfl (Nat.zero_le _)).trans ?_
 rw[List.nil_append,List.length_nil,uc,Nat.zero_add]
 generalize hS:dv (rZ ms 0 W)++au (lh ms W.length)=S
 show rk Tryz.prog jK (Task.at_ 8 0 [false,true,false,true,true,true,true,true,true] (sv 183 [(1,V.d (D.l b (ints .u8 ms))),(5,V.d (D.l c (cF (W++[⟨6,[],0,0,e⟩])))),(8,V.d (D.s S)),(9,V.d (D.i .i64 ((W++[(⟨6,[],0,0,e⟩:Tok)]).length:Int)))]) [] [])=_
 rw[rN,bc (by rw[iu];omega)]
 have b1:=w9 (E4 S) (by decide) (by decide)
 unfold gm at b1
 refine(pU b1).trans ?_
 by_cases hl:2000<S.length
 ·have e4:lexB S=([],4,0):=by unfold lexB;rw[if_pos hl]
  rw[e4]
  refine bk.trans ?_
  refine(aA _).trans ?_
  rw[oo,bk];rfl
 ·obtain⟨W',e',h1,h2⟩:=pV (rZ ms 0 W) (lh ms W.length) (S.length+1) 0 [] (fun x hx=>by
   have:x.2∈(rZ ms 0 W).map (·.2):=List.mem_map_of_mem hx
   rw[pz]at this
   exact(hG _ this).1) (by rw[hS];omega)
  rw[hS]at h1
  have e0:lexB S=(W'++[⟨6,[],0,0,e'⟩],0,0):=by unfold lexB;rw[if_neg hl,h1];rfl
  have hst:(W'++[(⟨6,[],0,0,e'⟩:Tok)]).map strip=(W++[(⟨6,[],0,0,e⟩:Tok)]).map strip:=by
   have:(rZ ms 0 W).map (fun x=>strip x.2)=((rZ ms 0 W).map (·.2)).map strip:=by rw[List.map_map];rfl
   rw[List.map_append,List.map_append,h2,this,pz]
   rfl
  have hl2:(W'++[(⟨6,[],0,0,e'⟩:Tok)]).length=(W++[(⟨6,[],0,0,e⟩:Tok)]).length:=by
   have:=congrArg List.length hst;simpa using this
  rw[e0]
  refine aY.trans ?_
  refine(aA _).trans ?_
  rw[iu,iu,hl2,show ((((W++[(⟨6,[],0,0,e⟩:Tok)]).length:Int)) != ((W++[(⟨6,[],0,0,e⟩:Tok)]).length:Int))=false by simp,oo,aY]
  exact(aA _).trans (rj _ _ _ _ hst (by rw[hlen];omega) _ 0 (Nat.zero_add _))
theorem Al{s:List UInt8}{W:List Tok}{e:Nat}(h:lexB s=(W++[⟨6,[],0,0,e⟩],0,0)):W.length<100000:=by
 have:s.length<=2000:=by
  rcases Nat.lt_or_ge 2000 s.length with h1|h1
  ·unfold lexB at h;rw[if_pos h1]at h
   injection h with _ h;injection h with h;cases h
  ·exact h1
 have:=E3 s this
 rw[h,List.length_append,List.length_singleton]at this
 omega
theorem mR(zs ms:List Int)(hz:∀z∈zs,0<=z/\z<256)(hm:∀z∈ms,0<=z/\z<256):
  rk Tryz.prog jK (Task.call 8 [V.d (D.l false (ints .u8 zs)),V.d (D.l false (ints .u8 ms))] [])=some (.d (.b true),[]):=by
 have e1:(ints .u8 zs).length=zs.length:=gZ _ _
 have begin:∀g:Bool,zs.length<=150->rk Tryz.prog jK (Task.at_ 8 0 [true,false,true,true] (sv 183 [(0,V.d (D.l false (ints .u8 zs))),(1,V.d (D.l false (ints .u8 ms))),(24,V.d (D.b g))]) [] [])=some (.d (.b true),[]):=by
  intro g lz
  rw[ue]
  cases g with
  |true=>rw[bk];rfl
  |false=>
   rw[aY]
   obtain⟨x,r,n1,hx,_,_,h1,e1⟩:=Mx.Hl (KG hz lz)
   have hd:=Mx.zK hx
   have lx:=Mx.Am hx
   have wx:=Hw hd
   have len:(Dv x).length<=200000:=Dg hd
   have p2:=IH (HW x wx (Nat.le_trans len (by decide))) (by decide) (by decide)
   have m1:=IH (Jn zs) (by decide) (by decide)
   have f1:=JX e1 (by decide) (by decide)
   have gx:(x::r)[0]?=some x:=rfl
   have b1:=w9 (E4 (Dv x)) (by decide) (by decide)
   unfold gm at b1
   refine(LV m1 rfl).trans ?_
   refine(pS (m:=2) (fl':=[]) f1 rfl rfl).trans ?_
   obtain⟨_,_,_,_,rfl,_⟩:=hd
   refine(zX (i:=0) gx rfl).trans ?_
   refine(iZ p2).trans ?_
   refine(pU b1).trans ?_
   rcases xM (Dv (D.g [D.l true _,D.l true _,D.l _ _])) with⟨W,e,hl,hG⟩|⟨e,w,hl,he⟩
   ·rw[hl]
    refine aY.trans ?_
    refine(aA _).trans ?_
    exact B4 _ _ _ _ _ (Al hl) hG hm
   ·have h4:=BZ lx hl he
    subst h4
    rw[hl]
    exact bk.trans rfl
 rw[y8,dh (w9 GS (by decide) (by decide)),jP]
 by_cases h1:100<zs.length
 ·rw[bf (by omega)]
  refine(aA _).trans ?_
  rw[ue,bk];rfl
 rw[bc (by omega)]
 exact(aA _).trans (begin _ (by omega))
end Go.Dn.Dec
