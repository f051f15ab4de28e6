/- TokenMade returns true, whatever the input, and leaves all else alone; the card's variables are tied to the program's text. Condition: none of our own; the row's own list of package-level variables. -/
import Derived.Test.YtbjllhjbhdjfjaaGreatDoorRows
import Derived.Test.YtbjllhjbhdjfjaaGreatDoorTie
import Derived.Test.YtbjllhjbhdjfjaaGreatDoorCards
import Derived.Test.YtbjllhjbhdjfjaaGreatDoorP5
import Derived.Test.YtbjllhjbhdjfjaaGreatDoorP9
import Derived.WalkKit
import Derived.ProofKit
import Derived.OpenShut
import Derived.ShutString
import Derived.Lay
import Derived.SevenTiedAt
import Derived.ChangeOld
import Derived.Below
import Derived.SizedLaws
namespace Go.Proofs.YtbjllhjbhdjfjaaGreatDoor.TokenMade
open Go.ChangeShapes Go.WideShapes Go.ChangeAt Go.RowKit
open Go.ChangeMaps (open_string shut_string)
theorem own:ownKnob Tryz.prog.godebug=none:=by kernel_rfl
theorem laidOut:laidOutB Tryz.prog=true:=by kernel_rfl
set_option maxRecDepth 100000 in
theorem calls(W:World)(hT:Go.Dn.k8 W){v0:Value}{z0:List Int}(hv0:Go.Dn.RD (Go.Dn.tT W) (.l false (Go.Dn.ints .u8 z0)) v0)(w0:∀n∈z0,(Lit.int .u8 n).wf=true){a1:Int}(w1:(Lit.int .u16 a1).wf=true){a2:Int}(w2:(Lit.int .u8 a2).wf=true)(a3:Bool):Calls Tryz.prog 7 #[v0,.int .u16 a1,.int .u8 a2,.bool a3] W fun e W'=>e = .returned (.bool true)/\Below W.heap.size W W':=by
  have r0:∀z∈z0,0<=z/\z<256:=fun z h=>by
    have:=w0 z h
    simp[Lit.wf,IntKind.min,IntKind.max,IntKind.signed,IntKind.bits]at this
    omega
  have r1:0<=a1/\a1<65536:=by
    simp[Lit.wf,IntKind.min,IntKind.max,IntKind.signed,IntKind.bits]at w1
    omega
  have r2:0<=a2/\a2<256:=by
    simp[Lit.wf,IntKind.min,IntKind.max,IntKind.signed,IntKind.bits]at w2
    omega
  exact Go.Dn.H0 Go.Dn.Dec.mixed Go.Dn.Dec.Jb Go.Dn.Dec.eS Tryz.func7 (by kernel_rfl) hT (Go.Dn.iK (Go.Dn.Dec.zK z0 r0 a1 r1 a2 r2 a3)) (by simp only[Go.Dn.cK];exact⟨_,_,rfl,hv0,_,_,rfl,rfl,_,_,rfl,rfl,_,_,rfl,rfl,rfl⟩) fun _ _ h=>Go.Dn.GN h
set_option maxRecDepth 100000 in
theorem lifted(os:Os)(started:os.Started)(H:Type)(enc:TypeId×Value->H):
    ReturnsInHanded {} Tryz.checked os 7 .any (fun w args=>(Rows.tokenMadeSpec.pre enc Tryz.prog Tryz.f7 Rows.tokenMadeRow.domain false w args/\laidMetH Tryz.prog Go.Dn.Dec.yk w)/\sizedMet enc Tryz.prog Tryz.f7 (OpenSpec.ofChange Rows.tokenMadeSpec) false w args)
      (Rows.tokenMadeSpec.post enc Tryz.prog Tryz.f7 false true false false):=by
  refine Go.Dn.Dec.mq (C:=Tryz.checked) (X:=fun w _=>laidMetH Tryz.prog Go.Dn.Dec.yk w) (fun _ _ _ hh h=>h.of_heap hh) own started (by kernel_rfl) Tryz.func7
    (ChangeSpec.witness_shaped (enc:=enc) (C:=Tryz.checked) (os:=os) (X:=fun w _=>laidMetH Tryz.prog Go.Dn.Dec.yk w) false (World.laidAll Tryz.prog os Go.Dn.Dec.yk) #[.slice none 0 0,.int .u16 0,.int .u8 0,.bool false] 8 (World.laidAll_os _ _ _)
      (World.shaped_of_ZipB (by kernel_rfl) (by kernel_rfl)) (by kernel_rfl) (by kernel_rfl) (by kernel_rfl)
      (by rw[MakeChecks.laidMetH_plain _ _ _ (by kernel_rfl)];exact laidMet_laidAll _ (by kernel_rfl) (by kernel_rfl))) ?_
  intro W base args ds gs before hval0 hW hL hsh
  have hval:∀(j:Nat) t v,Tryz.f7.params[j]?=some t->args[j]?=some v->Value.okWide Tryz.prog W .any base t v:=hval0
  have hW':=hW
  obtain⟨p,q,hA0,hV,rfl,_,_⟩:=hW
  have hA:DataW.TrodAll enc Tryz.prog W 0 (fun _=>true) true Tryz.f7.params.toList args.toList ds p:=hA0
  rw[Tryz.params7]at hA hval
  obtain⟨v0,vs0,d0,ds0,p0,q0,e0,rfl,rfl,h0,r0'⟩:=trodAll_cons hA
  obtain⟨v1,vs1,d1,ds1,p1,q1,e1,rfl,rfl,h1,r1'⟩:=trodAll_cons r0'
  obtain⟨v2,vs2,d2,ds2,p2,q2,e2,rfl,rfl,h2,r2'⟩:=trodAll_cons r1'
  obtain⟨v3,vs3,d3,ds3,p3,q3,e3,rfl,rfl,h3,r3'⟩:=trodAll_cons r2'
  obtain⟨rfl,rfl,rfl⟩:=trodAll_nil r3'
  obtain rfl:args=#[v0,v1,v2,v3]:=by cases args;simp_all
  obtain⟨rfl,rfl⟩:=trodVars_none hV
  obtain⟨a0,len0,cap0,rfl⟩:=okWide_slice Tryz.underlying22 (hval 0 22 v0 rfl rfl)
  have k0:=h0
  have lt0:∀x∈p0,x.block<W.heap.size:=by obtain⟨m,hm⟩:=k0;exact DataW.trod_lt m _ _ _ hm
  obtain⟨z0,hrd0,hwf0⟩:∃zs:List Int,Go.Dn.RD (Go.Dn.tT W) (.l false (Go.Dn.ints .u8 zs)) (.slice a0 len0 cap0)/\∀n∈zs,(Lit.int .u8 n).wf=true:=by
    obtain⟨fuel,hf⟩:=h0
    refine Go.Dn.GM ?_
    rcases open_ints Tryz.underlying22 Tryz.underlying5 (by kernel_rfl) hf with⟨hcs,_⟩|⟨x,l,c,zs,hcs,_,hl,hm,hz,_,hcell,hwz⟩
    · simp [Value.cells] at hcs
      exact .inl hcs
    · simp [Value.cells] at hcs
      obtain⟨rfl,rfl,rfl⟩:=hcs
      exact .inr ⟨x,zs,rfl,hl,by simpa using hz,hcell,hwz⟩
  obtain⟨a1,rfl,rfl,rfl,w1⟩:=open_int Tryz.underlying47 (hval 1 47 v1 rfl rfl) h1
  obtain⟨a2,rfl,rfl,rfl,w2⟩:=open_int Tryz.underlying5 (hval 2 5 v2 rfl rfl) h2
  obtain⟨a3,rfl,rfl,rfl⟩:=open_bool Tryz.underlying4 (hval 3 4 v3 rfl rfl) h3
  clear hA0 hval0
  refine(calls W (Go.Dn.Dec.Gf hsh hL) hrd0 hwf0 w1 w2 a3).mono fun e W' ⟨he,bel⟩=>?_
  subst he
  exact⟨_,rfl,_,_,_,[],_,[],hW',trodAll_mk1 (shut_bool Tryz.underlying4 _),(trodAll_cons_mk (Below.trod laidOut (by kernel_rfl) (of_decide_eq_true (by kernel_rfl)) k0 bel lt0) (trodAll_cons_mk (shut_int Tryz.underlying47 w1) (trodAll_cons_mk (shut_int Tryz.underlying5 w2) (trodAll_cons_mk (shut_bool Tryz.underlying4 a3) trodAll_mk0)))),rfl,bel.frame _,fun h=>by cases h⟩
theorem over:Rows.tokenMadeRow.holds Tryz.pinned (OpenSpec.ofChange Rows.tokenMadeSpec):=
  OpenClaim.holds_of_wide 7 Tryz.f7 rfl rfl rfl rfl rfl rfl rfl ⟨rfl,rfl,rfl,rfl,rfl⟩ rfl rfl rfl rfl rfl (by kernel_rfl) Tryz.func7 (by kernel_rfl)
    (of_decide_eq_true (by kernel_rfl)) (by unfold Func.isWrapper;first|(rw[if_pos (by decide +kernel)];kernel_rfl)|(rw[if_neg (by decide +kernel)];exact⟨rfl,rfl⟩))
    (fun os started H enc _=>lifted os started H enc)
end Go.Proofs.YtbjllhjbhdjfjaaGreatDoor.TokenMade
namespace Go.Proofs.YtbjllhjbhdjfjaaGreatDoor
theorem tokenMade_holds:Rows.TokenMadeCardSaid:=
  Claim7.holds_tied_plain_at .later [] [.data, .data, .data, .data, .sentinel, .sentinel, .pinned] true (true, "3a524b7eab087b04bc89e0412193514c74d0eba6177dae21b9b862119ce91a14") true
    TokenMade.over (fun _ h=>by cases h) (by kernel_rfl) (fun _ h=>by cases h) tokenMade_row_tie rfl ⟨rfl,rfl⟩ (by kernel_rfl) rfl
    (fun f fn hf hfn=>by
      obtain rfl : f = 7 := Option.some.inj ((show Tryz.prog.funcNamed "assayer/assayerlaw5.TokenMade" = some 7 by kernel_rfl).symm.trans hf) |>.symm
      obtain rfl:fn=Tryz.f7:=(Option.some.inj (Tryz.func7.symm.trans hfn)).symm
      exact⟨by kernel_rfl,fun j t ht=>by
        rw[Tryz.params7]at ht
        have hm:t∈[22,47,5,4]:=by simpa using Array.mem_of_getElem? ht
        have hall:([22,47,5,4].all fun u=>!Tryz.prog.wantsStandIn u)=true:=by kernel_rfl
        exact(show Tryz.prog.wantsStandIn t=false by simpa using List.all_eq_true.1 hall t hm)⟩)
    (by kernel_rfl)
end Go.Proofs.YtbjllhjbhdjfjaaGreatDoor
