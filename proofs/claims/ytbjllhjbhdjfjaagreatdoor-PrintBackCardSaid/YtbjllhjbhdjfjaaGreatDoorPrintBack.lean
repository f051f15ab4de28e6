/- PrintBack returns true, whatever the input, and leaves all else alone; the card's variables are tied to the program's text. Condition: none of our own; the row's own list of package-level variables. -/
import Derived.Test.YtbjllhjbhdjfjaaGreatDoorRows
import Derived.Test.YtbjllhjbhdjfjaaGreatDoorTie
import Derived.Test.YtbjllhjbhdjfjaaGreatDoorCards
import Derived.Test.YtbjllhjbhdjfjaaGreatDoorP5
import Derived.Test.YtbjllhjbhdjfjaaGreatDoorP11
import Derived.WalkKit
import Derived.ProofKit
import Derived.OpenShut
import Derived.ShutString
import Derived.Lay
import Derived.SevenTiedAt
import Derived.ChangeOld
import Derived.Below
import Derived.SizedLaws
namespace Go.Proofs.YtbjllhjbhdjfjaaGreatDoor.PrintBack
open Go.ChangeShapes Go.WideShapes Go.ChangeAt Go.RowKit
open Go.ChangeMaps (open_string shut_string)
theorem own:ownKnob Tryz.prog.godebug=none:=by kernel_rfl
theorem laidOut:laidOutB Tryz.prog=true:=by kernel_rfl
set_option maxRecDepth 100000 in
theorem calls(W:World)(hT:Go.Dn.wN W){v0:Value}{z0:List Int}(hv0:Go.Dn.RD (Go.Dn.qR W) (.l false (Go.Dn.ints .u8 z0)) v0)(w0:∀n∈z0,(Lit.int .u8 n).wf=true){v1:Value}{z1:List Int}(hv1:Go.Dn.RD (Go.Dn.qR W) (.l false (Go.Dn.ints .u16 z1)) v1)(w1:∀n∈z1,(Lit.int .u16 n).wf=true){v2:Value}{z2:List Int}(hv2:Go.Dn.RD (Go.Dn.qR W) (.l false (Go.Dn.ints .u8 z2)) v2)(w2:∀n∈z2,(Lit.int .u8 n).wf=true):Calls Tryz.prog 5 #[v0,v1,v2] W fun e W'=>e = .returned (.bool true)/\Below W.heap.size W W':=by
  have r0:∀z∈z0,0<=z/\z<256:=fun z h=>by
    have:=w0 z h
    simp[Lit.wf,IntKind.min,IntKind.max,IntKind.signed,IntKind.bits]at this
    omega
  have r1:∀z∈z1,0<=z/\z<65536:=fun z h=>by
    have:=w1 z h
    simp[Lit.wf,IntKind.min,IntKind.max,IntKind.signed,IntKind.bits]at this
    omega
  have r2:∀z∈z2,0<=z/\z<256:=fun z h=>by
    have:=w2 z h
    simp[Lit.wf,IntKind.min,IntKind.max,IntKind.signed,IntKind.bits]at this
    omega
  exact Go.Dn.UZ Go.Dn.Dec.mixed Go.Dn.Dec.Pa.Xi Go.Dn.Dec.gK Tryz.func5 (by kernel_rfl) hT (Go.Dn.iL (Go.Dn.Dec.Pa.Fw z0 z1 z2 r0 r1 r2)) (by simp only[Go.Dn.eY];exact⟨_,_,rfl,hv0,_,_,rfl,hv1,_,_,rfl,hv2,rfl⟩) fun _ _ h=>Go.Dn.TG h
set_option maxRecDepth 100000 in
theorem lifted(os:Os)(started:os.Started)(H:Type)(enc:TypeId×Value->H):
    ReturnsInHanded {} Tryz.checked os 5 .any (fun w args=>(Rows.printBackSpec.pre enc Tryz.prog Tryz.f5 Rows.printBackRow.domain false w args/\laidMetH Tryz.prog Go.Dn.Dec.EV w)/\sizedMet enc Tryz.prog Tryz.f5 (OpenSpec.ofChange Rows.printBackSpec) false w args)
      (Rows.printBackSpec.post enc Tryz.prog Tryz.f5 false true false false):=by
  refine Go.Dn.Dec.qM (C:=Tryz.checked) (X:=fun w _=>laidMetH Tryz.prog Go.Dn.Dec.EV w) (fun _ _ _ hh h=>h.of_heap hh) own started (by kernel_rfl) Tryz.func5
    (ChangeSpec.witness_shaped (enc:=enc) (C:=Tryz.checked) (os:=os) (X:=fun w _=>laidMetH Tryz.prog Go.Dn.Dec.EV w) false (World.laidAll Tryz.prog os Go.Dn.Dec.EV) #[.slice none 0 0,.slice none 0 0,.slice none 0 0] 8 (World.laidAll_os _ _ _)
      (World.shaped_of_ZipB (by kernel_rfl) (by kernel_rfl)) (by kernel_rfl) (by kernel_rfl) (by kernel_rfl)
      (by rw[MakeChecks.laidMetH_plain _ _ _ (by kernel_rfl)];exact laidMet_laidAll _ (by kernel_rfl) (by kernel_rfl))) ?_
  intro W base args ds gs before hval0 hW hL hsh
  have hval:∀(j:Nat) t v,Tryz.f5.params[j]?=some t->args[j]?=some v->Value.okWide Tryz.prog W .any base t v:=hval0
  have hW':=hW
  obtain⟨p,q,hA0,hV,rfl,_,_⟩:=hW
  have hA:DataW.TrodAll enc Tryz.prog W 0 (fun _=>true) true Tryz.f5.params.toList args.toList ds p:=hA0
  rw[Tryz.params5]at hA hval
  obtain⟨v0,vs0,d0,ds0,p0,q0,e0,rfl,rfl,h0,r0'⟩:=trodAll_cons hA
  obtain⟨v1,vs1,d1,ds1,p1,q1,e1,rfl,rfl,h1,r1'⟩:=trodAll_cons r0'
  obtain⟨v2,vs2,d2,ds2,p2,q2,e2,rfl,rfl,h2,r2'⟩:=trodAll_cons r1'
  obtain⟨rfl,rfl,rfl⟩:=trodAll_nil r2'
  obtain rfl:args=#[v0,v1,v2]:=by cases args;simp_all
  obtain⟨rfl,rfl⟩:=trodVars_none hV
  obtain⟨a0,len0,cap0,rfl⟩:=okWide_slice Tryz.underlying22 (hval 0 22 v0 rfl rfl)
  have k0:=h0
  have lt0:∀x∈p0,x.block<W.heap.size:=by obtain⟨m,hm⟩:=k0;exact DataW.trod_lt m _ _ _ hm
  obtain⟨z0,hrd0,hwf0⟩:∃zs:List Int,Go.Dn.RD (Go.Dn.qR W) (.l false (Go.Dn.ints .u8 zs)) (.slice a0 len0 cap0)/\∀n∈zs,(Lit.int .u8 n).wf=true:=by
    obtain⟨fuel,hf⟩:=h0
    refine Go.Dn.BV ?_
    rcases open_ints Tryz.underlying22 Tryz.underlying5 (by kernel_rfl) hf with⟨hcs,_⟩|⟨x,l,c,zs,hcs,_,hl,hm,hz,_,hcell,hwz⟩
    · simp [Value.cells] at hcs
      exact .inl hcs
    · simp [Value.cells] at hcs
      obtain⟨rfl,rfl,rfl⟩:=hcs
      exact .inr ⟨x,zs,rfl,hl,by simpa using hz,hcell,hwz⟩
  obtain⟨a1,len1,cap1,rfl⟩:=okWide_slice Tryz.underlying36 (hval 1 36 v1 rfl rfl)
  have k1:=h1
  have lt1:∀x∈p1,x.block<W.heap.size:=by obtain⟨m,hm⟩:=k1;exact DataW.trod_lt m _ _ _ hm
  obtain⟨z1,hrd1,hwf1⟩:∃zs:List Int,Go.Dn.RD (Go.Dn.qR W) (.l false (Go.Dn.ints .u16 zs)) (.slice a1 len1 cap1)/\∀n∈zs,(Lit.int .u16 n).wf=true:=by
    obtain⟨fuel,hf⟩:=h1
    refine Go.Dn.BV ?_
    rcases open_ints Tryz.underlying36 Tryz.underlying47 (by kernel_rfl) hf with⟨hcs,_⟩|⟨x,l,c,zs,hcs,_,hl,hm,hz,_,hcell,hwz⟩
    · simp [Value.cells] at hcs
      exact .inl hcs
    · simp [Value.cells] at hcs
      obtain⟨rfl,rfl,rfl⟩:=hcs
      exact .inr ⟨x,zs,rfl,hl,by simpa using hz,hcell,hwz⟩
  obtain⟨a2,Xz,cap2,rfl⟩:=okWide_slice Tryz.underlying22 (hval 2 22 v2 rfl rfl)
  have k2:=h2
  have lt2:∀x∈p2,x.block<W.heap.size:=by obtain⟨m,hm⟩:=k2;exact DataW.trod_lt m _ _ _ hm
  obtain⟨z2,hrd2,hwf2⟩:∃zs:List Int,Go.Dn.RD (Go.Dn.qR W) (.l false (Go.Dn.ints .u8 zs)) (.slice a2 Xz cap2)/\∀n∈zs,(Lit.int .u8 n).wf=true:=by
    obtain⟨fuel,hf⟩:=h2
    refine Go.Dn.BV ?_
    rcases open_ints Tryz.underlying22 Tryz.underlying5 (by kernel_rfl) hf with⟨hcs,_⟩|⟨x,l,c,zs,hcs,_,hl,hm,hz,_,hcell,hwz⟩
    · simp [Value.cells] at hcs
      exact .inl hcs
    · simp [Value.cells] at hcs
      obtain⟨rfl,rfl,rfl⟩:=hcs
      exact .inr ⟨x,zs,rfl,hl,by simpa using hz,hcell,hwz⟩
  clear hA0 hval0
  refine(calls W (Go.Dn.Dec.Rs hsh hL) hrd0 hwf0 hrd1 hwf1 hrd2 hwf2).mono fun e W' ⟨he,bel⟩=>?_
  subst he
  exact⟨_,rfl,_,_,_,[],_,[],hW',trodAll_mk1 (shut_bool Tryz.underlying4 _),(trodAll_cons_mk (Below.trod laidOut (by kernel_rfl) (of_decide_eq_true (by kernel_rfl)) k0 bel lt0) (trodAll_cons_mk (Below.trod laidOut (by kernel_rfl) (of_decide_eq_true (by kernel_rfl)) k1 bel lt1) (trodAll_cons_mk (Below.trod laidOut (by kernel_rfl) (of_decide_eq_true (by kernel_rfl)) k2 bel lt2) trodAll_mk0))),rfl,bel.frame _,fun h=>by cases h⟩
theorem over:Rows.printBackRow.holds Tryz.pinned (OpenSpec.ofChange Rows.printBackSpec):=
  OpenClaim.holds_of_wide 5 Tryz.f5 rfl rfl rfl rfl rfl rfl rfl ⟨rfl,rfl,rfl,rfl,rfl⟩ rfl rfl rfl rfl rfl (by kernel_rfl) Tryz.func5 (by kernel_rfl)
    (of_decide_eq_true (by kernel_rfl)) (by unfold Func.isWrapper;first|(rw[if_pos (by decide +kernel)];kernel_rfl)|(rw[if_neg (by decide +kernel)];exact⟨rfl,rfl⟩))
    (fun os started H enc _=>lifted os started H enc)
end Go.Proofs.YtbjllhjbhdjfjaaGreatDoor.PrintBack
namespace Go.Proofs.YtbjllhjbhdjfjaaGreatDoor
theorem printBack_holds:Rows.PrintBackCardSaid:=
  Claim7.holds_tied_plain_at .later [] [.data, .data, .data, .data, .pinned] true (true, "3a524b7eab087b04bc89e0412193514c74d0eba6177dae21b9b862119ce91a14") true
    PrintBack.over (fun _ h=>by cases h) (by kernel_rfl) (fun _ h=>by cases h) printBack_row_tie rfl ⟨rfl,rfl⟩ (by kernel_rfl) rfl
    (fun f fn hf hfn=>by
      obtain rfl : f = 5 := Option.some.inj ((show Tryz.prog.funcNamed "assayer/assayerlaw8.PrintBack" = some 5 by kernel_rfl).symm.trans hf) |>.symm
      obtain rfl:fn=Tryz.f5:=(Option.some.inj (Tryz.func5.symm.trans hfn)).symm
      exact⟨by kernel_rfl,fun j t ht=>by
        rw[Tryz.params5]at ht
        have hm:t∈[22,36,22]:=by simpa using Array.mem_of_getElem? ht
        have hall:([22,36,22].all fun u=>!Tryz.prog.wantsStandIn u)=true:=by kernel_rfl
        exact(show Tryz.prog.wantsStandIn t=false by simpa using List.all_eq_true.1 hall t hm)⟩)
    (by kernel_rfl)
end Go.Proofs.YtbjllhjbhdjfjaaGreatDoor
