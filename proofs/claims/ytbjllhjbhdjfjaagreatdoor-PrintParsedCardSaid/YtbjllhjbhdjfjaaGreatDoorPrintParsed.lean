/- PrintParsed returns true, whatever the input, and leaves all else alone; the card's variables are tied to the program's text. Condition: none of our own; the row's own list of package-level variables. -/
import Derived.Test.YtbjllhjbhdjfjaaGreatDoorRows
import Derived.Test.YtbjllhjbhdjfjaaGreatDoorTie
import Derived.Test.YtbjllhjbhdjfjaaGreatDoorCards
import Derived.Test.YtbjllhjbhdjfjaaGreatDoorP5
import Derived.Test.YtbjllhjbhdjfjaaGreatDoorP10
import Derived.WalkKit
import Derived.ProofKit
import Derived.OpenShut
import Derived.ShutString
import Derived.Lay
import Derived.SevenTiedAt
import Derived.ChangeOld
import Derived.Below
import Derived.SizedLaws
namespace Go.Proofs.YtbjllhjbhdjfjaaGreatDoor.PrintParsed
open Go.ChangeShapes Go.WideShapes Go.ChangeAt Go.RowKit
open Go.ChangeMaps (open_string shut_string)
theorem own:ownKnob Tryz.prog.godebug=none:=by kernel_rfl
theorem laidOut:laidOutB Tryz.prog=true:=by kernel_rfl
set_option maxRecDepth 100000 in
theorem calls(W:World)(hT:Go.Dn.oH W){v0:Value}{z0:List Int}(hv0:Go.Dn.RD (Go.Dn.qq W) (.l false (Go.Dn.ints .u8 z0)) v0)(w0:∀n∈z0,(Lit.int .u8 n).wf=true){v1:Value}{z1:List Int}(hv1:Go.Dn.RD (Go.Dn.qq W) (.l false (Go.Dn.ints .u16 z1)) v1)(w1:∀n∈z1,(Lit.int .u16 n).wf=true){v2:Value}{z2:List Int}(hv2:Go.Dn.RD (Go.Dn.qq W) (.l false (Go.Dn.ints .u8 z2)) v2)(w2:∀n∈z2,(Lit.int .u8 n).wf=true):Calls Tryz.prog 4 #[v0,v1,v2] W fun e W'=>e = .returned (.bool true)/\Below W.heap.size W W':=by
  have r0:∀z∈z0,0<=z/\z<256:=fun z h=>by
    have:=w0 z h
    simp[Lit.wf,IntKind.min,IntKind.max,IntKind.signed,IntKind.bits]at this
    omega
  have r1:∀z∈z1,0<=z/\z<65536:=fun z h=>by
    have:=w1 z h
    simp[Lit.wf,IntKind.min,IntKind.max,IntKind.signed,IntKind.bits]at this
    omega
  have r2:∀z∈z2,0<=z/\z<256:=fun z h=>by
    have:=w2 z h
    simp[Lit.wf,IntKind.min,IntKind.max,IntKind.signed,IntKind.bits]at this
    omega
  exact Go.Dn.RC Go.Dn.Dec.mixed Go.Dn.Dec.Pa.Tn Go.Dn.Dec.fQ Tryz.func4 (by kernel_rfl) hT (Go.Dn.ic (Go.Dn.Dec.Pa.zO z0 z1 z2 r0 r1 r2)) (by simp only[Go.Dn.dJ];exact⟨_,_,rfl,hv0,_,_,rfl,hv1,_,_,rfl,hv2,rfl⟩) fun _ _ h=>Go.Dn.Ql h
set_option maxRecDepth 100000 in
theorem lifted(os:Os)(started:os.Started)(H:Type)(enc:TypeId×Value->H):
    ReturnsInHanded {} Tryz.checked os 4 .any (fun w args=>(Rows.printParsedSpec.pre enc Tryz.prog Tryz.f4 Rows.printParsedRow.domain false w args/\laidMetH Tryz.prog Go.Dn.Dec.EU w)/\sizedMet enc Tryz.prog Tryz.f4 (OpenSpec.ofChange Rows.printParsedSpec) false w args)
      (Rows.printParsedSpec.post enc Tryz.prog Tryz.f4 false true false false):=by
  refine Go.Dn.Dec.ql (C:=Tryz.checked) (X:=fun w _=>laidMetH Tryz.prog Go.Dn.Dec.EU w) (fun _ _ _ hh h=>h.of_heap hh) own started (by kernel_rfl) Tryz.func4
    (ChangeSpec.witness_shaped (enc:=enc) (C:=Tryz.checked) (os:=os) (X:=fun w _=>laidMetH Tryz.prog Go.Dn.Dec.EU w) false (World.laidAll Tryz.prog os Go.Dn.Dec.EU) #[.slice none 0 0,.slice none 0 0,.slice none 0 0] 8 (World.laidAll_os _ _ _)
      (World.shaped_of_ZipB (by kernel_rfl) (by kernel_rfl)) (by kernel_rfl) (by kernel_rfl) (by kernel_rfl)
      (by rw[MakeChecks.laidMetH_plain _ _ _ (by kernel_rfl)];exact laidMet_laidAll _ (by kernel_rfl) (by kernel_rfl))) ?_
  intro W base args ds gs before hval0 hW hL hsh
  have hval:∀(j:Nat) t v,Tryz.f4.params[j]?=some t->args[j]?=some v->Value.okWide Tryz.prog W .any base t v:=hval0
  have hW':=hW
  obtain⟨p,q,hA0,hV,rfl,_,_⟩:=hW
  have hA:DataW.TrodAll enc Tryz.prog W 0 (fun _=>true) true Tryz.f4.params.toList args.toList ds p:=hA0
  rw[Tryz.params4]at hA hval
  obtain⟨v0,vs0,d0,ds0,p0,q0,e0,rfl,rfl,h0,r0'⟩:=trodAll_cons hA
  obtain⟨v1,vs1,d1,ds1,p1,q1,e1,rfl,rfl,h1,r1'⟩:=trodAll_cons r0'
  obtain⟨v2,vs2,d2,ds2,p2,q2,e2,rfl,rfl,h2,r2'⟩:=trodAll_cons r1'
  obtain⟨rfl,rfl,rfl⟩:=trodAll_nil r2'
  obtain rfl:args=#[v0,v1,v2]:=by cases args;simp_all
  obtain⟨rfl,rfl⟩:=trodVars_none hV
  obtain⟨a0,len0,cap0,rfl⟩:=okWide_slice Tryz.underlying22 (hval 0 22 v0 rfl rfl)
  have k0:=h0
  have lt0:∀x∈p0,x.block<W.heap.size:=by obtain⟨m,hm⟩:=k0;exact DataW.trod_lt m _ _ _ hm
  obtain⟨z0,hrd0,hwf0⟩:∃zs:List Int,Go.Dn.RD (Go.Dn.qq W) (.l false (Go.Dn.ints .u8 zs)) (.slice a0 len0 cap0)/\∀n∈zs,(Lit.int .u8 n).wf=true:=by
    obtain⟨fuel,hf⟩:=h0
    refine Go.Dn.B2 ?_
    rcases open_ints Tryz.underlying22 Tryz.underlying5 (by kernel_rfl) hf with⟨hcs,_⟩|⟨x,l,c,zs,hcs,_,hl,hm,hz,_,hcell,hwz⟩
    · simp [Value.cells] at hcs
      exact .inl hcs
    · simp [Value.cells] at hcs
      obtain⟨rfl,rfl,rfl⟩:=hcs
      exact .inr ⟨x,zs,rfl,hl,by simpa using hz,hcell,hwz⟩
  obtain⟨a1,len1,cap1,rfl⟩:=okWide_slice Tryz.underlying36 (hval 1 36 v1 rfl rfl)
  have k1:=h1
  have lt1:∀x∈p1,x.block<W.heap.size:=by obtain⟨m,hm⟩:=k1;exact DataW.trod_lt m _ _ _ hm
  obtain⟨z1,hrd1,hwf1⟩:∃zs:List Int,Go.Dn.RD (Go.Dn.qq W) (.l false (Go.Dn.ints .u16 zs)) (.slice a1 len1 cap1)/\∀n∈zs,(Lit.int .u16 n).wf=true:=by
    obtain⟨fuel,hf⟩:=h1
    refine Go.Dn.B2 ?_
    rcases open_ints Tryz.underlying36 Tryz.underlying47 (by kernel_rfl) hf with⟨hcs,_⟩|⟨x,l,c,zs,hcs,_,hl,hm,hz,_,hcell,hwz⟩
    · simp [Value.cells] at hcs
      exact .inl hcs
    · simp [Value.cells] at hcs
      obtain⟨rfl,rfl,rfl⟩:=hcs
      exact .inr ⟨x,zs,rfl,hl,by simpa using hz,hcell,hwz⟩
  obtain⟨a2,CC,cap2,rfl⟩:=okWide_slice Tryz.underlying22 (hval 2 22 v2 rfl rfl)
  have k2:=h2
  have lt2:∀x∈p2,x.block<W.heap.size:=by obtain⟨m,hm⟩:=k2;exact DataW.trod_lt m _ _ _ hm
  obtain⟨z2,hrd2,hwf2⟩:∃zs:List Int,Go.Dn.RD (Go.Dn.qq W) (.l false (Go.Dn.ints .u8 zs)) (.slice a2 CC cap2)/\∀n∈zs,(Lit.int .u8 n).wf=true:=by
    obtain⟨fuel,hf⟩:=h2
    refine Go.Dn.B2 ?_
    rcases open_ints Tryz.underlying22 Tryz.underlying5 (by kernel_rfl) hf with⟨hcs,_⟩|⟨x,l,c,zs,hcs,_,hl,hm,hz,_,hcell,hwz⟩
    · simp [Value.cells] at hcs
      exact .inl hcs
    · simp [Value.cells] at hcs
      obtain⟨rfl,rfl,rfl⟩:=hcs
      exact .inr ⟨x,zs,rfl,hl,by simpa using hz,hcell,hwz⟩
  clear hA0 hval0
  refine(calls W (Go.Dn.Dec.Pz hsh hL) hrd0 hwf0 hrd1 hwf1 hrd2 hwf2).mono fun e W' ⟨he,bel⟩=>?_
  subst he
  exact⟨_,rfl,_,_,_,[],_,[],hW',trodAll_mk1 (shut_bool Tryz.underlying4 _),(trodAll_cons_mk (Below.trod laidOut (by kernel_rfl) (of_decide_eq_true (by kernel_rfl)) k0 bel lt0) (trodAll_cons_mk (Below.trod laidOut (by kernel_rfl) (of_decide_eq_true (by kernel_rfl)) k1 bel lt1) (trodAll_cons_mk (Below.trod laidOut (by kernel_rfl) (of_decide_eq_true (by kernel_rfl)) k2 bel lt2) trodAll_mk0))),rfl,bel.frame _,fun h=>by cases h⟩
theorem over:Rows.printParsedRow.holds Tryz.pinned (OpenSpec.ofChange Rows.printParsedSpec):=
  OpenClaim.holds_of_wide 4 Tryz.f4 rfl rfl rfl rfl rfl rfl rfl ⟨rfl,rfl,rfl,rfl,rfl⟩ rfl rfl rfl rfl rfl (by kernel_rfl) Tryz.func4 (by kernel_rfl)
    (of_decide_eq_true (by kernel_rfl)) (by unfold Func.isWrapper;first|(rw[if_pos (by decide +kernel)];kernel_rfl)|(rw[if_neg (by decide +kernel)];exact⟨rfl,rfl⟩))
    (fun os started H enc _=>lifted os started H enc)
end Go.Proofs.YtbjllhjbhdjfjaaGreatDoor.PrintParsed
namespace Go.Proofs.YtbjllhjbhdjfjaaGreatDoor
theorem printParsed_holds:Rows.PrintParsedCardSaid:=
  Claim7.holds_tied_plain_at .later [] [.data, .data, .data, .data, .pinned] true (true, "3a524b7eab087b04bc89e0412193514c74d0eba6177dae21b9b862119ce91a14") true
    PrintParsed.over (fun _ h=>by cases h) (by kernel_rfl) (fun _ h=>by cases h) printParsed_row_tie rfl ⟨rfl,rfl⟩ (by kernel_rfl) rfl
    (fun f fn hf hfn=>by
      obtain rfl : f = 4 := Option.some.inj ((show Tryz.prog.funcNamed "assayer/assayerlaw8.PrintParsed" = some 4 by kernel_rfl).symm.trans hf) |>.symm
      obtain rfl:fn=Tryz.f4:=(Option.some.inj (Tryz.func4.symm.trans hfn)).symm
      exact⟨by kernel_rfl,fun j t ht=>by
        rw[Tryz.params4]at ht
        have hm:t∈[22,36,22]:=by simpa using Array.mem_of_getElem? ht
        have hall:([22,36,22].all fun u=>!Tryz.prog.wantsStandIn u)=true:=by kernel_rfl
        exact(show Tryz.prog.wantsStandIn t=false by simpa using List.all_eq_true.1 hall t hm)⟩)
    (by kernel_rfl)
end Go.Proofs.YtbjllhjbhdjfjaaGreatDoor
