/-
 DERIVED: THE SHELF's CONTRACTS AT THIS DUMP, IN PLAIN WORDS (tools/lay-plain.mjs out of 'ZpSs.lean', which tools/lay-shelf.mjs wrote): THE SAME DECLARATIONS UNDER THE SAME NAMES: 'import', 'namespace', 'open', 'def', 'theorem' AND NOTHING ELSE: no command of the shelf's: FOR A HAND-IN. Each laying: the table of numbers ('.._ren') and one theorem, a field a fact of the dump's own or the kernel's comparison; each contract: ONE APPLICATION.
-/
import Derived.Shelf.Strings.Builder1
import Derived.Shelf.Strings.Builder2
import Derived.Shelf.Strings.OnBuilder
import Derived.Shelf.Strconv.Itoa0
import Derived.Shelf.Strconv.Itoa1
import Derived.Shelf.LaysM
import Derived.Shelf.Strconv.Itoa2
import Derived.Shelf.Strconv.Itoa3
import Derived.Shelf.Strconv.Itoa4
import Derived.Shelf.LaysC
import Derived.Shelf.Strconv.ToError
import Derived.Shelf.Strconv.ToErrorRange
import Derived.Shelf.Strings.BuilderCap
import Derived.Test.YtbjllhjbhdjfjaaGreatDoorProg
import Derived.Test.YtbjllhjbhdjfjaaGreatDoorP5
import Derived.Lib.Builder
import Derived.Lib.UnsafeStr
import Derived.Test.YtbjllhjbhdjfjaaGreatDoorP4
import Derived.KernelRfl
set_option linter.unusedVariables false
set_option linter.unusedSimpArgs false
set_option linter.unusedSectionVars false
namespace Go.Proofs
open Go.IntKind (i64 u64 u8 u16 i32 u32)
open Go.Shelf
def Tryz.lays156_ren:Go.Shelf.Ren:=⟨λ|156=>51|165=>119|166=>56|169=>30|240=>122|241=>175|276=>176|277=>203|n=>n,λ|31=>29|9=>9|3=>3|4=>4|0=>0|20=>20|72=>71|76=>117|70=>69|37=>22|75=>116|127=>123|164=>198|5=>5|80=>77|n=>n,λ|n=>n⟩
theorem Tryz.lays156:Go.Proofs.Lays.n156 prog Tryz.lays156_ren:={
 mixed:=by kernel_rfl
 f156:=cc Tryz.func51
 f165:=cc Tryz.func119
 f166:=cc Tryz.func56
 f169:=cc Tryz.func30
 f240:=cc Tryz.func122
 f241:=cc Tryz.func175
 f276:=cc Tryz.func176
 f277:=cc Tryz.func203
 t0:=Tryz.underlying0
 a0:=Tryz.isAgg0
 z0:=Tryz.sizeOf0
 v0:=Tryz.zeroValue0
 t3:=Tryz.underlying3
 a3:=Tryz.isAgg3
 z3:=Tryz.sizeOf3
 v3:=Tryz.zeroValue3
 t4:=Tryz.underlying4
 a4:=Tryz.isAgg4
 z4:=Tryz.sizeOf4
 v4:=Tryz.zeroValue4
 t9:=Tryz.underlying9
 a9:=Tryz.isAgg9
 z9:=Tryz.sizeOf9
 v9:=Tryz.zeroValue9
 t20:=Tryz.underlying20
 a20:=Tryz.isAgg20
 z20:=Tryz.sizeOf20
 v20:=Tryz.zeroValue20
 t31:=Tryz.underlying29
 a31:=Tryz.isAgg29
 z31:=Tryz.sizeOf29
 v31:=Tryz.zeroValue29
 t37:=Tryz.underlying22
 a37:=Tryz.isAgg22
 z37:=Tryz.sizeOf22
 v37:=Tryz.zeroValue22
 t70:=Tryz.underlying69
 a70:=Tryz.isAgg69
 z70:=Tryz.sizeOf69
 v70:=Tryz.zeroValue69
 t72:=Tryz.underlying71
 a72:=Tryz.isAgg71
 z72:=Tryz.sizeOf71
 v72:=Tryz.zeroValue71
 t75:=Tryz.underlying116
 a75:=Tryz.isAgg116
 z75:=Tryz.sizeOf116
 v75:=Tryz.zeroValue116
 t76:=Tryz.underlying117
 a76:=Tryz.isAgg117
 z76:=Tryz.sizeOf117
 v76:=Tryz.zeroValue117
 t127:=Tryz.underlying123
 a127:=Tryz.isAgg123
 z127:=Tryz.sizeOf123
 v127:=Tryz.zeroValue123
 t164:=Tryz.underlying198
 a164:=Tryz.isAgg198
 z164:=Tryz.sizeOf198
 v164:=Tryz.zeroValue198 }
theorem Tryz.Builder_Extra_156:Builder.Extra prog Tryz.lays156_ren:={
 sizeBuilder:=by kernel_rfl
 liesBuilder:=by kernel_rfl
 t5:=Tryz.underlying5
 a5:=Tryz.isAgg5
 z5:=Tryz.sizeOf5
 v5:=Tryz.zeroValue5
 infoByte:=by kernel_rfl
 cellsByte:=by kernel_rfl
 sizeByte:=by kernel_rfl
 neB5:=by decide }
open Go.RowKit in
theorem Tryz.strings_Join_none(a:Option Addr)(c:Nat)(sep:ByteArray)(w:World):
  Calls prog 51 #[.slice a 0 c,.string sep] w λ e w'=>e = .returned (.string ⟨#[]⟩)/\w'=w:=Any.strings_Join_none Tryz.lays156 Tryz.Builder_Extra_156 a c sep w
open Go.RowKit in
theorem Tryz.strings_Join(bk o c:Nat)(xs:List ByteArray)(sep:ByteArray)(w:World)(hcells:∀(j:Nat) x,xs[j]?=some x->w.cell? ⟨bk,o+j,none⟩=some (.string x))(hbk:bk<w.heap.size)(hN:xs.length<=140737488355328)(hcap:xs.length<=c)(hlen:(Lib.join (xs.map (·.data.toList)) sep.data.toList).length<=140737488355328):
  Calls prog 51 #[.slice (some ⟨bk,o,none⟩) xs.length c,.string sep] w λ e w'=>e = .returned (.string ⟨(Lib.join (xs.map (·.data.toList)) sep.data.toList).toArray⟩)/\Below w.heap.size w w':=Any.strings_Join Tryz.lays156 Tryz.Builder_Extra_156 bk o c xs sep w hcells hbk hN hcap hlen
def Tryz.laysM173_ren:Go.Shelf.Ren:=⟨λ|173=>49|246=>111|283=>156|284=>157|285=>158|286=>159|129=>191|317=>190|318=>192|319=>193|320=>194|337=>216|338=>217|n=>n,λ|2=>2|3=>3|9=>9|4=>4|171=>184|0=>0|53=>49|37=>22|5=>5|173=>187|212=>214|51=>147|20=>20|213=>215|46=>144|232=>236|233=>237|n=>n,λ|17=>0|18=>2|19=>3|n=>n⟩
theorem Tryz.laysM173:Go.Proofs.LaysM.n173 prog Tryz.laysM173_ren:={
 mixed:=by kernel_rfl
 f129:=cc Tryz.func191
 f173:=cc Tryz.func49
 f246:=cc Tryz.func111
 f283:=cc Tryz.func156
 f284:=cc Tryz.func157
 f285:=cc Tryz.func158
 f286:=cc Tryz.func159
 f317:=cc Tryz.func190
 f318:=cc Tryz.func192
 f319:=cc Tryz.func193
 f320:=cc Tryz.func194
 f337:=cc Tryz.func216
 f338:=cc Tryz.func217
 t0:=Tryz.underlying0
 a0:=Tryz.isAgg0
 z0:=Tryz.sizeOf0
 v0:=Tryz.zeroValue0
 t2:=Tryz.underlying2
 a2:=Tryz.isAgg2
 z2:=Tryz.sizeOf2
 v2:=Tryz.zeroValue2
 t3:=Tryz.underlying3
 a3:=Tryz.isAgg3
 z3:=Tryz.sizeOf3
 v3:=Tryz.zeroValue3
 t4:=Tryz.underlying4
 a4:=Tryz.isAgg4
 z4:=Tryz.sizeOf4
 v4:=Tryz.zeroValue4
 t5:=Tryz.underlying5
 a5:=Tryz.isAgg5
 z5:=Tryz.sizeOf5
 v5:=Tryz.zeroValue5
 t9:=Tryz.underlying9
 a9:=Tryz.isAgg9
 z9:=Tryz.sizeOf9
 v9:=Tryz.zeroValue9
 t20:=Tryz.underlying20
 a20:=Tryz.isAgg20
 z20:=Tryz.sizeOf20
 v20:=Tryz.zeroValue20
 t37:=Tryz.underlying22
 a37:=Tryz.isAgg22
 z37:=Tryz.sizeOf22
 v37:=Tryz.zeroValue22
 t46:=Tryz.underlying144
 a46:=Tryz.isAgg144
 z46:=Tryz.sizeOf144
 v46:=Tryz.zeroValue144
 t51:=Tryz.underlying147
 a51:=Tryz.isAgg147
 z51:=Tryz.sizeOf147
 v51:=Tryz.zeroValue147
 t53:=Tryz.underlying49
 a53:=Tryz.isAgg49
 z53:=Tryz.sizeOf49
 v53:=Tryz.zeroValue49
 t171:=Tryz.underlying184
 a171:=Tryz.isAgg184
 z171:=Tryz.sizeOf184
 v171:=Tryz.zeroValue184
 t173:=Tryz.underlying187
 a173:=Tryz.isAgg187
 z173:=Tryz.sizeOf187
 v173:=Tryz.zeroValue187
 t212:=Tryz.underlying214
 a212:=Tryz.isAgg214
 z212:=Tryz.sizeOf214
 v212:=Tryz.zeroValue214
 t213:=Tryz.underlying215
 a213:=Tryz.isAgg215
 z213:=Tryz.sizeOf215
 t232:=Tryz.underlying236
 a232:=Tryz.isAgg236
 z232:=Tryz.sizeOf236
 v232:=Tryz.zeroValue236
 t233:=Tryz.underlying237
 a233:=Tryz.isAgg237
 z233:=Tryz.sizeOf237
 v233:=Tryz.zeroValue237
 g17:=by kernel_rfl
 g18:=by kernel_rfl
 g19:=by kernel_rfl
 i0:=by kernel_rfl
 i2:=by kernel_rfl
 i3:=by kernel_rfl
 i4:=by kernel_rfl
 i5:=by kernel_rfl
 i9:=by kernel_rfl
 i20:=by kernel_rfl
 i37:=by kernel_rfl
 i46:=by kernel_rfl
 i51:=by kernel_rfl
 i53:=by kernel_rfl
 i171:=by kernel_rfl
 i173:=by kernel_rfl
 i212:=by kernel_rfl
 i232:=by kernel_rfl
 i233:=by kernel_rfl
 m17:=by kernel_rfl
 m18:=by kernel_rfl
 m19:=by kernel_rfl }
open Go.RowKit Go.Sort Go.Lib in
theorem Tryz.strconv_FormatInt_10 (n : Int) (h0 : -9223372036854775808 ≤ n) (h1 : n ≤ 9223372036854775807) (w : World) (htab : Lib.TabIs prog w "internal/strconv.uint64pow10" .u64 Lib.pow10Tab) :
  Calls prog 49 #[.int .i64 n,.int .i64 10] w λ e w'=>e = .returned (.string ⟨(Lib.itoa n).toArray⟩)/\∃k os,w'=grow (w.drewN k) os:=Any.strconv_FormatInt_10 Tryz.laysM173 n h0 h1 w htab
open Go.Shelf Go.RowKit
set_option maxRecDepth 100000
theorem Tryz.lies64(c:Nat):liesAt prog prog.depth 73 (c+1) 0 71 1=true:=by kernel_rfl
theorem Tryz.cells64:prog.cellsOf 73=2:=by kernel_rfl
theorem Tryz.info62:(prog.info? 71).map (·.size)=some 2:=by kernel_rfl
set_option maxHeartbeats 1000000 in
theorem Tryz.copyCheck_used(b:Nat)(w:World)(h0:w.cell? ⟨b,0,none⟩=some (.pointer (some ⟨b,0,none⟩))):
  Calls prog 122 #[.pointer (some ⟨b,0,none⟩)] w λ e w'=>e = .returned (.tuple #[])/\w'=w:=by
 obtain⟨j,hj,_⟩:=Option.map_eq_some_iff.1 Tryz.info62
 go_enter Tryz.func122,Tryz.ntmps122
 go_wp2
 rw[Lib.run_neq_ptr_same w _ Tryz.underlying69 hj]
 go_wp2
 go_end0
 exact⟨rfl,rfl⟩
set_option maxHeartbeats 1000000 in
theorem Tryz.copyCheck_fresh(b c:Nat)(w:World)(h0:w.cell? ⟨b,0,none⟩=some (.pointer none))(hsh:w.shape? b=some (73,c))(hc:2<=c)(hfz:w.frozen? ⟨b,0,none⟩=false):
  Calls prog 122 #[.pointer (some ⟨b,0,none⟩)] w λ e w'=>e = .returned (.tuple #[])/\w'=w.setCell ⟨b,0,none⟩ (.pointer (some ⟨b,0,none⟩)):=by
 obtain⟨j,hj,hjs⟩:=Option.map_eq_some_iff.1 Tryz.info62;have hl:liesAt prog prog.depth 73 (c / prog.cellsOf 73) 0 71 1=true:=by
  rw[Tryz.cells64];obtain⟨k,hk⟩:∃k,c / 2=k+1:=⟨c / 2-1,by omega⟩
  rw[hk];exact Tryz.lies64 k
 go_enter Tryz.func122,Tryz.ntmps122
 go_wp2
 rw[Lib.run_to_unsafe w ⟨b,0,none⟩ Tryz.underlying69 Tryz.underlying198 hj (by rw[hjs];decide) hsh (by show 0<c;omega)];simp only[Result.andThen];rw[Oper.upon_value]
 go_wp2
 rw[run_callFunc_extern Tryz.func176 (by kernel_rfl) (by kernel_rfl) (by kernel_rfl) (e:=Extern.AbiNoEscape.same) (by kernel_rfl)];rw[Lib.run_noEscape];simp only[Result.andThen];rw[Oper.upon_value]
 go_wp2
 rw[Lib.run_from_unsafe w ⟨b,0,none⟩ Tryz.underlying198 Tryz.underlying69 hj hsh hl];simp only[Result.andThen];rw[Oper.upon_value]
 go_wp2
 go_end0
 exact⟨rfl,rfl⟩
theorem uy{P:Program}{e:TypeId}(hc:P.cellsOf e=1)(count off n:Nat)(hn:off+n<=count):liesAt P P.depth e count off e n=true:=by have hd:P.depth=(2*(P.types.size+Made.depth)+1)+1:=rfl;rw[hd];simp only[liesAt,Bool.or_eq_true];left;rw[hd];simp[rowAt,hc,hn,sameLayout,Nat.mod_one]
theorem pZ{P:Program}(w:World)(pt it ty e:TypeId)(hp:P.underlying pt=some (.pointer e))(hc:P.cellsOf e=1)(g off cells:Nat)(hsh:w.shape? g=some (e,cells))(l:List UInt8)(h0:l≠[])(hn:off+l.length<=cells)(h63:l.length<=9223372036854775807)
  (hcell:∀j x,l[j]?=some x->w.cell? ((⟨g,off,none⟩:Addr).add j)=some (.int .u8 x.toNat)):
  (Builtin.unsafeString_ #[pt,it] ty #[.pointer (some ⟨g,off,none⟩),.int .i64 l.length]).run P w = .ok (.string ⟨l.toArray⟩) (w.freeze ⟨g,off,none⟩ l.length):=by
 have hl:l.length≠0:=by simpa using h0
 have hlb:=Lib.run_loadBytes (P:=P) w l ⟨g,off,none⟩ .empty hcell;have hlies:=uy (P:=P) hc (cells / P.cellsOf e) off l.length (by rw[hc];simpa using hn);have h63':¬(9223372036854775807:Int)<(l.length:Int):=by omega
 have hdef:Builtin.unsafeString_ #[pt,it] ty #[.pointer (some ⟨g,off,none⟩),.int .i64 l.length]=
   (do
    let n <-asInt (.int .i64 l.length)
    if n < 0 then runtimePanic (.error "unsafe.String: len out of range")
    if n > i64.max then unsupported (.unsafePointer "String: a length above the largest int")
    if n=0 then pure (.string .empty)
    else if <-variablesAt ⟨g,off,none⟩ (<-elemOf pt) n.toNat then do
     let s <-loadBytes ⟨g,off,none⟩ .empty n.toNat
     freeze ⟨g,off,none⟩ n.toNat
     pure (.string s)
    else unsupported (.unsafePointer "String: not so many bytes at ptr")) := rfl
 rw[hdef];have hmax:i64.max=9223372036854775807:=rfl;have hneg:¬(l.length:Int)<0:=by omega
 simp[asInt,asIntOf,hmax,h63',hneg,hl,variablesAt,hsh,elemOf,run_underlying hp,hlies,hlb]
theorem Tryz.cells5:prog.cellsOf 5=1:=by kernel_rfl
set_option maxHeartbeats 1000000 in
theorem Tryz.Builder_String(b g off c cells:Nat)(l:List UInt8)(w:World)(c0:w.cell? ⟨b,1,none⟩=some (.slice (some ⟨g,off,none⟩) l.length c))(hl0:l≠[])(hcap:l.length<=c)(hsh:w.shape? g=some (5,cells))(hfit:off+l.length<=cells)(h63:l.length<=9223372036854775807)
  (hcell:∀j x,l[j]?=some x->w.cell? ((⟨g,off,none⟩:Addr).add j)=some (.int .u8 x.toNat)):
  Calls prog 30 #[.pointer (some ⟨b,0,none⟩)] w λ e w'=>e = .returned (.string ⟨l.toArray⟩)/\w'=w.drew.freeze ⟨g,off,none⟩ l.length:=by
 have hl1:l.length≠0:=by simpa using hl0
 have c1:w.drew.cell? ⟨b,1,none⟩=some (.slice (some ⟨g,off,none⟩) l.length c):=c0;have hSD:(Builtin.unsafeSliceData_ #[22] 123 #[.slice (some ⟨g,off,none⟩) l.length c]).run prog w.drew = .ok (.pointer (some ⟨g,off,none⟩)) w.drew:=
  Lib.run_unsafeSliceData_row _ _ _ _ _ _ (by omega)
 have hUS:(Builtin.unsafeString_ #[123,3] 9 #[.pointer (some ⟨g,off,none⟩),.int .i64 l.length]).run prog w.drew = .ok (.string ⟨l.toArray⟩) (w.drew.freeze ⟨g,off,none⟩ l.length):=
  pZ w.drew 123 3 9 5 Tryz.underlying123 Tryz.cells5 g off cells hsh l hl0 hfit h63 hcell
 clear hl0 hcap hfit hl1 hcell hsh
 go_enter Tryz.func30,Tryz.ntmps30
 go_wp2
 go_region
 all_goals (go_wp2;go_ret;exact⟨rfl,rfl⟩)
end Go.Proofs
namespace Go.Dn.Dec
open Go.IntKind (i64 u64 u8 u16 i32 u32)
open Go.Proofs Go.Shelf Go.RowKit
open Tryz (prog)
set_option maxRecDepth 100000
def o9:List D->Option aE
 | []=>some []
 | .i .u8 n::xs=>if 0<=n/\n<256 then(o9 xs).map (UInt8.ofNat n.toNat :: ·)else none
 |_=>none
theorem zW:∀{xs:List D} {l:aE},o9 xs=some l->xs=ofBytes l
 | [],l,h=>by simp[o9]at h;subst h;rfl
 |x::xs,l,h=>by
  unfold o9 at h;split at h
  ·cases ‹x::xs=[]›
  ·rename_i n r e;injection e with e1 e2;subst e1;subst e2
   split at h
   ·rename_i hn;obtain⟨l',h1,rfl⟩:=Option.map_eq_some_iff.1 h;rw[zW h1];simp only[ofBytes,List.map_cons];congr 1;have:((UInt8.ofNat n.toNat).toNat:Int)=n:=by rw[UInt8.toNat_ofNat'];omega
    rw[this]
   ·cases h
  ·cases h
def r8:List D->Option (List aE)
 | []=>some []
 | .s x::xs=>(r8 xs).map (x :: ·)
 |_=>none
theorem BK:∀{xs:List D} {l:List aE},r8 xs=some l->xs=l.map .s
 | [],l,h=>by simp[r8]at h;subst h;rfl
 |x::xs,l,h=>by
  unfold r8 at h;split at h
  ·cases ‹x::xs=[]›
  ·rename_i s r e;injection e with e1 e2;subst e1;subst e2
   obtain⟨l',h1,rfl⟩:=Option.map_eq_some_iff.1 h;rw[BK h1];rfl
  ·cases h
def qu(args:List V)(S:List Ob):Option Out:=
 match args with
 | [.d (.i .i64 n),.d (.i .i64 b)]=>if b=10/\-9223372036854775808<=n/\n<=9223372036854775807 then some (.d (.s (cU n)),S)else none
 |_=>none
def sK(args:List V)(S:List Ob):Option Out:=
 match args with
 | [.d (.l _ xs),.d (.s t)]=>match r8 xs with
  |some l=>if l.length<=100000/\(Lib.join l t).length<=1000000000 then some (.d (.s (Lib.join l t)),S)else none
  |none=>none
 |_=>none
def wa(args:List V)(S:List Ob):Option Out:=
 match args with
 | [.p id 0]=>match bV S id with
  |some (.cells (c::d::cs) fl)=>match c with
   | .d .np=>if fl.contains (73,2000000)=true then some (.t [],oset S id (.cells (.p id 0::d::cs) (eV fl 0)))else none
   | .p i 0=>if i=id then some (.t [],S)else none
   |_=>none
  |_=>none
 |_=>none
def C8(args:List V)(S:List Ob):Option Out:=
 match args with
 | [.p id 0]=>match bV S id with
  |some (.cells (_ :: .d (.l _ xs)::_) fl)=>match o9 xs with
   |some l=>if l≠[]/\l.length<=1000000000/\fl.contains (1,21000001)=true then some (.d (.s l),S)else none
   |none=>none
  |_=>none
 |_=>none
theorem Mp{args:List V}{S:List Ob}{o:Out}(h:wa args S=some o):cx prog 122 args S o:=by
 unfold wa at h;split at h;rotate_left
 ·cases h
 rename_i id;split at h;rotate_left
 ·cases h
 rename_i c d cs fl hob;intro w G vs hI hr _;obtain⟨v,rfl,hv⟩:=y8 hr;simp only[RV]at hv;obtain⟨b,hb,rfl⟩:=hv;obtain⟨hFb,o',go,hs',hgo,hor⟩:=hI.ob _ _ hb;rw[hob]at hs';injection hs' with hs';subst hs'
 cases go<;>simp only[kQ]at hor;rename_i arr el fz;obtain⟨hlen,hcells,hflags⟩:=hor;obtain⟨v0,h0,hr0,hf0,_⟩:=hcells 0 c rfl;have hc0:w.cell? ⟨b,0,none⟩=some v0:=by simp[World.cell?,hgo,h0]
 split at h
 ·split at h
  ·rename_i hm;injection h with h;subst h
   simp only[RV,RD]at hr0;subst hr0;have hel:el=73:=by have:=hflags 73 2000000 (by simpa using hm);unfold mU at this;simpa using this
   subst hel;have hsh:w.shape? b=some (73,arr.size):=by simp[World.shape?,hgo]
   have hfr:w.frozen? ⟨b,0,none⟩=false:=by obtain⟨lo,hi⟩:=fz;simp only[World.frozen?,hgo];simpa using hf0
   have h2:2<=arr.size:=by simp at hlen;omega
   refine gL.of_calls Tryz.func122 (by kernel_rfl) (gK _ _ Tryz.func122) ((Tryz.copyCheck_fresh b arr.size w hc0 hsh h2 hfr).mono ?_);rintro e w' ⟨rfl,rfl⟩;refine⟨_,rfl,⟨G.F,G.own⟩,?_,?_⟩
   ·simp only[RV,eY];exact⟨#[],rfl,rfl⟩
   rw[p6 hgo];have hrf:=hI.rf _ _ _ hob;have tokne:∀blk i x,G.own blk=some (.cell i x)->blk≠b:=by intro blk i x h1 e;subst e;rw[hb]at h1;cases h1
   refine⟨hI.write hb hob hgo (λ _ _ h _ _=>h) (λ _ _ h => .inr (.inr h)) ?_ ?_,Ext.write hI hb hgo (λ _ _ h _ _=>h) (λ _ h=>h) (λ _ _ h=>h)⟩
   ·simp only[bI,Bool.and_eq_true]at hrf⊢;exact⟨by simp[cj],hrf.2⟩
   ·simp only[kQ];refine⟨by simpa using hlen,λ o c' hc'=>?_,λ o z hm'=>?_⟩
    ·cases o with
     |zero=>
      simp at hc';subst hc';have hpos:0<arr.size:=by omega
      exact⟨.pointer (some ⟨b,0,none⟩),by rw[Array.getElem?_setIfInBounds,aaR rfl,aaR hpos],by simp only[RV];exact⟨b,hb,rfl⟩,hf0,rfl⟩
     |succ o=>
      obtain⟨y,hy,hry,hf,ho1⟩:=hcells (o+1) c' (by simpa using hc');exact⟨y,by rw[Array.getElem?_setIfInBounds_ne (by omega)];exact hy,hry,hf,ho1⟩
    ·obtain⟨hm1,hne⟩:=fM.1 hm';refine(hflags o z hm1).map λ y hy ht=>⟨y,by rw[Array.getElem?_setIfInBounds_ne (by omega)];exact hy,ht.same λ blk hk=>⟨hk,cA (tokne _ _ _ hk),λ _=>rfl⟩⟩
  ·cases h
 ·split at h
  ·rename_i i hi;injection h with h;subst h
   subst hi;simp only[RV]at hr0;obtain⟨b',hb',rfl⟩:=hr0;have:=hI.inj _ _ _ hb' hb;subst this;refine gL.of_calls Tryz.func122 (by kernel_rfl) (gK _ _ Tryz.func122) ((Tryz.copyCheck_used b' w hc0).mono ?_);rintro e w' ⟨rfl,rfl⟩;refine⟨_,rfl,G,?_,hI,Ext.refl _ _ _⟩;simp only[RV,eY];exact⟨#[],rfl,rfl⟩
  ·cases h
 ·cases h
theorem jJ{w:World}{g off n b:Nat}(h:b≠g):(w.freeze ⟨g,off,none⟩ n).heap[b]?=w.heap[b]?:=by
 unfold World.freeze;split
 ·rfl
 ·simp only[Array.getElem?_modify];rw[aaN (Ne.symm h)]
theorem vr{w:World}{g off n:Nat}{cs:Array Value}{el lo hi:Nat}(hn:n≠0)(h:w.heap[g]?=some (.cells cs el (lo,hi))):
  (w.freeze ⟨g,off,none⟩ n).heap[g]?=some (.cells cs el (if lo==hi then(off,off+n) else(min lo off,max hi (off+n)))):=by
 unfold World.freeze;rw[aaN hn];simp only[Array.getElem?_modify,if_true,h,Option.map_some]
theorem pD{w:World}{g off n:Nat}:(w.freeze ⟨g,off,none⟩ n).heap.size=w.heap.size:=by
 unfold World.freeze;split
 ·rfl
 ·simp
theorem F6{w:World}{F:Fz}{sz g off n g':Nat}{ot:Option Nat}{v:Value}(hn:n≠0)(hF:F g (off+n-1)≠none)(h:BY w F sz ot false g' v):BY (w.freeze ⟨g,off,none⟩ n) F sz ot false g' v:=by
 obtain⟨o,m,c,cs,el,fz,e,hg,h1,h2,h3,h4,h5⟩:=h;by_cases hb:g'=g
 ·subst hb;obtain⟨lo,hi⟩:=fz;refine⟨o,m,c,cs,el,_,e,vr hn hg,h1,h2,?_,⟨h4.1,λ h=>by cases h⟩,λ x hx=>⟨(h5 x hx).1,?_⟩⟩
  ·simp only at h3;split
   ·simp
   ·simp only;omega
  ·have hB:off+n-1<o+m*sz:=by
    rcases abn (off+n-1) (o+m*sz)with h|h
    ·exact h
    ·exact absurd (h5 _ h).1 hF
   simp only at h3;split
   ·simp only;omega
   ·rename_i hlh;have hne:lo≠hi:=by simpa using hlh
    have hhi:hi<=o+m*sz:=by
     rcases abn (hi-1) (o+m*sz)with h|h
     ·omega
     ·exact absurd (show lo<=hi-1/\hi-1<hi from⟨by omega,by omega⟩) (h5 _ h).2
    simp only;omega
 ·exact⟨o,m,c,cs,el,fz,e,by rw[jJ hb];exact hg,h1,h2,h3,h4,h5⟩
theorem IN{w:World}{G:Sg}{i o z g off n:Nat}{v:Value}(hn:n≠0)(hF:G.F g (off+n-1)≠none)(h:gq w G (.cell i o) z v):gq (w.freeze ⟨g,off,none⟩ n) G (.cell i o) z v:=by
 rcases h with h|⟨blk,ho,ht⟩
 ·exact .inl h
 ·exact .inr ⟨blk,ho,F6 hn hF ht⟩
theorem DG{w:World}{g off n b o:Nat}:(w.freeze ⟨g,off,none⟩ n).cell? ⟨b,o,none⟩=w.cell? ⟨b,o,none⟩:=by
 by_cases hn:n=0
 ·subst hn;rfl
 by_cases hb:b=g
 ·subst hb
  cases hh:w.heap[b]? with
  |none=>
   have:(w.freeze ⟨b,off,none⟩ n).heap[b]?=none:=by rw[Array.getElem?_eq_none_iff]at hh⊢;rw[pD];exact hh
   simp[World.cell?,hh,this]
  |some go=>
   cases go with
   |cells cs el fz=>obtain⟨lo,hi⟩:=fz;simp[World.cell?,hh,vr hn hh]
   |_=>
    have:(w.freeze ⟨b,off,none⟩ n).heap[b]?=w.heap[b]?:=by unfold World.freeze;rw[aaN hn];simp only[Array.getElem?_modify,if_true,hh,Option.map_some]
    simp[World.cell?,this]
 ·exact cell?_of_heap (jJ hb) o
theorem HF{w:World}{G:Sg}{S:List Ob}{g off n id x:Nat}(hI:Inv w G S)(ho:G.own g=some (.cell id x))(hn:n≠0)(hF:G.F g (off+n-1)≠none):
  Inv (w.freeze ⟨g,off,none⟩ n) G S/\Ext w G S (w.freeze ⟨g,off,none⟩ n) G S:=by
 have hne:∀b i,G.own b=some (.obj i)->b≠g:=λ b i h e=>by subst e;rw[ho]at h;cases h
 have hex:w.freeze ⟨g,off,none⟩ n={ w with heap:=(w.freeze ⟨g,off,none⟩ n).heap }:=by unfold World.freeze;rw[aaN hn]
 refine⟨⟨λ b o v h=>by rw[DG];exact hI.fz b o v h,λ b i h=>?_,hI.inj,λ b ℓ h=>by rw[pD];exact hI.tk b ℓ h,hI.cl,hI.rf,hI.tb_of λ b _ h0=>⟨jJ λ e=>(by subst e;rw[ho]at h0;cases h0),h0⟩⟩,?_⟩
 ·obtain⟨h1,o,go,h2,h3,h4⟩:=hI.ob b i h;refine⟨h1,o,go,h2,by rw[jJ (hne _ _ h)];exact h3,?_⟩
  cases o with
  |cells cs fl=>
   cases go<;>simp only[kQ]at h4⊢;obtain⟨p1,p2,p3⟩:=h4;exact⟨p1,p2,λ o sz hm=>(p3 o sz hm).map λ v hv ht=>⟨v,hv,IN hn hF ht⟩⟩
  |dead=>cases go<;>simp only[kQ]at h4
 ·refine⟨by rw[hex],by rw[hex],by rw[hex],by rw[pD];exact aa4 _,λ _ _ _ h=>h,λ _ _ h=>h,λ b hb h=>⟨rfl,jJ λ e=>?_,λ _=>rfl⟩,λ _ _ h _=>h,λ _ _ _=>rfl,aa4 _⟩
  subst e;rw[ho]at h;rcases h with h|h<;>cases h
theorem yH{args:List V}{S:List Ob}{o:Out}(h:C8 args S=some o):cx prog 30 args S o:=by
 unfold C8 at h;split at h;rotate_left
 ·cases h
 rename_i id;split at h;rotate_left
 ·cases h
 rename_i c fu xs cs fl hob;split at h;rotate_left
 ·cases h
 rename_i l hl;split at h;rotate_left
 ·cases h
 rename_i hc;obtain⟨hne,hlen6,hm⟩:=hc;injection h with h;subst h
 have hxs:=zW hl;subst hxs;intro w G vs hI hr _;obtain⟨v,rfl,hv⟩:=y8 hr;simp only[RV]at hv;obtain⟨b,hb,rfl⟩:=hv;obtain⟨hFb,o',go,hs',hgo,hor⟩:=hI.ob _ _ hb;rw[hob]at hs';injection hs' with hs';subst hs'
 cases go<;>simp only[kQ]at hor;rename_i arr el fz;obtain⟨hlen,hcells,hflags⟩:=hor;obtain⟨v1,h1,hr1,_,_⟩:=hcells 1 _ rfl;have hc1:w.cell? ⟨b,1,none⟩=some v1:=by simp[World.cell?,hgo,h1]
 have hfl:=hflags 1 21000001 (by simpa using hm);unfold mU at hfl;rw[aaN (by decide)]at hfl;obtain⟨v1',h1',htok⟩:=hfl;rw[h1]at h1';injection h1' with h1';subst h1'
 simp only[RV,RD]at hr1;obtain⟨a,n,cap,sz,rfl,hn,hncap,_,hsz,hel⟩:=hr1;have hbl:(ofBytes l).length=l.length:=by simp[ofBytes]
 rw[hbl]at hn;subst hn;have hl0:l.length≠0:=by simpa using hne
 have hbne:ofBytes l≠[]:=by intro e;rw[e]at hbl;exact hl0 hbl.symm
 rcases htok with⟨a',n',e,hz⟩|⟨g,hg,off,n',c',arr',el',fz',e,hgo',g1,g2,g3,g4,g5⟩
 ·injection e with e1 e2 e3
  have:=hz (by decide);omega
 ·injection e with e1 e2 e3
  subst e1;subst e2;subst e3;have hel5:el'=5:=g4.1 5 rfl;subst hel5;obtain⟨blk,off2,e,hre⟩:=hel hbne;injection e with e;injection e with e1 e2
  subst e1;subst e2;have hsz1:sz=1:=by
   obtain⟨y,r,hy⟩:∃y r,l=y::r:=by cases l with|nil=>exact absurd rfl hne|cons y r=>exact⟨y,r,rfl⟩
   have:=hsz (.i .u8 y.toNat) (by rw[hy];simp[ofBytes]);simpa[D.width]using this.symm
  subst hsz1;have hF:∀j x,l[j]?=some x->G.F g (off+j)=some (.int .u8 x.toNat):=by intro j x hj;have:=bN.get hsz hre (i:=j) (x := .i .u8 x.toNat) (by simp[ofBytes,hj]);simp only[kP,RD,Nat.mul_one]at this;obtain⟨y,hy,rfl⟩:=this;exact hy
  have hsh:w.shape? g=some (5,arr'.size):=by simp[World.shape?,hgo']
  have hlast:G.F g (off+l.length-1)≠none:=by
   have hlt:l.length-1<l.length:=by omega
   have:=hF (l.length-1) _ (abl hlt);rw[show off+(l.length-1)=off+l.length-1 by omega]at this;rw[this];simp
  refine gL.of_calls Tryz.func30 (by kernel_rfl) (gK _ _ Tryz.func30) ((Tryz.Builder_String b g off cap arr'.size l w hc1 hne hncap hsh (by omega) (by omega) (λ j x hj=>?_)).mono ?_)
  ·rw[Addr.add_plain];exact hI.fz _ _ _ (hF j x hj)
  ·rintro e w' ⟨rfl,rfl⟩;obtain⟨q1,q2⟩:=HF (off:=off) (n:=l.length) hI.drew hg hl0 hlast;refine⟨_,rfl,G,by simp only[RV,RD],q1,?_⟩;exact(St1.drew (SP:=λ _ _=>True) hI).ext.trans q2
theorem EG{args:List V}{S:List Ob}{o:Out}(h:qu args S=some o):cx prog 49 args S o:=by
 unfold qu at h;split at h
 ·rename_i n b;split at h
  ·rename_i hc;injection h with h;subst h
   obtain⟨rfl,hc1,hc2⟩:=hc;refine lu (v := .string ⟨(Lib.itoa n).toArray⟩) Tryz.func49 (by kernel_rfl) (λ F=>by simp only[RD];rw[JB]) λ w G vs hI hr=>?_;obtain⟨v,u,rfl,h1,h2⟩:=y9 hr;simp only[RV,RD]at h1 h2;subst h1;subst h2;exact(Tryz.strconv_FormatInt_10 n hc1 hc2 w (II hI)).mono λ e w' h=>⟨h.1,.inr h.2⟩
  ·cases h
 ·cases h
theorem MY{args:List V}{S:List Ob}{o:Out}(h:sK args S=some o):cx prog 51 args S o:=by
 unfold sK at h;split at h;rotate_left
 ·cases h
 rename_i fu xs t;split at h;rotate_left
 ·cases h
 rename_i l hl;split at h;rotate_left
 ·cases h
 rename_i hc;obtain⟨hc1,hc2⟩:=hc;injection h with h;subst h
 have hxs:=BK hl;subst hxs;refine EK (v := .string ⟨(Lib.join l t).toArray⟩) Tryz.func51 (by kernel_rfl) (λ G=>by simp only[RV,RD]) λ w G vs hI hr=>?_;obtain⟨v,u,rfl,h1,h2⟩:=y9 hr;simp only[RV,RD]at h1 h2;subst h2;obtain⟨a,n,cap,sz,rfl,hn,hcap,_,hsz,hel⟩:=h1;rw[List.length_map]at hn;subst hn;by_cases hl0:l=[]
 ·subst hl0;exact(Tryz.strings_Join_none a cap ⟨t.toArray⟩ w).mono λ e w' ⟨h1,h2⟩=>⟨by rw[h1];rfl,by rw[h2];exact Below.refl _ _⟩
 ·obtain⟨blk,off,rfl,hre⟩:=hel (by simpa using hl0)
  have hsz1:sz=1:=by
   obtain⟨y,r,hy⟩:∃y r,l=y::r:=by cases l with|nil=>exact absurd rfl hl0|cons y r=>exact⟨y,r,rfl⟩
   have:=hsz (.s y) (by rw[hy];simp);simpa[D.width]using this.symm
  subst hsz1;have hcell:∀(j:Nat) x,l[j]?=some x->w.cell? ⟨blk,off+j,none⟩=some (.string ⟨x.toArray⟩):=by intro j x hj;have:=bN.get hsz hre (i:=j) (x := .s x) (by simp[hj]);simp only[kP,RD,Nat.mul_one]at this;obtain⟨y,hy,rfl⟩:=this;exact hI.fz _ _ _ hy
  have hblk:blk<w.heap.size:=by
   obtain⟨y,r,hy⟩:∃y r,l=y::r:=by cases l with|nil=>exact absurd rfl hl0|cons y r=>exact⟨y,r,rfl⟩
   exact cell?_lt (hcell 0 y (by rw[hy];rfl))
  have hmap:(l.map λ x=>(⟨x.toArray⟩:ByteArray)).map (·.data.toList)=l:=by simp[List.map_map,Function.comp_def]
  have:=Tryz.strings_Join blk off cap (l.map λ x=>⟨x.toArray⟩) ⟨t.toArray⟩ w (λ j x hj=>by
   rw[List.getElem?_map]at hj;obtain⟨y,hy,rfl⟩:=Option.map_eq_some_iff.1 hj
   exact hcell j y hy) hblk (by simp;omega) (by simpa using hcap) (by rw[hmap];show (Lib.join l t).length<=_;omega)
  rw[hmap,List.length_map]at this;exact this
open Go.Proofs
set_option exponentiation.threshold 5000000
def dX(b:Nat):Nat×Nat:=
 let q:=if b / 2^52=0 then b%2^52 else b%2^52+2^52
 let e:Int:=if b / 2^52=0 then -1074 else -1074+((b / 2^52:Nat)-1)
 if e<0 then(q,2^(-e).toNat) else(q*2^e.toNat,1)
def dC(x y:Nat)(n:Int):Bool:=if n<0 then decide (x*10^(-n).toNat<y)else decide (x<y*10^n.toNat)
def cI(x y:Nat)(n:Int):Nat:=if n<0 then ek (x*10^(-n).toNat) y else ek x (y*10^n.toNat)
def jE(x y:Nat):Nat->Int
 |0=>-400
 |k+1=>if dC x y ((k+1:Nat)-400:Int)=true then jE x y k else((k+1:Nat)-400:Int)
def fK(q:Nat):aE:=cB (q%18446744073709551616)
def lO(d:aE):aE:=if trimRightB 48 (d.drop 1)=[]then [48]else trimRightB 48 (d.drop 1)
def lL(out d:aE)(n:Int):aE:=out++d.take 1++[46]++lO d++[101]++cU n
def p7(out:aE)(x y:Nat):aE:=
 let n:=jE x y ((((bJ x:Int)-bJ y)*30103).tdiv 100000+401).toNat
 if 17<(fK (cI x y (n-16))).length then lL out (fK (cI x y (n+1-16))) (n+1)else lL out (fK (cI x y (n-16))) n
def gE(b:Nat):aE:=
 if b / 2^52%2048=2047 then []
 else
  let out:aE:=if 2^63<=b then [45]else []
  if b%2^63=0 then out++[48,46,48,101,48]else p7 out (dX (b%2^63)).1 (dX (b%2^63)).2
theorem nQ(n:Nat):cB n≠[]:=by rw[kk];split<;>simp
theorem jD:∀(k n:Nat),0<k->n<10^k->(cB n).length<=k
 |0,_,h,_=>by omega
 |k+1,n,_,h=>by
  rw[kk];split
  ·simp
  ·rename_i h9;rw[aaS,List.length_singleton];have hk:0<k:=by
    rcases Nat.eq_zero_or_pos k with rfl|h'
    ·simp at h;omega
    ·exact h'
   have:=jD k (n / 10) hk (by rw[abx]at h;omega);omega
theorem lC{n:Int}(h1:-1000000<n)(h2:n<1000000):(cU n).length<=8:=by
 unfold cU;split
 ·have:=jD 7 n.natAbs (by decide) (by simp;omega)
  simp;omega
 ·have:=jD 7 n.toNat (by decide) (by simp;omega)
  omega
theorem BG(c:UInt8)(x:aE):(trimRightB c x).length<=x.length:=by unfold trimRightB;rw[List.length_reverse];have:=(List.dropWhile_sublist (· == c) (l:=x.reverse)).length_le;simpa using this
def qk(n:Nat):Prop:=n<2^1100
theorem qk.mul{n k:Nat}(h:qk n)(hk:k<=700):tX (n*10^k):=by
 have h1:(10:Nat)^k<=16^k:=Nat.pow_le_pow_left (by decide) k;have h2:(16:Nat)^k=2^(4*k):=by rw[show (16:Nat)=2^4 from rfl,<-Nat.pow_mul]
 have h3:n*10^k<2^1100*2^(4*k):=by have:n*10^k<=n*2^(4*k):=Nat.mul_le_mul_left _ (h2▸h1);exact Nat.lt_of_le_of_lt this (abO h (abt (by decide)))
 rw[<-abC]at h3;exact hO (abL h3 (abM (by decide) (by omega)))
theorem qk.iN{n:Nat}(h:qk n):tX n:=hO (abL h (abM (by decide) (by decide)))
theorem DH(x y:Nat):decide (gB x y<0)=decide (x<y):=by
 unfold gB;by_cases h:x<y
 ·simp[h]
 ·by_cases h2:y<x<;>simp[h,h2]
theorem DA(b c:Bool)(x y:Nat)(hx:qk x)(hy:qk y)(n:Int)(h1:-700<=n)(h2:n<=700):
  rk prog aK (.call 114 (Tz n b c (ws x) (ws y)) [])=some (.d (.b (dC x y n)),[]):=by
 rw[f35];unfold dC;by_cases h:n<0
 ·have hw:i64.wrap (0-n)=((-n).toNat:Int):=bD;have ht:=C9 (-n).toNat (by omega);have hm:=CK b (nb (10^(-n).toNat)) x (10^(-n).toNat) hx.iN.fits (hO (fH (by omega))).fits;have hc:=G4 (nb (x*10^(-n).toNat)) c (x*10^(-n).toNat) y (hx.mul (by omega)).fits hy.iN.fits;simp only[bo,aa3 h,if_true,hw,bK,ht,hm,hc,Option.bind_some,List.isEmpty_nil,bn,dN,iP,bO,aG,DH,aaR h]
 ·have hw:n=(n.toNat:Int):=by omega
  have ht:=C9 n.toNat (by omega);rw[<-hw]at ht;have hm:=CK c (nb (10^n.toNat)) y (10^n.toNat) hy.iN.fits (hO (fH (by omega))).fits;have hc:=G4 b (nb (y*10^n.toNat)) x (y*10^n.toNat) hx.iN.fits (hy.mul (by omega)).fits;simp only[bo,abf h,Bool.false_eq_true,if_false,bK,ht,hm,hc,Option.bind_some,List.isEmpty_nil,bn,if_true,dN,iP,bO,aG,DH,aaN h]
theorem Bx(b c:Bool)(x y:Nat)(hx:qk x)(hy:qk y)(hy0:0<y)(n:Int)(h1:-700<=n)(h2:n<=700):
  rk prog aK (.call 116 (Tz n b c (ws x) (ws y)) [])=some (.d (.l (nb (cI x y n)) (ws (cI x y n))),[]):=by
 rw[f37];unfold cI;by_cases h:n<0
 ·have hw:i64.wrap (0-n)=((-n).toNat:Int):=bD;have ht:=C9 (-n).toNat (by omega);have hm:=CK b (nb (10^(-n).toNat)) x (10^(-n).toNat) hx.iN.fits (hO (fH (by omega))).fits;have hxm:=hx.mul (k:=(-n).toNat) (by omega);have hc:=JK (nb (x*10^(-n).toNat)) c (x*10^(-n).toNat) y hxm.fits hxm.fits1 hy.iN.fits2 hy0;simp only[bo,aa3 h,if_true,hw,bK,ht,hm,hc,Option.bind_some,List.isEmpty_nil,bn,dN,iP,aG,aaR h]
 ·have hw:n=(n.toNat:Int):=by omega
  have ht:=C9 n.toNat (by omega);rw[<-hw]at ht;have hm:=CK c (nb (10^n.toNat)) y (10^n.toNat) hy.iN.fits (hO (fH (by omega))).fits;have hc:=JK b (nb (y*10^n.toNat)) x (y*10^n.toNat) hx.iN.fits hx.iN.fits1 (hy.mul (k:=n.toNat) (by omega)).fits2 (Nat.mul_pos hy0 (abt (by decide)));simp only[bo,abf h,Bool.false_eq_true,if_false,bK,ht,hm,hc,Option.bind_some,List.isEmpty_nil,bn,if_true,dN,iP,aG,aaN h]
theorem tA(x y:Nat)(hx:qk x)(hy0:0<y)(n:Int)(h1:-700<=n):Fits (cI x y n):=by
 have key:∀p q,0<q->tX p->Fits (ek p q):=by intro p q hq hp;refine hp.fits1.le (xY hq ?_);rw[abw];exact abI (Nat.le_mul_of_pos_right _ hq) (Nat.le_add_right _ _)
 unfold cI;split
 ·exact key _ _ hy0 (hx.mul (by omega))
 ·exact key _ _ (Nat.mul_pos hy0 (abt (by decide))) hx.iN
theorem PN(m:Nat)(hm:m<18446744073709551616):kc [vu (m:Int),vi 10] []=some (.d (.s (cB m)),[]):=by
 have h0:(m:Int)<18446744073709551616:=by omega
 simp[kc,h0]
theorem Kt(b:Bool)(x:Nat)(hx:Fits x):rk prog aK (.call 115 [vl b (ws x)] [])=some (.d (.s (fK x)),[]):=by
 rw[f36];have h1:=Qi b x hx;have h2:rk prog aK (.call 167 [vu ((x%18446744073709551616:Nat):Int),vi 10] [])=some (.d (.s (fK x)),[]):=by rw[po (g:=kc) rfl];exact PN _ (abz _ (by decide))
 simp only[bK,h1,h2,Option.bind_some,List.isEmpty_nil,bn,if_true,dN,sn,bO,aG]
theorem si{b k:Nat}(hb:b<18446744073709551616)(c:Int)(hc:(BitVec.ofInt 64 c).toNat=2^k-1):(BitVec.ofInt 64 (b:Int) &&& BitVec.ofInt 64 c).toNat=b%2^k:=by rw[BitVec.toNat_and,hc,Nat.and_two_pow_sub_one_eq_mod,BitVec.ofInt_natCast,BitVec.toNat_ofNat,abF (show b<2^64 from hb)]
theorem QP(b:Nat)(hb:b<2^63)(hk:b / 2^52<2047):rk prog aK (.call 112 [vu (b:Int)] [])=some (.t [.d (.l (nb (dX b).1) (ws (dX b).1)),.d (.l (nb (dX b).2) (ws (dX b).2))],[]):=by
 have h1:(b:Int).fdiv 4503599627370496=((b / 2^52:Nat):Int):=nc b 4503599627370496;have h2:(BitVec.ofInt u64.bits ((b / 2^52:Nat):Int) &&& BitVec.ofInt u64.bits 2047).toNat=b / 2^52:=by have:=si (b:=b / 2^52) (k:=11) (by omega) 2047 (by decide);rw[abF (by omega)]at this;exact this
 have h3:(BitVec.ofInt u64.bits (b:Int) &&& BitVec.ofInt u64.bits 4503599627370495).toNat=b%2^52:=si (b:=b) (k:=52) (by omega) 4503599627370495 (by decide);have hm:b%2^52<2^52:=abz _ (by decide);have w1:u64.wrap ((b / 2^52:Nat):Int)=((b / 2^52:Nat):Int):=by rw[aY];omega
 have w2:i64.wrap ((b / 2^52:Nat):Int)=((b / 2^52:Nat):Int):=bD;have w3:u64.wrap ((b%2^52:Nat):Int)=((b%2^52:Nat):Int):=by rw[aY];omega
 have w4:(BitVec.ofInt u64.bits ((b%2^52:Nat):Int) ||| BitVec.ofInt u64.bits 4503599627370496).toNat=b%2^52+2^52:=by have:=mK (a:=b%2^52) (b:=4503599627370496) (by omega) (by decide);have e:=pU (c:=b%2^52) (a:=1) (k:=52) hm;rw[Nat.one_mul]at e;exact Eq.trans this e
 have w5:u64.wrap ((b%2^52+2^52:Nat):Int)=((b%2^52+2^52:Nat):Int):=by rw[aY];omega
 have w6:i64.wrap (((b / 2^52:Nat):Int)-1)=((b / 2^52:Nat):Int)-1:=bD;have w7:i64.wrap (-1074+(((b / 2^52:Nat):Int)-1)) = -1074+(((b / 2^52:Nat):Int)-1):=bD;have main:∀(q:Nat) (e:Int),q<2^53->-1074<=e->e<=971->rk prog aK (LL (q:Int) e [])=
   some (.t [.d (.l (nb (if e<0 then(q,2^(-e).toNat) else(q*2^e.toNat,1)).1) (ws (if e<0 then(q,2^(-e).toNat) else(q*2^e.toNat,1)).1)),.d (.l (nb (if e<0 then(q,2^(-e).toNat) else(q*2^e.toNat,1)).2) (ws (if e<0 then(q,2^(-e).toNat) else(q*2^e.toNat,1)).2))],[]):=by
  intro q e hq he1 he2;rw[PD];have hof:=JX q (by omega);by_cases he:e<0
  ·have hw0:i64.wrap (0-e)=((-e).toNat:Int):=bD;have hs:=C4 (nb 1) 1 (-e).toNat xB (by omega);rw[Nat.one_mul]at hs;simp only[bo,aa3 he,if_true,hw0,bK,hof,H3,hs,Option.bind_some,List.isEmpty_nil,bn,dN,iP,aG,aaR he]
  ·have hw0:e=(e.toNat:Int):=by omega
   have hs:=C4 (nb q) q e.toNat (JI (by omega)).fits (by omega);rw[<-hw0]at hs;simp only[bo,abf he,Bool.false_eq_true,if_false,bK,hof,H3,hs,Option.bind_some,List.isEmpty_nil,bn,if_true,dN,iP,aG,aaN he]
 rw[f33,h1,h2,h3,w1,w2,w3,w4,w5,w6,w7];unfold dX;by_cases h0:b / 2^52=0
 ·have:¬((b / 2^52:Nat):Int)>0:=by omega
  have hmn:=main (b%2^52) (-1074) (by omega) (by decide) (by decide);rw[bo,abf this,aaN (by decide),aA,hmn];simp only[aaR h0]
 ·have:((b / 2^52:Nat):Int)>0:=by omega
  have hmn:=main (b%2^52+2^52) (-1074+(((b / 2^52:Nat):Int)-1)) (by omega) (by omega) (by omega);rw[bo,aa3 this,aaR rfl,aA,hmn];simp only[aaN h0]
theorem tm(b:Nat)(hb:b<2^63)(hk:b / 2^52<2047):qk (dX b).1/\qk (dX b).2/\0<(dX b).2:=by
 have hm:b%2^52<2^52:=abz _ (by decide);have main:∀(q:Nat) (e:Int),q<2^53->-1074<=e->e<=971->qk (if e<0 then(q,2^(-e).toNat) else(q*2^e.toNat,1)).1/\qk (if e<0 then(q,2^(-e).toNat) else(q*2^e.toNat,1)).2/\0<(if e<0 then(q,2^(-e).toNat) else(q*2^e.toNat,1)).2:=by
  intro q e hq he1 he2;split
  ·exact⟨abL hq (abM (by decide) (by decide)),Nat.pow_lt_pow_right (by decide) (by omega),abt (by decide)⟩
  ·refine⟨?_,Nat.one_lt_two_pow (by decide),Nat.one_pos⟩
   have:q*2^e.toNat<2^53*2^e.toNat:=abO hq (abt (by decide));rw[<-abC]at this;exact abL this (abM (by decide) (by omega))
 unfold dX;by_cases h0:b / 2^52=0
 ·simp only[aaR h0];exact main _ _ (by omega) (by decide) (by decide)
 ·simp only[aaN h0];exact main _ _ (by omega) (by omega) (by omega)
def Ru(out:aE)(x y:Nat)(n:Int):aE:=
 if 17<(fK (cI x y (n-16))).length then lL out (fK (cI x y (n+1-16))) (n+1)else lL out (fK (cI x y (n-16))) n
theorem yO(q:Nat):(fK q).length<=20/\1<=(fK q).length:=by
 have h1:=jD 20 (q%18446744073709551616) (by decide) (Nat.lt_trans (abz _ (by decide)) (by decide));have h2:fK q≠[]:=nQ _
 exact⟨h1,by cases h:fK q with
  |nil=>exact absurd h h2
  |cons c r=>simp⟩
theorem J8(out d:aE)(n:Int)(ho:out.length<=1000)(hd:d.length<=20/\1<=d.length)(h1:-1000000<n)(h2:n<1000000):
  rk prog aK (Lh out d n [])=some (.d (.s (lL out d n)),[]):=by
 rw[Hq];have hle:((0:Int)<=1/\(1:Int)<=((d.length:Nat):Int)):=⟨by decide,by omega⟩
 have e:List.take (d.length-1) (List.drop 1 d)=d.drop 1:=by rw[abS];simp
 have ht:rk prog aK (.call 117 [vs (d.drop 1),vs [48]] [])=some (.d (.s (trimRightB 48 (d.drop 1))),[]):=by
  rw[po (g:=jT) rfl];have hh:(48:UInt8).toNat<128/\(d.drop 1).length<=1000000:=⟨by decide,by rw[abB];omega⟩
  simp only[jT,aaR hh]
 have hit:rk prog aK (.call 118 [vi n] [])=some (.d (.s (cU n)),[]):=by
  rw[po (g:=sJ) rfl];have hh:-1000000<n/\n<1000000:=⟨h1,h2⟩
  simp only[sJ,aaR hh]
 have hdi:=lC h1 h2;have htr:=BG 48 (d.drop 1);rw[abB]at htr;have hfin:∀r:aE,r.length<=20->rk prog aK (KK out d r n [])=some (.d (.s (out++d.take 1++[46]++r++[101]++cU n)),[]):=by
  intro r hr;rw[Hr];have l1:out.length+(List.take 1 d).length<4611686018427387904:=by simp;omega
  have l2:(out++List.take 1 d).length+1<4611686018427387904:=by simp;omega
  have l3:(out++List.take 1 d++[46]).length+r.length<4611686018427387904:=by simp;omega
  have l4:(out++List.take 1 d++[46]++r).length+1<4611686018427387904:=by simp;omega
  have l5:(out++List.take 1 d++[46]++r++[101]).length+(cU n).length<4611686018427387904:=by simp;omega
  simp only[bn,aa3 hle,if_true,aa3 l1,aa3 l2,aa3 l3,aa3 l4,aa3 l5,bK,hit,Option.bind_some,List.isEmpty_nil,dN,sn,aG,List.drop_zero]
 simp only[bn,aa3 hle,if_true,e,bK,ht,Option.bind_some,List.isEmpty_nil,dN,sn,bo,TM];unfold lL lO;by_cases h0:trimRightB 48 (d.drop 1)=[]
 ·simp only[h0,decide_true,if_true,hfin [48] (by decide),Option.bind_some,aG]
 ·simp only[h0,decide_false,Bool.false_eq_true,if_false,hfin _ (show (trimRightB 48 (d.drop 1)).length<=20 by omega),Option.bind_some,aG]
theorem NL(out:aE)(x y:Nat)(hx:qk x)(hy:qk y)(hy0:0<y)(ho:out.length<=1000)(b c:Bool)(hlow:dC x y (-400)=false):∀k:Nat,k<=800->
  rk prog aK (SR out ((k:Int)-400) b c (ws x) (ws y) [])=some (.d (.s (Ru out x y (jE x y k))),[]):=by
 have fin:∀n:Int,-400<=n->n<=400->dC x y n=false->rk prog aK (SR out n b c (ws x) (ws y) [])=some (.d (.s (Ru out x y n)),[]):=by
  intro n h1 h2 hb;rw[Av];have hbl:=DA b c x y hx hy n (by omega) (by omega);rw[hb]at hbl;have w1:i64.wrap (n-17)=n-17:=bD;have w2:i64.wrap (n-17+1)=n-16:=bD;have w3:i64.wrap (n+1)=n+1:=bD;have w4:i64.wrap (n+1-17)=n+1-17:=bD;have w5:i64.wrap (n+1-17+1)=n+1-16:=bD;have s1:=Bx b c x y hx hy hy0 (n-16) (by omega) (by omega);have s2:=Bx b c x y hx hy hy0 (n+1-16) (by omega) (by omega);have t1:=Kt (nb (cI x y (n-16))) (cI x y (n-16)) (tA x y hx hy0 _ (by omega));have t2:=Kt (nb (cI x y (n+1-16))) (cI x y (n+1-16)) (tA x y hx hy0 _ (by omega));have p1:=J8 out (fK (cI x y (n-16))) n ho (yO _) (by omega) (by omega);have p2:=J8 out (fK (cI x y (n+1-16))) (n+1) ho (yO _) (by omega) (by omega);unfold Ru;simp only[bK,hbl,Option.bind_some,List.isEmpty_nil,bn,if_true,dN,wP,bo,Bool.false_eq_true,if_false,w1,w2,w3,w4,w5,s1,s2,t1,t2,iP,sn,p1,p2,aG];by_cases h17:17<(fK (cI x y (n-16))).length
  ·have:((fK (cI x y (n-16))).length:Int)>17:=by omega
   simp only[aa3 this,if_true,aaR h17]
  ·have:¬((fK (cI x y (n-16))).length:Int)>17:=by omega
   simp only[abf this,Bool.false_eq_true,if_false,aaN h17]
 intro k
 induction k with
 |zero=>
  intro _;exact fin (-400) (by decide) (by decide) hlow
 |succ k ih=>
  intro hk;have e:(((k+1:Nat):Int)-400)-1=(k:Int)-400:=by omega
  cases hb:dC x y (((k+1:Nat):Int)-400) with
  |false=>
   rw[fin _ (by omega) (by omega) hb];rw[jE,hb,aaN (by decide)]
  |true=>
   rw[Av];have hbl:=DA b c x y hx hy (((k+1:Nat):Int)-400) (by omega) (by omega);rw[hb]at hbl;have w1:i64.wrap ((((k+1:Nat):Int)-400)-1)=(k:Int)-400:=bD;simp only[bK,hbl,Option.bind_some,List.isEmpty_nil,bn,if_true,dN,wP,bo,w1,ih (by omega),aG];rw[jE,hb,aaR rfl]
theorem OP{b k:Nat}(hb:b<18446744073709551616)(v:BitVec 64)(hc:v.toNat=2^k-1):(BitVec.ofInt 64 (b:Int) &&& v).toNat=b%2^k:=by rw[BitVec.toNat_and,hc,Nat.and_two_pow_sub_one_eq_mod,BitVec.ofInt_natCast,BitVec.toNat_ofNat,abF (show b<2^64 from hb)]
theorem TJ{b:Nat}(hb:b<18446744073709551616):(BitVec.ofInt u64.bits (b:Int) &&& BitVec.ofInt u64.bits 9223372036854775808).toNat=if 2^63<=b then 2^63 else 0:=by
 show (BitVec.ofInt 64 (b:Int) &&& BitVec.ofInt 64 9223372036854775808).toNat=_;have e:(BitVec.ofInt 64 9223372036854775808).toNat=2^63:=by decide
 rw[BitVec.toNat_and,e,BitVec.ofInt_natCast,BitVec.toNat_ofNat,abF (show b<2^64 from hb)];apply Nat.eq_of_testBit_eq;intro i;rw[Nat.testBit_and,Nat.testBit_two_pow];by_cases hi:63=i
 ·subst hi;rw[Nat.testBit_eq_decide_div_mod_eq];by_cases h:2^63<=b
  ·have:b / 2^63%2=1:=by omega
   rw[aaR h,this];decide
  ·have:b / 2^63%2=0:=by omega
   rw[aaN h,this];simp
 ·by_cases h:2^63<=b
  ·rw[aaR h,Nat.testBit_two_pow];simp[hi]
  ·rw[aaN h];simp[hi]
theorem tj(b:Nat)(h:b≠0):0<(dX b).1:=by
 have main:∀(q:Nat) (e:Int),0<q->0<(if e<0 then(q,2^(-e).toNat) else(q*2^e.toNat,1)).1:=by
  intro q e hq;split
  ·exact hq
  ·exact Nat.mul_pos hq (abt (by decide))
 unfold dX;by_cases h0:b / 2^52=0
 ·simp only[aaR h0];exact main _ _ (by omega)
 ·simp only[aaN h0];exact main _ _ (by omega)
theorem Qh{x y:Nat}(hx:0<x)(hy:qk y):dC x y (-400)=false:=by
 have h1:(2:Nat)^1100<=2^(3*400):=abM (by decide) (by decide);have h2:(2:Nat)^(3*400)=8^400:=by rw[Nat.pow_mul]
 have h3:(8:Nat)^400<=10^400:=Nat.pow_le_pow_left (by decide) 400;have h4:10^400<=x*10^400:=Nat.le_mul_of_pos_left _ hx;have:y<2^1100:=hy;have h5:y<10^400:=by omega
 have h6:(-(-400:Int)).toNat=400:=by decide
 have h7:(-400:Int)<0:=by decide
 unfold dC;rw[aaR h7,h6];exact abf (by omega)
theorem qk.bJ{n:Nat}(h:qk n):bJ n<=1100:=(du _ _).2 h
theorem qa(a:Int)(h1:-1100<=a)(h2:a<=1100):-340<=(a*30103).tdiv 100000/\(a*30103).tdiv 100000<=340:=by
 rcases Int.le_total 0 a with h|h
 ·rw[Int.tdiv_eq_ediv_of_nonneg (by omega)];omega
 ·have e:a*30103 = -((-a)*30103):=by omega
  rw[e,Int.neg_tdiv,Int.tdiv_eq_ediv_of_nonneg (by omega)];omega
theorem XZ(b:Nat)(hb:b<18446744073709551616):rk prog aK (.call 50 [vu (b:Int)] [])=some (.d (.s (gE b)),[]):=by
 have h1:(b:Int).fdiv 4503599627370496=((b / 2^52:Nat):Int):=nc b 4503599627370496;have h2:(BitVec.ofInt u64.bits ((b / 2^52:Nat):Int) &&& BitVec.ofInt u64.bits 2047).toNat=b / 2^52%2048:=
  si (b:=b / 2^52) (k:=11) (by omega) 2047 (by decide)
 have w1:u64.wrap ((b / 2^52%2048:Nat):Int)=((b / 2^52%2048:Nat):Int):=by rw[aY];omega
 have h3:(BitVec.ofInt u64.bits (b:Int) &&& ~~~BitVec.ofInt u64.bits 9223372036854775808).toNat=b%2^63:=OP hb _ (by decide);have w3:u64.wrap ((b%2^63:Nat):Int)=((b%2^63:Nat):Int):=by rw[aY];omega
 have main:b / 2^52%2048≠2047->∀out:aE,out.length<=1000->rk prog aK (LQ out ((b%2^63:Nat):Int) [])=
   some (.d (.s (if b%2^63=0 then out++[48,46,48,101,48]else p7 out (dX (b%2^63)).1 (dX (b%2^63)).2)),[]):=by
  intro hk out ho;rw[Pz];by_cases h0:b%2^63=0
  ·have hl:out.length+5<4611686018427387904:=by omega
   rw[h0];simp only[bo,Int.natCast_zero,abq,if_true,bn,aa3 hl,aG]
  ·have hk2:b%2^63 / 2^52<2047:=by omega
   have hr:=QP (b%2^63) (by omega) hk2;obtain⟨sx,sy,y0⟩:=tm (b%2^63) (by omega) hk2;have x0:=tj (b%2^63) h0;have hne:((((b%2^63:Nat):Int))==0)=false:=abr.2 (by omega);generalize (b%2^63:Nat)=c at h0 hr sx sy y0 x0 hne⊢;have b1:=B4 (nb (dX c).1) (dX c).1 sx.iN.fits;have b2:=B4 (nb (dX c).2) (dX c).2 sy.iN.fits;have l1:=sx.bJ;have l2:=sy.bJ;have hd:=qa ((bJ (dX c).1:Int)-bJ (dX c).2) (by omega) (by omega);have hL:=NL out (dX c).1 (dX c).2 sx sy y0 ho (nb (dX c).1) (nb (dX c).2) (Qh x0 sy);rw[aaN h0];unfold p7;generalize (dX c).1=x at *;generalize (dX c).2=y at *;have v1:i64.wrap ((bJ x:Int)-bJ y)=(bJ x:Int)-bJ y:=bD;have v2:i64.wrap (((bJ x:Int)-bJ y)*30103)=((bJ x:Int)-bJ y)*30103:=bD;obtain⟨z,hz⟩:∃z,((((bJ x:Int)-bJ y)*30103).tdiv 100000)=z:=⟨_,rfl⟩
   rw[hz]at hd⊢;have v3:i64.wrap z=z:=bD;have v4:i64.wrap (z+1)=(((z+401).toNat:Nat):Int)-400:=bD;have hL':=hL (z+401).toNat (by omega);simp only[bo,hne,Bool.false_eq_true,if_false,bK,hr,Option.bind_some,List.isEmpty_nil,bn,if_true,S8,Xz,List.getD_cons_zero,List.getD_cons_succ,dN,iP,b1,b2,bO,v1,v2,hz,v3,v4,hL',aG];rfl
 rw[f15,h1,h2,w1,h3,w3,TJ hb];unfold gE;by_cases hk:b / 2^52%2048=2047
 ·rw[hk];simp
 ·have hne:((((b / 2^52%2048:Nat):Int))==2047)=false:=abr.2 (by omega)
  rw[aaN hk,bo,hne,aaN (by decide)];by_cases ht:2^63<=b
  ·have hm:=main hk [45] (by decide)
   have hw:((u64.wrap ((2^63:Nat):Int)) != 0)=true:=by decide
   simp only[aaR ht,hw,bo,if_true,aA,hm]
  ·have hm:=main hk [] (by decide)
   have e:b%2^63=b:=abF (by omega);have hw:((u64.wrap ((0:Nat):Int)) != 0)=false:=by decide
   rw[e]at hm;simp only[aaN ht,hw,bo,Bool.false_eq_true,if_false,aA,hm,e]
def YT:List (Nat×List (Nat×List Nat)):=
 [(25,[(175,[0,1,5,6,7,8,9]),(14639,[0,1,5,6,7,8,9,10])]),
 (26,[(43,[0,3,4,5]),(3659,[0,3,4,5,6]),(127,[0,3,7,8])]),
 (53,[(43,[0,2,3,9,10,11]),(395,[0,2,3,9,10,11,26]),(3659,[0,2,3,9,10,11,12]),(218699,[0,2,3,9,10,11,12,83]),(7755,[0,2,3,9,10,11,12])]),
 (54,[(43,[0,1,5,6,7])]),
 (55,[(15,[0,1,2,7]),(975,[0,1,2,7,33])]),
 (120,[(53,[0,2,6,7,8]),(1013,[0,2,6,7,29])]),
 (12,[(43,[1,3,13,14,15]),(87,[1,3,26,27,28]),(175,[3,41,42,43])]),
 (13,[(43,[1,3,4]),(87,[1,3,5]),(175,[1,3,6])]),
 (15,[(13,[2,3,32]),(43,[2,3,5]),(87,[2,3,6]),(175,[2,3,7])]),
 (22,[(10741,[1,3]),(352245,[1,4,5]),(13197301,[1,4,5]),(87,[1,6,7]),(3223,[1,6,7])]),
 (23,[(175,[3,4,5])]),
 (27,[(5,[0,6,7,8])]),
 (29,[(11003,[0,41,42,43]),(2043,[0,3,11,54]),(44027,[0,70,71,72]),(61435,[0,3]),(716795,[0,104,105,106])]),
 (31,[(127,[1,4]),(1407,[1,4,5]),(117119,[1,4,5]),(2815,[1,4,6]),(5631,[1,4,7])]),
 (36,[(13,[2,3,68]),(43,[2,3,5]),(87,[2,3,6]),(7319,[2,3,6,138])]),
 (52,[(43,[3,6,7,8])]),
 (58,[(15,[0])]),
 (59,[(15,[1,3]),(31,[1,3])]),
 (60,[(15,[0,3]),(63,[0])]),
 (61,[(15,[1,3]),(31,[1,3])]),
 (62,[(15,[1,3]),(63,[3])]),
 (69,[(13,[2,3,40]),(43,[2,3,5])]),
 (70,[(43,[0,1,5]),(3659,[0,1,5,74])]),
 (32,[(43,[0,1,12,13])]),
 (33,[(43,[0,1,12,13])]),
 (34,[(43,[1,2,15,16,17])]),
 (64,[(43,[1,2,15,16,17])]),
 (66,[(43,[0,1,12,13])]),
 (67,[(43,[1,2,15,16,17])]),
 (124,[(43,[3,6,7,8])]),
 (125,[(43,[0,3,4]),(1611,[0,3,4])]),
 (126,[(43,[1,2,15,16,17])]),
 (3,[(27,[0,1,16])])]
def aaj(k:Nat)(p:List Bool):Option (List Nat):=(YT.lookup k).bind λ l=>l.lookup (p.foldl (λ n b=>2*n+b.toNat) 1)
def YJ:List (Nat×Nat×Nat×Nat):=[(26,8,4,3),(25,16,4,3),(11,3,4,0),(56,2,6,3)]
def aae(k r i:Nat):Nat:=((YJ.find? λ x=>x.1==k&&x.2.1==r&&x.2.2.1==i).map (·.2.2.2)).getD 2
def aaw(k r _:Nat):Fl:=match k,r with
 |26,1=>[(9,3)]
 |25,3=>[(11,5)]
 |12,1=>bF
 |56,2=>[(5,1000000)]
 |_,_=>[]
def kL(args:List V)(S:List Ob):Option Out:=
 match args,S with
 | [.d (.i .u64 n)],[]=>if 0<=n/\n<18446744073709551616 then some (.d (.s (gE n.toNat)),[])else none
 |_,_=>none
def tL(args:List V)(S:List Ob):Option Out:=
 match args,S with
 | [.d (.i .i64 n)],[]=>if -9223372036854775808<=n/\n<=9223372036854775807 then some (.d (.s (cU n)),[])else none
 |_,_=>none
def Y0(k:Nat):Option (List V->List Ob->Option Out):=
 match k with
 |122=>some wa
 |30=>some C8
 |49=>some qu
 |51=>some sK
 |50=>some kL
 |48=>some kL
 |47=>some tL
 |k=>ext k
def bT:Pol:={ cut:=aaj,app:=aae,mR:=aaw,ext:=Y0,fresh:=λ k=>k==10 }
def YS:List (Nat×List (Nat×List Nat)):=
 [(17,[(87,[1,2,7,8,9]),(791,[1,2,7,8,9,35]),(919,[1,2,7,8,9]),(351,[7,11,12])]),
 (42,[(87,[0,3,4,6,7]),(791,[0,3,4,6,7,22]),(7319,[0,3,4,6,7,8]),(31,[6])]),
 (39,[(43,[0,3,4])]),
 (41,[(1966067,[0,2,4]),(15,[0,2,4])]),
 (73,[(13,[0,20]),(43,[0,3]),(1611,[0,3,38])]),
 (76,[(27,[0,3,21])]),
 (77,[(27,[0,1,5,20]),(4047,[0,1,5,6,37]),(2047,[0,6,7,8])]),
 (78,[(27,[0,3,21])]),
 (80,[(8167,[0,1,4,5,41]),(131047,[0,1,4,60])]),
 (81,[(19,[0,3]),(195,[0,3,14]),(803,[0,3,29]),(13731,[0,3,4,47]),(1955,[0,3,4]),(15,[0,3])]),
 (83,[(19,[0,3]),(195,[0,3,14]),(803,[0,3,29]),(1955,[0,3,4]),(32675,[0,3,4]),(15,[0,3])]),
 (127,[(43,[0,3,4])]),
 (129,[(43,[0,3,4,5]),(459,[0,3,4,5])]),
 (131,[(245,[0,2,3,9,13])]),
 (132,[(63,[0,1,4,5,6]),(703,[0,1,4,5,6,7]),(6335,[0,1,4,5,6,7,29]),(50367,[0,1,4,5,6,7,37]),(7359,[0,1,4,5,6,7]),(255,[0,4,5,6])]),
 (133,[(19,[0,1,5]),(195,[0,1,5,17]),(803,[0,1,5,38]),(1955,[0,1,5,6]),(4003,[0,1,5,6]),(32675,[0,1,5,6]),(15,[0,1,5])]),
 (178,[(43,[0,3,4])]),
 (179,[(107,[0,3,7,8])])]
def aai(k:Nat)(p:List Bool):Option (List Nat):=(YS.lookup k).bind λ l=>l.lookup (p.foldl (λ n b=>2*n+b.toNat) 1)
def YI:List (Nat×Nat×Nat×Nat):=[(132,14,7,3),(132,17,7,3),(17,2,0,1),(17,10,4,0),(17,12,4,0),(17,8,4,0)]
def aad(k r i:Nat):Nat:=((YI.find? λ x=>x.1==k&&x.2.1==r&&x.2.2.1==i).map (·.2.2.2)).getD 2
def aav(k r _:Nat):Fl:=match k,r with
 |132,4=>[(4,5)]
 |42,2=>[(9,3000000)]
 |42,9=>[(9,3000000)]
 |17,10=>[(9,3000000)]
 |17,12=>[(9,3000000)]
 |17,8=>[(9,3000000)]
 |_,_=>[]
def aaQ(k:Nat)(p:List Bool):Option (Nat×Nat):=match k,p.foldl (λ n b=>2*n+b.toNat) 1 with
 |42,31=>some (6,0)
 |17,919=>some (7,1)
 |_,_=>none
noncomputable def Ub(k:Nat):Option (List V->List Ob->Option Out):=
 if k=20\/k=96\/k=98 then some (λ args S=>run prog aK (.call k args S))else if k=10\/k=11\/k=13 then some (lV prog bT k)else none
noncomputable def ch:Pol:={ cut:=aai,app:=aad,mR:=aav,ext:=Ub,fresh:=λ k=>k==10||k==42,thw:=aaQ }
theorem u73(s:aE):EQ ch (.call 73 [vs s] []) (aV (s==[]) (aR (BE s true [])) (aV (decide ((s.length:Int)>40)) (aR (BE s true [])) (ob (bW s 0) λ a=>cV (.call 96 [.d (.i .u8 (a.toNat:Int))] []) λ c=>aB c λ e=>aV (!e) (aR (BE s true [])) (cV (.call 127 [vs s] []) λ f=>aB f λ g=>aR (BE s g []))))):=aF
theorem aaV(s:aE):EQ ch (.call 127 [vs s] []) (aR (Lr s 0 true [.s [105,110,99,108,117,100,101],.s [110,97,109,101,115,112,97,99,101],.s [116,121,112,101,100,101,102],.s [101,110,117,109],.s [99,111,110,115,116],.s [115,116,114,117,99,116],.s [117,110,105,111,110],.s [101,120,99,101,112,116,105,111,110],.s [115,101,114,118,105,99,101],.s [101,120,116,101,110,100,115],.s [116,104,114,111,119,115],.s [111,110,101,119,97,121],.s [118,111,105,100],.s [114,101,113,117,105,114,101,100],.s [111,112,116,105,111,110,97,108],.s [116,114,117,101],.s [102,97,108,115,101],.s [98,121,116,101]] [])):=aF
theorem aaX(s:aE):EQ ch (.call 129 [vs s] []) (aR (KU s [] 1 0 [])):=aF
theorem aaY(s:aE):EQ ch (.call 130 [vs s] []) (aV (s==[98,111,111,108]) (.ret (vi 2,[])) (aV (s==[105,56]) (.ret (vi 3,[])) (aV (s==[105,49,54]) (.ret (vi 6,[])) (aV (s==[105,51,50]) (.ret (vi 8,[])) (aV (s==[105,54,52]) (.ret (vi 10,[])) (aV (s==[100,111,117,98,108,101]) (.ret (vi 4,[])) (aV (s==Up) (.ret (vi 11,[])) (aV (s==[98,105,110,97,114,121]) (.ret (vi 16,[])) (aV (s==[108,105,115,116]) (.ret (vi 15,[])) (aV (s==[115,101,116]) (.ret (vi 14,[])) (aV (s==[109,97,112]) (.ret (vi 13,[])) (.ret (vi 0,[]))))))))))))):=aF
theorem aaZ(n:Int)(s t q:aE):EQ ch (.call 131 [vi n,vs s,vs t,vs q] []) (aV (n==0) (.ret (vs s,[])) (aV (n==15) (aR (VN t q n n (n==15) [])) (aR (VN t q n n (n==14) [])))):=aF
theorem aa1(n:Int):EQ ch (.call 178 [vi n] []) (aR (Ls n 0 true [.s [98,111,111,108],.s [105,56],.s [105,49,54],.s [105,51,50],.s [105,54,52],.s [100,111,117,98,108,101],.s [115,116,114,105,110,103],.s [98,105,110,97,114,121],.s [108,105,115,116],.s [115,101,116],.s [109,97,112]] [])):=aF
theorem Ew(l0:aE)(b1:Bool):EQ ch (BE l0 b1 []) (aV b1 (.ret (vb false,[])) (aR (LS l0 0 []))):=aF
theorem As(l0:aE)(b1:Bool)(l2:List D)(n3:Int):EQ ch (Lr l0 n3 b1 l2 []) (aV (decide (n3<(l2.length:Int))) (eC l2 n3 1 0 λ a=>fJ a λ c=>aV (c==l0) (.ret (vb true,[])) (aR (Lr l0 (i64.wrap (n3+1)) b1 l2 []))) (cV (.call 130 [vs l0] []) λ e=>aI e λ f => .ret (vb (f != 0),[]))):=aF
theorem Au(l0:aE)(n1:Int)(l2:aE)(n3:Int):EQ ch (KU l0 l2 n1 n3 []) (aV (decide (n3<(l0.length:Int))) (ob (bW l0 n3) λ a=>aV ((a.toNat:Int) != 46) (aO (decide (0<=i64.wrap (n3+1)/\i64.wrap (n3+1)<=(l0.length:Int))) (aO (decide (0<=n3/\n3<=((i64.wrap (n3+1)).toNat:Int))) (dP (l2.length+(List.take ((i64.wrap (n3+1)).toNat-n3.toNat) (List.drop n3.toNat l0)).length) (aR (KO l0 (l2++List.take ((i64.wrap (n3+1)).toNat-n3.toNat) (List.drop n3.toNat l0)) n1 n3 []))))) (cV (.call 73 [vs l2] []) λ c=>aB c λ e=>aV (!e) (.ret (vb false,[])) (aR (KO l0 [] (i64.wrap (n1+1)) n3 [])))) (aV (decide (n1<=3)) (cV (.call 73 [vs l2] []) λ f=>aB f λ g => .ret (vb g,[])) (.ret (vb false,[])))):=aF
theorem Hm(n0:Int)(l1 l2:aE)(n3:Int)(b4:Bool):EQ ch (VN l1 l2 n0 n3 b4 []) (aV b4 (cV (.call 178 [vi n0] []) λ o0=>aS o0 λ l2=>dP (l2.length+1) (dP ((l2++[60]).length+l1.length) (dP ((l2++[60]++l1).length+1) (.ret (vs (l2++[60]++l1++[62]),[]))))) (aV (n3==13) (dP (4+l1.length) (dP ((EU++l1).length+1) (dP ((EU++l1++[44]).length+l2.length) (dP ((EU++l1++[44]++l2).length+1) (.ret (vs (EU++l1++[44]++l2++[62]),[])))))) (cV (.call 178 [vi n0] []) λ o3=>aS o3 λ l5 => .ret (vs l5,[])))):=aF
theorem MH(n0:Int)(b1:Bool)(l2:List D)(n3:Int):EQ ch (Ls n0 n3 b1 l2 []) (aV (decide (n3<(l2.length:Int))) (eC l2 n3 1 0 λ a=>fJ a λ b=>cV (.call 130 [vs b] []) λ c=>aI c λ e=>aV (e==n0) (eC l2 n3 1 0 λ f=>fJ f λ g => .ret (vs g,[])) (aR (Ls n0 (i64.wrap (n3+1)) b1 l2 []))) (.ret (vs [],[]))):=aF
theorem Ex(l0:aE)(n1:Int):EQ ch (LS l0 n1 []) (aV (decide (n1<(l0.length:Int))) (ob (bW l0 n1) λ a=>cV (.call 96 [.d (.i .u8 (a.toNat:Int))] []) λ c=>aB c λ e=>aV (!e) (ob (bW l0 n1) λ f=>cV (.call 98 [.d (.i .u8 (f.toNat:Int))] []) λ g=>aB g λ h=>aR (.at_ 73 0 (aJ 1611) (sv 39 [(0,vs l0),(3,vi n1),(38,vb !h)]) [] [])) (aR (Sk l0 n1 false []))) (.ret (vb true,[]))):=aF
theorem Hl(l0:aE)(n1:Int)(l2:aE)(n3:Int):EQ ch (KO l0 l2 n1 n3 []) (aR (KU l0 l2 n1 (i64.wrap (n3+1)) [])):=aF
theorem xy(l0:aE)(n1:Int)(b2:Bool):EQ ch (Sk l0 n1 b2 []) (aV b2 (.ret (vb false,[])) (aR (LS l0 (i64.wrap (n1+1)) []))):=aF
structure Tok where
 kind:Nat
 text:aE
 n:Int
 d:Nat
 at_:Nat
def zL(c:UInt8):Bool:=c==9||c==10||c==13||c==32
def k9(c:UInt8):Bool:=c==95||(decide (97<=c.toNat)&&decide (c.toNat<=122))||(decide (65<=c.toNat)&&decide (c.toNat<=90))
def ke(c:UInt8):Bool:=aP c||(decide (97<=c.toNat)&&decide (c.toNat<=102))||(decide (65<=c.toNat)&&decide (c.toNat<=70))
def fR(c:UInt8):Bool:=k9 c||aP c||c==46
def sL(r:aE):Nat:=if r.dropWhile (· != 10)=[]then r.length else(r.takeWhile (· != 10)).length+1
def Cd:aE->Option Nat
 | []=>none
 |c::r=>if c=42/\r.head?=some 47 then some 2 else(Cd r).map (· + 1)
def fT:Nat->aE->Nat->Nat×Bool
 |0,_,k=>(k,true)
 |f+1,r,k=>match r with
  | []=>(k,true)
  |c::q=>
   if zL c=true then fT f q (k+1)
   else if c=35\/(c=47/\q.head?=some 47)then fT f (r.drop (sL r)) (k+sL r)
   else if c=47/\q.head?=some 42 then
    match Cd (q.drop 1) with
    |none=>(k,false)
    |some n=>fT f (r.drop (2+n)) (k+(2+n))
   else(k,true)
abbrev OJ:=(Tok×Nat) ⊕ (Int×Nat)
def qU:aE->Bool
 | []=>false
 |c::r=>(c==46&&r.head?==some 46)||qU r
def vB(r:aE)(at_:Nat):OJ:=
 let w:=r.takeWhile fR
 if 120<w.length then .inr (4,at_)
 else if w.getLast?=some 46\/qU w=true then .inr (2,at_)
 else .inl (⟨1,w,0,0,at_⟩,w.length)
def rm(r:aE)(n at_:Nat)(t:Tok):OJ:=
 match r.drop n with
 | [] => .inl (t,n)
 |c::_=>if (k9 c||c==46)=true then .inr (2,at_+n)else .inl (t,n)
def CA(r:aE)(at_:Nat):OJ:=
 let h:=(r.drop 2).takeWhile ke
 if 16<h.length then .inr (4,at_)
 else if 2^63<=EN h then .inr (5,at_)
 else rm r (2+h.length) at_ ⟨2,[],(EN h:Int),0,at_⟩
def gV(t:aE):Nat:=
 match t with
 |c::d::q=>if c=46/\aP d=true then 1+((d::q).takeWhile aP).length else 0
 |_=>0
def na(q:aE):Nat:=
 match q with
 |d::_=>if d=43\/d=45 then 2 else 1
 | []=>1
def kR(t:aE):Nat:=
 match t with
 | []=>0
 |c::q=>if c=101\/c=69 then(if ((t.drop (na q)).takeWhile aP)=[]then 0 else na q+((t.drop (na q)).takeWhile aP).length)else 0
def gW(r:aE):Nat:=
 match r with
 |c::_=>if c=43\/c=45 then 1 else 0
 | []=>0
def iM(neg:Bool)(v:Nat):Int×Bool:=if neg=true then(-(v:Int),decide (v<=2^63)) else((v:Int),decide (v<2^63))
def oS(r:aE)(at_:Nat):OJ:=
 let sg:=gW r
 let u:=r.drop sg
 if sg=0/\r.head?=some 48/\(r.drop 1).head?=some 120/\((r.drop 2).takeWhile ke)≠[]then CA r at_
 else if u.takeWhile aP=[]/\gV u=0 then .inr (2,at_)
 else
  let ds:=u.takeWhile aP
  let a:=gV (u.drop ds.length)
  let b:=kR (u.drop (ds.length+a))
  let n:=sg+(ds.length+(a+b))
  if a=0/\b=0 then
   let v:=iM (r.head?==some 45) (dq ds)
   if 60<ds.length then .inr (4,at_)
   else if v.2=false then .inr (5,at_)
   else rm r n at_ ⟨2,[],v.1,0,at_⟩
  else
   let p:=et (r.take n)
   if p.2≠0 then .inr (p.2,at_)else rm r n at_ ⟨3,[],0,p.1,at_⟩
def vO(q:UInt8)(r:aE)(at_:Nat):OJ:=
 let t:=r.takeWhile (· != q)
 if r.dropWhile (· != q)=[]\/t.contains 10=true then .inr (2,at_)
 else .inl (⟨4,t,0,0,at_⟩,t.length+2)
def jP:aE:=[123,125,40,41,91,93,60,62,44,59,58,61,42]
def gp(r:aE)(at_:Nat):OJ:=
 match r with
 | [] => .inr (2,at_)
 |c::q=>
  if k9 c=true then vB r at_
  else if aP c=true\/c=43\/c=45\/c=46 then oS r at_
  else if c=34\/c=39 then vO c q at_
  else if jP.contains c=true then .inl (⟨5,[c],0,0,at_⟩,1)
  else .inr (2,at_)
abbrev Z9:=List Tok×Int×Nat
def oe:Nat->aE->Nat->List Tok->Z9
 |0,_,_,_=>([],0,0)
 |f+1,r,at_,l=>
  match fT r.length r 0 with
  |(k,false)=>([],2,at_+k)
  |(k,true)=>
   if r.length<=k then(l++[⟨6,[],0,0,at_+r.length⟩],0,0)
   else match gp (r.drop k) (at_+k) with
    | .inr (e,w)=>([],e,w)
    | .inl (t,n)=>oe f (r.drop (k+n)) (at_+k+n) (l++[t])
def lexB(s:aE):Z9:=if 2000<s.length then([],4,0)else oe (s.length+1) s 0 []
def Me(s:aE)(a:Nat):Bool:=k9 ((s.drop a).getD 0 0)||(s.drop a).getD 0 0==46
theorem qD{α:Type}(l:List α)(p:α->Bool):l.takeWhile p=l.take (l.takeWhile p).length:=by
 induction l with
 |nil=>rfl
 |cons c l ih=>
  rw[List.takeWhile_cons];split
  ·rw[aaT,List.take_succ_cons,<-ih]
  ·rfl
theorem jU{α:Type}(l:List α)(p:α->Bool):(l.takeWhile p).length<=l.length:=(List.takeWhile_sublist p).length_le
def TI(r:aE)(at_:Nat)(w:OJ):Prop:=
 match w with
 | .inl (t,n)=>t.at_=at_/\1<=n/\n<=r.length/\t.kind≠6/\((t.kind=1\/t.kind=5)->t.text.length<=n/\t.text=r.take t.text.length)
 | .inr (e,w)=>e≠0/\at_<=w/\w<=at_+r.length
theorem GY(r:aE)(n at_:Nat)(t:Tok)(h0:t.at_=at_)(h1:1<=n)(h2:n<=r.length)(h3:t.kind=2\/t.kind=3):TI r at_ (rm r n at_ t):=by
 have hk:t.kind≠6/\¬(t.kind=1\/t.kind=5):=by omega
 unfold rm;split
 ·exact⟨h0,h1,h2,hk.1,λ h=>absurd h hk.2⟩
 ·split
  ·exact⟨by decide,by omega,by omega⟩
  ·exact⟨h0,h1,h2,hk.1,λ h=>absurd h hk.2⟩
theorem EH(t:aE):gV t<=t.length:=by
 unfold gV;split
 ·rename_i c d q;split
  ·have:=jU (d::q) aP;rw[aaT];omega
  ·omega
 ·omega
theorem Jv(t:aE):kR t<=t.length:=by
 unfold kR;split
 ·exact aa4 _
 ·rename_i c q;split
  ·split
   ·omega
   ·rename_i h;have h1:=jU ((c::q).drop (na q)) aP;rw[abB]at h1;have h2:0<(((c::q).drop (na q)).takeWhile aP).length:=abR.2 h;omega
  ·omega
theorem FY(r:aE):gW r<=r.length:=by
 unfold gW;split
 ·split
  ·rw[aaT];omega
  ·omega
 ·exact aa4 _
theorem Xs(r:aE)(at_:Nat)(h:(r.drop 2).takeWhile ke≠[]):TI r at_ (CA r at_):=by
 have h1:=jU (r.drop 2) ke;have h2:0<((r.drop 2).takeWhile ke).length:=abR.2 h;rw[abB]at h1;unfold CA;simp only;split
 ·exact⟨by decide,by omega,by omega⟩
 ·split
  ·exact⟨by decide,by omega,by omega⟩
  ·exact GY r _ at_ _ rfl (by omega) (by omega) (Or.inl rfl)
theorem XN(r:aE)(at_:Nat):TI r at_ (oS r at_):=by
 have s1:=FY r;unfold oS;simp only;generalize gW r=sg at *;split
 ·rename_i h;exact Xs r at_ h.2.2.2
 ·split
  ·exact⟨by decide,by omega,by omega⟩
  ·rename_i hne;have h1:=jU (r.drop sg) aP;have h2:=EH ((r.drop sg).drop ((r.drop sg).takeWhile aP).length);have h3:=Jv ((r.drop sg).drop (((r.drop sg).takeWhile aP).length+gV ((r.drop sg).drop ((r.drop sg).takeWhile aP).length)));rw[abB]at h1;rw[abB,abB]at h2 h3;have h4:1<=((r.drop sg).takeWhile aP).length+gV ((r.drop sg).drop ((r.drop sg).takeWhile aP).length):=by
    by_cases h:(r.drop sg).takeWhile aP=[]
    ·rw[h,abp,List.drop_zero];have:gV (r.drop sg)≠0:=λ e=>hne ⟨h,e⟩;omega
    ·have:=abR.2 h;omega
   generalize kR ((r.drop sg).drop (((r.drop sg).takeWhile aP).length+gV ((r.drop sg).drop ((r.drop sg).takeWhile aP).length)))=b at *;generalize gV ((r.drop sg).drop ((r.drop sg).takeWhile aP).length)=a at *;split
   ·split
    ·exact⟨by decide,by omega,by omega⟩
    ·split
     ·exact⟨by decide,by omega,by omega⟩
     ·exact GY r _ at_ _ rfl (by omega) (by omega) (Or.inl rfl)
   ·split
    ·rename_i he;exact⟨he,by omega,by omega⟩
    ·exact GY r _ at_ _ rfl (by omega) (by omega) (Or.inr rfl)
theorem L8(r:aE)(at_:Nat):TI r at_ (gp r at_):=by
 unfold gp;split
 ·exact⟨by decide,by omega,by omega⟩
 ·rename_i c q;split
  ·rename_i hl;have h1:=jU (c::q) fR;have h2:0<((c::q).takeWhile fR).length:=by rw[List.takeWhile_cons,show fR c=true by unfold fR;rw[hl];rfl,aaR rfl,aaT];omega
   unfold vB;simp only;split
   ·exact⟨by decide,by omega,by omega⟩
   ·split
    ·exact⟨by decide,by omega,by omega⟩
    ·exact⟨rfl,h2,h1,(show (1:Nat)≠6 by decide),λ _=>⟨aa4 _,qD _ _⟩⟩
  ·split
   ·exact XN _ _
   ·split
    ·unfold vO;simp only;split
     ·exact⟨by decide,by omega,by omega⟩
     ·rename_i h;have h1:(q.takeWhile (· != c)).length+(q.dropWhile (· != c)).length=q.length:=by
       have:=congrArg List.length (List.takeWhile_append_dropWhile (p:=(· != c)) (l:=q))
       rwa[aaS]at this
      have h2:0<(q.dropWhile (· != c)).length:=abR.2 λ e=>h (Or.inl e);exact⟨rfl,by omega,by rw[aaT];omega,(show (4:Nat)≠6 by decide),λ h=>absurd h (show ¬((4:Nat)=1\/(4:Nat)=5) by decide)⟩
    ·split
     ·exact⟨rfl,aa4 _,by rw[aaT];omega,(show (5:Nat)≠6 by decide),λ _=>⟨aa4 _,rfl⟩⟩
     ·exact⟨by decide,by omega,by omega⟩
theorem xQ(r:aE):sL r<=r.length/\(r≠[]->1<=sL r):=by
 have h1:(r.takeWhile (· != 10)).length+(r.dropWhile (· != 10)).length=r.length:=by
  have:=congrArg List.length (List.takeWhile_append_dropWhile (p:=(· != (10:UInt8))) (l:=r))
  rwa[aaS]at this
 unfold sL;split
 ·refine⟨aa4 _,λ h=>?_⟩;have:=abR.2 h;omega
 ·rename_i h;have h2:0<(r.dropWhile (· != 10)).length:=abR.2 h;exact⟨by omega,λ _=>by omega⟩
theorem Ce:∀(r:aE) (n:Nat),Cd r=some n->n<=r.length
 | [],n,h=>by cases h
 |c::r,n,h=>by
  unfold Cd at h;split at h
  ·rename_i hc
   cases r with
   |nil=>simp at hc
   |cons d r=>cases h;simp
  ·cases he:Cd r with
   |none=>rw[he]at h;cases h
   |some m=>
    rw[he]at h;have:=Ce r m he;have e:m+1=n:=Option.some.inj h;rw[aaT];omega
theorem tF:∀(f:Nat) (r:aE) (k:Nat),k<=(fT f r k).1/\(fT f r k).1<=k+r.length
 |0,r,k=>⟨aa4 _,by simp[fT]⟩
 |f+1,[],k=>⟨by simp[fT],by simp[fT]⟩
 |f+1,c::q,k=>by
  unfold fT;simp only;split
  ·have:=tF f q (k+1);rw[aaT];omega
  ·split
   ·have h1:=(xQ (c::q)).1;have:=tF f ((c::q).drop (sL (c::q))) (k+sL (c::q));rw[abB]at this;omega
   ·split
    ·split
     ·exact⟨aa4 _,by omega⟩
     ·rename_i hc _ n he;have h1:=Ce _ _ he;rw[abB]at h1;have h2:1<=q.length:=by
       cases q with
       |nil=>exact absurd hc.2 (by decide)
       |cons d q=>rw[aaT];omega
      have:=tF f ((c::q).drop (2+n)) (k+(2+n));rw[abB,aaT]at this;rw[aaT];omega
    ·exact⟨aa4 _,by omega⟩
def YD(s:aE)(t:Tok):Prop:=(t.kind=1\/t.kind=5)->t.at_+t.text.length<=s.length/\t.text=(s.drop t.at_).take t.text.length
def Good(s:aE)(l:List Tok)(at_:Nat):Prop:=(∀t∈l,t.kind≠6/\YD s t/\t.at_<at_)/\l.Pairwise λ a b=>a.at_<b.at_
theorem JF(s:aE):∀(f at_:Nat) (l:List Tok),s.length-at_<f->at_<=s.length->Good s l at_->
  (∃l',Good s l' s.length/\oe f (s.drop at_) at_ l=(l'++[⟨6,[],0,0,s.length⟩],0,0))\/(∃e w,oe f (s.drop at_) at_ l=([],e,w)/\e≠0/\w<=s.length)
 |0,at_,l,h,_,_=>by omega
 |f+1,at_,l,h,ha,hg=>by
  have hk:=tF (s.drop at_).length (s.drop at_) 0;have hlen:(s.drop at_).length=s.length-at_:=abB ..;unfold oe;generalize fT (s.drop at_).length (s.drop at_) 0=K at hk⊢;obtain⟨k,b⟩:=K;simp only at hk;rw[hlen]at hk⊢
  cases b with
  |false=>exact Or.inr ⟨2,at_+k,rfl,by decide,by omega⟩
  |true=>
   simp only;split
   ·refine Or.inl ⟨l,⟨λ t ht=>⟨(hg.1 t ht).1,(hg.1 t ht).2.1,?_⟩,hg.2⟩,?_⟩
    ·have:=(hg.1 t ht).2.2;omega
    ·rw[show at_+(s.length-at_)=s.length by omega]
   ·rename_i hr;rw[List.drop_drop];have hw:=L8 (s.drop (at_+k)) (at_+k);have hl2:(s.drop (at_+k)).length=s.length-(at_+k):=abB ..
    cases hww:gp (s.drop (at_+k)) (at_+k) with
    |inr x=>
     obtain⟨e,w⟩:=x;rw[hww]at hw;obtain⟨w1,w2,w3⟩:=hw;exact Or.inr ⟨e,w,rfl,w1,by omega⟩
    |inl x=>
     obtain⟨t,n⟩:=x;rw[hww]at hw;obtain⟨w1,w2,w3,w4,w5⟩:=hw;simp only;rw[List.drop_drop,show at_+(k+n)=at_+k+n by omega];refine JF s f (at_+k+n) (l++[t]) (by omega) (by omega) ⟨λ u hu=>?_,?_⟩
     ·rcases List.mem_append.1 hu with hu|hu
      ·have:=hg.1 u hu;exact⟨this.1,this.2.1,by omega⟩
      ·rw[abK]at hu;subst hu;refine⟨w4,λ hk=>?_,by omega⟩;obtain⟨a,b⟩:=w5 hk;rw[w1];exact⟨by omega,b⟩
     ·rw[List.pairwise_append];refine⟨hg.2,List.pairwise_singleton _ _,λ a ha b hb=>?_⟩;rw[abK]at hb;subst hb;have:=(hg.1 a ha).2.2;omega
theorem rL(s:aE):(∃l',Good s l' s.length/\lexB s=(l'++[⟨6,[],0,0,s.length⟩],0,0))\/(∃e w,lexB s=([],e,w)/\e≠0/\w<=s.length):=by
 unfold lexB;split
 ·exact Or.inr ⟨4,0,rfl,by decide,by omega⟩
 ·have:=JF s (s.length+1) 0 [] (by omega) (by omega) ⟨λ t h=>by simp at h,List.Pairwise.nil⟩
  rwa[List.drop_zero]at this
def Tok.D(t:Tok):D := .g [.i .i64 (t.kind:Int),.s t.text,.i .i64 t.n,.i .u64 (t.d:Int),.i .i64 (t.at_:Int)]
def zn(L:List Tok):List D:=L.map Tok.D
theorem RC(L:List Tok):bA 5 (zn L)=true:=by cases L<;>rfl
theorem Vc(L:List Tok):(zn L).length=L.length:=by simp[zn]
theorem RE(L:List Tok)(t:Tok):zn L++[t.D]=zn (L++[t]):=by simp[zn]
theorem JP(d:aE):∀v,om v d=v*10^d.length+dq d:=by
 induction d with
 |nil=>intro v;simp[om,dq]
 |cons c d ih=>
  intro v;have h1:om v (c::d)=om (v*10+dS c) d:=rfl;have h2:dq (c::d)=om (0*10+dS c) d:=rfl;rw[h1,h2,ih (v*10+dS c),ih (0*10+dS c),Nat.zero_mul,abv,aaT,abx,abw,abm,abD 10 (10^d.length)];omega
theorem x7(d:aE):dq (d.dropWhile (· == 48))=dq d:=by
 induction d with
 |nil=>rfl
 |cons c d ih=>
  rw[List.dropWhile_cons];split
  ·rename_i h;have hc:c=48:=by simpa using h
   rw[ih,hc];show dq d=om (0*10+dS 48) d;rfl
  ·rfl
theorem F7{α:Type}(p:α->Bool)(l:List α):(l.takeWhile p).all p=true:=by
 induction l with
 |nil=>rfl
 |cons c l ih=>
  rw[List.takeWhile_cons];split
  ·rename_i h;rw[List.all_cons,h,ih];rfl
  ·rfl
theorem Ha(t:aE)(k:Nat):aP (t.getD k 0)=true↔(t.drop k).takeWhile aP≠[]:=by
 rw[abG];have h:t[k]?=(t.drop k).head?:=by rw[List.head?_drop]
 rw[h]
 cases t.drop k with
 |nil=>simp;decide
 |cons c q=>
  rw[List.takeWhile_cons];simp only[List.head?_cons,Option.getD_some];cases aP c<;>simp
def Un(t:aE):Bool:=t.getD 0 0==101||t.getD 0 0==69
theorem cY(c d:UInt8):((c.toNat:Int)==(d.toNat:Int))=(c==d):=by
 rw[y4];by_cases h:c=d
 ·subst h;simp
 ·rw[abf h,abr.2 h]
theorem Cw(t:aE):gV t=if t.getD 0 0=46/\aP (t.getD 1 0)=true then 1+((t.drop 1).takeWhile aP).length else 0:=by
 match t with
 | []=>rfl
 | [c]=>
  show 0=_;rw[aaN];rintro⟨-,h⟩;exact absurd (show aP 0=true from h) (by decide)
 |c::d::q=>rfl
theorem WW(s:aE)(a n:Nat)(t:Tok):rm (s.drop a) n a t=if Me s (a+n)=true then .inr (2,a+n)else .inl (t,n):=by
 unfold rm Me;rw[List.drop_drop]
 cases h:s.drop (a+n) with
 |nil=>rfl
 |cons c q=>rfl
def OE(r:aE):Bool:=!aP (r.getD 0 0)&&(!(r.getD 0 0==46&&aP (r.getD 1 0)))
theorem Wc(r:aE):(OE r=true)↔(r.takeWhile aP=[]/\gV r=0):=by
 have h0:aP 0=false:=by decide
 unfold OE;rw[Cw];have hd:=Ha r 0;rw[List.drop_zero]at hd
 cases h1:aP (r.getD 0 0) with
 |true=>
  have:=hd.1 h1;simp[this]
 |false=>
  have hn:r.takeWhile aP=[]:=by
   rcases Classical.em (r.takeWhile aP=[])with h|h
   ·exact h
   ·have:=hd.2 h;rw[h1]at this;cases this
  rw[hn];clear hd h1 hn;generalize r.getD 0 0=x;generalize aP (r.getD 1 0)=y;by_cases h46:x=46<;>cases y<;>simp[h46]
def UG(r:aE)(sg a:Nat):OJ:=
 let u:=r.drop sg
 if u.takeWhile aP=[]/\gV u=0 then .inr (2,a)
 else
  let ds:=u.takeWhile aP
  let fa:=gV (u.drop ds.length)
  let fb:=kR (u.drop (ds.length+fa))
  let n:=sg+(ds.length+(fa+fb))
  if fa=0/\fb=0 then
   let v:=iM (r.head?==some 45) (dq ds)
   if 60<ds.length then .inr (4,a)
   else if v.2=false then .inr (5,a)
   else rm r n a ⟨2,[],v.1,0,a⟩
  else
   let p:=et (r.take n)
   if p.2≠0 then .inr (p.2,a)else rm r n a ⟨3,[],0,p.1,a⟩
theorem JS(r:aE)(a:Nat):oS r a=
  if gW r=0/\r.head?=some 48/\(r.drop 1).head?=some 120/\((r.drop 2).takeWhile ke)≠[]then CA r a else UG r (gW r) a:=rfl
def pJ(r:Z9):Out:=(.t [.d (.l r.1.isEmpty (zn r.1)),.d (.i .i64 r.2.1),.d (.i .i64 (r.2.2:Int))],[])
end Go.Dn.Dec
