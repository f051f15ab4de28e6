/-
 DERIVED: THE SHELF's CONTRACTS AT THIS DUMP, IN PLAIN WORDS (tools/lay-plain.mjs out of 'ZpSs.lean', which tools/lay-shelf.mjs wrote): THE SAME DECLARATIONS UNDER THE SAME NAMES: 'import', 'namespace', 'open', 'def', 'theorem' AND NOTHING ELSE: no command of the shelf's: FOR A HAND-IN. Each laying: the table of numbers ('.._ren') and one theorem, a field a fact of the dump's own or the kernel's comparison; each contract: ONE APPLICATION.
-/
import Derived.Shelf.Strings.Builder1
import Derived.Shelf.Strings.Builder2
import Derived.Shelf.Strings.OnBuilder
import Derived.Shelf.Strconv.Itoa0
import Derived.Shelf.Strconv.Itoa1
import Derived.Shelf.LaysM
import Derived.Shelf.Strconv.Itoa2
import Derived.Shelf.Strconv.Itoa3
import Derived.Shelf.Strconv.Itoa4
import Derived.Shelf.LaysC
import Derived.Shelf.Strconv.ToError
import Derived.Shelf.Strconv.ToErrorRange
import Derived.Shelf.Strings.BuilderCap
import Derived.Test.YtbjllhjbhdjfjaaGreatDoorProg
import Derived.Test.YtbjllhjbhdjfjaaGreatDoorP5
import Derived.Lib.Builder
import Derived.Lib.UnsafeStr
import Derived.Test.YtbjllhjbhdjfjaaGreatDoorP4
import Derived.KernelRfl
namespace Go.Proofs
open Go.Shelf
def Tryz.lays156_ren : Go.Shelf.Ren := ⟨fun | 156 => 51 | 165 => 119 | 166 => 56 | 169 => 30 | 240 => 122 | 241 => 175 | 276 => 176 | 277 => 203 | n => n, fun | 31 => 29 | 9 => 9 | 3 => 3 | 4 => 4 | 0 => 0 | 20 => 20 | 72 => 71 | 76 => 117 | 70 => 69 | 37 => 22 | 75 => 116 | 127 => 123 | 164 => 198 | 5 => 5 | 80 => 77 | n => n, fun | n => n⟩
theorem Tryz.lays156 : Go.Proofs.Lays.n156 Tryz.prog Tryz.lays156_ren := {
 mixed := by kernel_rfl
 f156 := Tryz.func51.trans (congrArg some (by kernel_rfl))
 f165 := Tryz.func119.trans (congrArg some (by kernel_rfl))
 f166 := Tryz.func56.trans (congrArg some (by kernel_rfl))
 f169 := Tryz.func30.trans (congrArg some (by kernel_rfl))
 f240 := Tryz.func122.trans (congrArg some (by kernel_rfl))
 f241 := Tryz.func175.trans (congrArg some (by kernel_rfl))
 f276 := Tryz.func176.trans (congrArg some (by kernel_rfl))
 f277 := Tryz.func203.trans (congrArg some (by kernel_rfl))
 t0 := Tryz.underlying0
 a0 := Tryz.isAgg0
 z0 := Tryz.sizeOf0
 v0 := Tryz.zeroValue0
 t3 := Tryz.underlying3
 a3 := Tryz.isAgg3
 z3 := Tryz.sizeOf3
 v3 := Tryz.zeroValue3
 t4 := Tryz.underlying4
 a4 := Tryz.isAgg4
 z4 := Tryz.sizeOf4
 v4 := Tryz.zeroValue4
 t9 := Tryz.underlying9
 a9 := Tryz.isAgg9
 z9 := Tryz.sizeOf9
 v9 := Tryz.zeroValue9
 t20 := Tryz.underlying20
 a20 := Tryz.isAgg20
 z20 := Tryz.sizeOf20
 v20 := Tryz.zeroValue20
 t31 := Tryz.underlying29
 a31 := Tryz.isAgg29
 z31 := Tryz.sizeOf29
 v31 := Tryz.zeroValue29
 t37 := Tryz.underlying22
 a37 := Tryz.isAgg22
 z37 := Tryz.sizeOf22
 v37 := Tryz.zeroValue22
 t70 := Tryz.underlying69
 a70 := Tryz.isAgg69
 z70 := Tryz.sizeOf69
 v70 := Tryz.zeroValue69
 t72 := Tryz.underlying71
 a72 := Tryz.isAgg71
 z72 := Tryz.sizeOf71
 v72 := Tryz.zeroValue71
 t75 := Tryz.underlying116
 a75 := Tryz.isAgg116
 z75 := Tryz.sizeOf116
 v75 := Tryz.zeroValue116
 t76 := Tryz.underlying117
 a76 := Tryz.isAgg117
 z76 := Tryz.sizeOf117
 v76 := Tryz.zeroValue117
 t127 := Tryz.underlying123
 a127 := Tryz.isAgg123
 z127 := Tryz.sizeOf123
 v127 := Tryz.zeroValue123
 t164 := Tryz.underlying198
 a164 := Tryz.isAgg198
 z164 := Tryz.sizeOf198
 v164 := Tryz.zeroValue198 }
theorem Tryz.Builder_Extra_156 : Builder.Extra Tryz.prog Tryz.lays156_ren := {
 sizeBuilder := by kernel_rfl
 liesBuilder := by kernel_rfl
 t5 := Tryz.underlying5
 a5 := Tryz.isAgg5
 z5 := Tryz.sizeOf5
 v5 := Tryz.zeroValue5
 infoByte := by kernel_rfl
 cellsByte := by kernel_rfl
 sizeByte := by kernel_rfl
 neB5 := by decide }
open Go.RowKit in
/-- No element: the empty string; the world is as it was. (Whatever the slice's address and capacity: a nil slice too.) (LAID: no walk: one application.) -/
theorem Tryz.strings_Join_none (a : Option Addr) (c : Nat) (sep : ByteArray) (w : World) :
  Calls Tryz.prog 51 #[.slice a 0 c, .string sep] w fun e w' => e = .returned (.string ⟨#[]⟩) ∧ w' = w := Any.strings_Join_none Tryz.lays156 Tryz.Builder_Extra_156 a c sep w
open Go.RowKit in
/-- strings.Join: "Join concatenates the elements of its first argument to create a single string. The separator string sep is placed between elements in the resulting string.": HOWEVER MANY ELEMENTS. Below the heap's end the world is as it was. (LAID: no walk: one application.) -/
theorem Tryz.strings_Join (bk o c : Nat) (xs : List ByteArray) (sep : ByteArray) (w : World) (hcells : ∀ (j : Nat) x, xs[j]? = some x → w.cell? ⟨bk, o + j, none⟩ = some (.string x)) (hbk : bk < w.heap.size) (hN : xs.length ≤ 140737488355328) (hcap : xs.length ≤ c) (hlen : (Lib.join (xs.map (·.data.toList)) sep.data.toList).length ≤ 140737488355328) :
  Calls Tryz.prog 51 #[.slice (some ⟨bk, o, none⟩) xs.length c, .string sep] w fun e w' => e = .returned (.string ⟨(Lib.join (xs.map (·.data.toList)) sep.data.toList).toArray⟩) ∧ Below w.heap.size w w' := Any.strings_Join Tryz.lays156 Tryz.Builder_Extra_156 bk o c xs sep w hcells hbk hN hcap hlen
def Tryz.laysM173_ren : Go.Shelf.Ren := ⟨fun | 173 => 49 | 246 => 111 | 283 => 156 | 284 => 157 | 285 => 158 | 286 => 159 | 129 => 191 | 317 => 190 | 318 => 192 | 319 => 193 | 320 => 194 | 337 => 216 | 338 => 217 | n => n, fun | 2 => 2 | 3 => 3 | 9 => 9 | 4 => 4 | 171 => 184 | 0 => 0 | 53 => 49 | 37 => 22 | 5 => 5 | 173 => 187 | 212 => 214 | 51 => 147 | 20 => 20 | 213 => 215 | 46 => 144 | 232 => 236 | 233 => 237 | n => n, fun | 17 => 0 | 18 => 2 | 19 => 3 | n => n⟩
theorem Tryz.laysM173 : Go.Proofs.LaysM.n173 Tryz.prog Tryz.laysM173_ren := {
 mixed := by kernel_rfl
 f129 := Tryz.func191.trans (congrArg some (by kernel_rfl))
 f173 := Tryz.func49.trans (congrArg some (by kernel_rfl))
 f246 := Tryz.func111.trans (congrArg some (by kernel_rfl))
 f283 := Tryz.func156.trans (congrArg some (by kernel_rfl))
 f284 := Tryz.func157.trans (congrArg some (by kernel_rfl))
 f285 := Tryz.func158.trans (congrArg some (by kernel_rfl))
 f286 := Tryz.func159.trans (congrArg some (by kernel_rfl))
 f317 := Tryz.func190.trans (congrArg some (by kernel_rfl))
 f318 := Tryz.func192.trans (congrArg some (by kernel_rfl))
 f319 := Tryz.func193.trans (congrArg some (by kernel_rfl))
 f320 := Tryz.func194.trans (congrArg some (by kernel_rfl))
 f337 := Tryz.func216.trans (congrArg some (by kernel_rfl))
 f338 := Tryz.func217.trans (congrArg some (by kernel_rfl))
 t0 := Tryz.underlying0
 a0 := Tryz.isAgg0
 z0 := Tryz.sizeOf0
 v0 := Tryz.zeroValue0
 t2 := Tryz.underlying2
 a2 := Tryz.isAgg2
 z2 := Tryz.sizeOf2
 v2 := Tryz.zeroValue2
 t3 := Tryz.underlying3
 a3 := Tryz.isAgg3
 z3 := Tryz.sizeOf3
 v3 := Tryz.zeroValue3
 t4 := Tryz.underlying4
 a4 := Tryz.isAgg4
 z4 := Tryz.sizeOf4
 v4 := Tryz.zeroValue4
 t5 := Tryz.underlying5
 a5 := Tryz.isAgg5
 z5 := Tryz.sizeOf5
 v5 := Tryz.zeroValue5
 t9 := Tryz.underlying9
 a9 := Tryz.isAgg9
 z9 := Tryz.sizeOf9
 v9 := Tryz.zeroValue9
 t20 := Tryz.underlying20
 a20 := Tryz.isAgg20
 z20 := Tryz.sizeOf20
 v20 := Tryz.zeroValue20
 t37 := Tryz.underlying22
 a37 := Tryz.isAgg22
 z37 := Tryz.sizeOf22
 v37 := Tryz.zeroValue22
 t46 := Tryz.underlying144
 a46 := Tryz.isAgg144
 z46 := Tryz.sizeOf144
 v46 := Tryz.zeroValue144
 t51 := Tryz.underlying147
 a51 := Tryz.isAgg147
 z51 := Tryz.sizeOf147
 v51 := Tryz.zeroValue147
 t53 := Tryz.underlying49
 a53 := Tryz.isAgg49
 z53 := Tryz.sizeOf49
 v53 := Tryz.zeroValue49
 t171 := Tryz.underlying184
 a171 := Tryz.isAgg184
 z171 := Tryz.sizeOf184
 v171 := Tryz.zeroValue184
 t173 := Tryz.underlying187
 a173 := Tryz.isAgg187
 z173 := Tryz.sizeOf187
 v173 := Tryz.zeroValue187
 t212 := Tryz.underlying214
 a212 := Tryz.isAgg214
 z212 := Tryz.sizeOf214
 v212 := Tryz.zeroValue214
 t213 := Tryz.underlying215
 a213 := Tryz.isAgg215
 z213 := Tryz.sizeOf215
 t232 := Tryz.underlying236
 a232 := Tryz.isAgg236
 z232 := Tryz.sizeOf236
 v232 := Tryz.zeroValue236
 t233 := Tryz.underlying237
 a233 := Tryz.isAgg237
 z233 := Tryz.sizeOf237
 v233 := Tryz.zeroValue237
 g17 := by kernel_rfl
 g18 := by kernel_rfl
 g19 := by kernel_rfl
 i0 := by kernel_rfl
 i2 := by kernel_rfl
 i3 := by kernel_rfl
 i4 := by kernel_rfl
 i5 := by kernel_rfl
 i9 := by kernel_rfl
 i20 := by kernel_rfl
 i37 := by kernel_rfl
 i46 := by kernel_rfl
 i51 := by kernel_rfl
 i53 := by kernel_rfl
 i171 := by kernel_rfl
 i173 := by kernel_rfl
 i212 := by kernel_rfl
 i232 := by kernel_rfl
 i233 := by kernel_rfl
 m17 := by kernel_rfl
 m18 := by kernel_rfl
 m19 := by kernel_rfl }
open Go.RowKit Go.Sort Go.Lib in
/-- strconv.FormatInt: "FormatInt returns the string representation of i in the given base": AT BASE 10: i's decimal numeral, for every int64. (LAID: no walk: one application.) -/
theorem Tryz.strconv_FormatInt_10 (n : Int) (h0 : -9223372036854775808 ≤ n) (h1 : n ≤ 9223372036854775807) (w : World) (htab : Lib.TabIs Tryz.prog w "internal/strconv.uint64pow10" .u64 Lib.pow10Tab) :
  Calls Tryz.prog 49 #[.int .i64 n, .int .i64 10] w fun e w' => e = .returned (.string ⟨(Lib.itoa n).toArray⟩) ∧ ∃ k os, w' = grow (w.drewN k) os := Any.strconv_FormatInt_10 Tryz.laysM173 n h0 h1 w htab
end Go.Proofs
namespace Go.Proofs
open Go.Shelf Go.RowKit
set_option maxRecDepth 100000
theorem Tryz.lies64 (c : Nat) : liesAt Tryz.prog Tryz.prog.depth 73 (c + 1) 0 71 1 = true := by kernel_rfl
theorem Tryz.cells64 : Tryz.prog.cellsOf 73 = 2 := by kernel_rfl
theorem Tryz.info62 : (Tryz.prog.info? 71).map (·.size) = some 2 := by kernel_rfl
set_option maxHeartbeats 1000000 in
theorem Tryz.copyCheck_used (b : Nat) (w : World) (h0 : w.cell? ⟨b, 0, none⟩ = some (.pointer (some ⟨b, 0, none⟩))) :
  Calls Tryz.prog 122 #[.pointer (some ⟨b, 0, none⟩)] w fun e w' => e = .returned (.tuple #[]) ∧ w' = w := by
 obtain ⟨j, hj, _⟩ := Option.map_eq_some_iff.1 Tryz.info62
 go_enter Tryz.func122, Tryz.ntmps122
 go_wp2
 rw [Lib.run_neq_ptr_same w _ Tryz.underlying69 hj]
 go_wp2
 go_end0
 exact ⟨rfl, rfl⟩
set_option maxHeartbeats 1000000 in
theorem Tryz.copyCheck_fresh (b c : Nat) (w : World) (h0 : w.cell? ⟨b, 0, none⟩ = some (.pointer none)) (hsh : w.shape? b = some (73, c)) (hc : 2 ≤ c) (hfz : w.frozen? ⟨b, 0, none⟩ = false) :
  Calls Tryz.prog 122 #[.pointer (some ⟨b, 0, none⟩)] w fun e w' => e = .returned (.tuple #[]) ∧ w' = w.setCell ⟨b, 0, none⟩ (.pointer (some ⟨b, 0, none⟩)) := by
 obtain ⟨j, hj, hjs⟩ := Option.map_eq_some_iff.1 Tryz.info62
 have hl : liesAt Tryz.prog Tryz.prog.depth 73 (c / Tryz.prog.cellsOf 73) 0 71 1 = true := by
  rw [Tryz.cells64]
  obtain ⟨k, hk⟩ : ∃ k, c / 2 = k + 1 := ⟨c / 2 - 1, by omega⟩
  rw [hk]; exact Tryz.lies64 k
 go_enter Tryz.func122, Tryz.ntmps122
 go_wp2
 rw [Lib.run_to_unsafe w ⟨b, 0, none⟩ Tryz.underlying69 Tryz.underlying198 hj (by rw [hjs]; decide) hsh (by show 0 < c; omega)]
 simp only [Result.andThen]
 rw [Oper.upon_value]
 go_wp2
 rw [run_callFunc_extern Tryz.func176 (by kernel_rfl) (by kernel_rfl) (by kernel_rfl) (e := Extern.AbiNoEscape.same) (by kernel_rfl)]
 rw [Lib.run_noEscape]
 simp only [Result.andThen]
 rw [Oper.upon_value]
 go_wp2
 rw [Lib.run_from_unsafe w ⟨b, 0, none⟩ Tryz.underlying198 Tryz.underlying69 hj hsh hl]
 simp only [Result.andThen]
 rw [Oper.upon_value]
 go_wp2
 go_end0
 exact ⟨rfl, rfl⟩
theorem liesAt_bytes_off {P : Program} {e : TypeId} (hc : P.cellsOf e = 1) (count off n : Nat) (hn : off + n ≤ count) : liesAt P P.depth e count off e n = true := by
 have hd : P.depth = (2 * (P.types.size + Made.depth) + 1) + 1 := rfl
 rw [hd]
 simp only [liesAt, Bool.or_eq_true]
 left
 rw [hd]
 simp [rowAt, hc, hn, sameLayout, Nat.mod_one]
theorem run_unsafeString_off {P : Program} (w : World) (pt it ty e : TypeId) (hp : P.underlying pt = some (.pointer e)) (hc : P.cellsOf e = 1) (g off cells : Nat) (hsh : w.shape? g = some (e, cells)) (l : List UInt8) (h0 : l ≠ []) (hn : off + l.length ≤ cells) (h63 : l.length ≤ 9223372036854775807)
  (hcell : ∀ j x, l[j]? = some x → w.cell? ((⟨g, off, none⟩ : Addr).add j) = some (.int .u8 x.toNat)) :
  (Builtin.unsafeString_ #[pt, it] ty #[.pointer (some ⟨g, off, none⟩), .int .i64 l.length]).run P w = .ok (.string ⟨l.toArray⟩) (w.freeze ⟨g, off, none⟩ l.length) := by
 have hl : l.length ≠ 0 := by simpa using h0
 have hlb := Lib.run_loadBytes (P := P) w l ⟨g, off, none⟩ .empty hcell
 have hlies := liesAt_bytes_off (P := P) hc (cells / P.cellsOf e) off l.length (by rw [hc]; simpa using hn)
 have h63' : ¬ (9223372036854775807 : Int) < (l.length : Int) := by omega
 have hdef : Builtin.unsafeString_ #[pt, it] ty #[.pointer (some ⟨g, off, none⟩), .int .i64 l.length] =
   (do
    let n ← asInt (.int .i64 l.length)
    if n < 0 then runtimePanic (.error "unsafe.String: len out of range")
    if n > IntKind.i64.max then unsupported (.unsafePointer "String: a length above the largest int")
    if n = 0 then pure (.string .empty)
    else if ← variablesAt ⟨g, off, none⟩ (← elemOf pt) n.toNat then do
     let s ← loadBytes ⟨g, off, none⟩ .empty n.toNat
     freeze ⟨g, off, none⟩ n.toNat
     pure (.string s)
    else unsupported (.unsafePointer "String: not so many bytes at ptr")) := rfl
 rw [hdef]
 have hmax : IntKind.i64.max = 9223372036854775807 := rfl
 have hneg : ¬ (l.length : Int) < 0 := by omega
 simp [asInt, asIntOf, hmax, h63', hneg, hl, variablesAt, hsh, elemOf, run_underlying hp, hlies, hlb]
theorem Tryz.cells5 : Tryz.prog.cellsOf 5 = 1 := by kernel_rfl
set_option maxHeartbeats 1000000 in
theorem Tryz.Builder_String (b g off c cells : Nat) (l : List UInt8) (w : World) (c0 : w.cell? ⟨b, 1, none⟩ = some (.slice (some ⟨g, off, none⟩) l.length c)) (hl0 : l ≠ []) (hcap : l.length ≤ c) (hsh : w.shape? g = some (5, cells)) (hfit : off + l.length ≤ cells) (h63 : l.length ≤ 9223372036854775807)
  (hcell : ∀ j x, l[j]? = some x → w.cell? ((⟨g, off, none⟩ : Addr).add j) = some (.int .u8 x.toNat)) :
  Calls Tryz.prog 30 #[.pointer (some ⟨b, 0, none⟩)] w fun e w' => e = .returned (.string ⟨l.toArray⟩) ∧ w' = w.drew.freeze ⟨g, off, none⟩ l.length := by
 have hl1 : l.length ≠ 0 := by simpa using hl0
 have c1 : w.drew.cell? ⟨b, 1, none⟩ = some (.slice (some ⟨g, off, none⟩) l.length c) := c0
 have hSD : (Builtin.unsafeSliceData_ #[22] 123 #[.slice (some ⟨g, off, none⟩) l.length c]).run Tryz.prog w.drew = .ok (.pointer (some ⟨g, off, none⟩)) w.drew :=
  Lib.run_unsafeSliceData_row _ _ _ _ _ _ (by omega)
 have hUS : (Builtin.unsafeString_ #[123, 3] 9 #[.pointer (some ⟨g, off, none⟩), .int .i64 l.length]).run Tryz.prog w.drew = .ok (.string ⟨l.toArray⟩) (w.drew.freeze ⟨g, off, none⟩ l.length) :=
  run_unsafeString_off w.drew 123 3 9 5 Tryz.underlying123 Tryz.cells5 g off cells hsh l hl0 hfit h63 hcell
 clear hl0 hcap hfit hl1 hcell hsh
 go_enter Tryz.func30, Tryz.ntmps30
 go_wp2
 go_region
 all_goals (go_wp2; go_ret; exact ⟨rfl, rfl⟩)
end Go.Proofs
namespace Go.Dn.Dec
open Go.Proofs Go.Shelf Go.RowKit
set_option maxRecDepth 100000
def bytesD : List D → Option (List UInt8)
 | [] => some []
 | .i .u8 n :: xs => if 0 ≤ n ∧ n < 256 then (bytesD xs).map (UInt8.ofNat n.toNat :: ·) else none
 | _ => none
theorem bytesD_eq : ∀ {xs : List D} {l : List UInt8}, bytesD xs = some l → xs = ofBytes l
 | [], l, h => by simp [bytesD] at h; subst h; rfl
 | x :: xs, l, h => by
  unfold bytesD at h
  split at h
  ·cases ‹x :: xs = []›
  ·rename_i n r e
   injection e with e1 e2; subst e1; subst e2
   split at h
   ·rename_i hn
    obtain ⟨l', h1, rfl⟩ := Option.map_eq_some_iff.1 h
    rw [bytesD_eq h1]
    simp only [ofBytes, List.map_cons]
    congr 1
    have : ((UInt8.ofNat n.toNat).toNat : Int) = n := by
     rw [UInt8.toNat_ofNat']; omega
    rw [this]
   ·cases h
  ·cases h
def unStrs : List D → Option (List (List UInt8))
 | [] => some []
 | .s x :: xs => (unStrs xs).map (x :: ·)
 | _ => none
theorem unStrs_eq : ∀ {xs : List D} {l : List (List UInt8)}, unStrs xs = some l → xs = l.map .s
 | [], l, h => by simp [unStrs] at h; subst h; rfl
 | x :: xs, l, h => by
  unfold unStrs at h
  split at h
  ·cases ‹x :: xs = []›
  ·rename_i s r e
   injection e with e1 e2; subst e1; subst e2
   obtain ⟨l', h1, rfl⟩ := Option.map_eq_some_iff.1 h
   rw [unStrs_eq h1]; rfl
  ·cases h
def fmtIntExt (args : List V) (S : List Ob) : Option Out :=
 match args with
 | [.d (.i .i64 n), .d (.i .i64 b)] => if b = 10 ∧ -9223372036854775808 ≤ n ∧ n ≤ 9223372036854775807 then some (.d (.s (decI n)), S) else none
 | _ => none
def joinExt (args : List V) (S : List Ob) : Option Out :=
 match args with
 | [.d (.l _ xs), .d (.s t)] => match unStrs xs with
  | some l => if l.length ≤ 100000 ∧ (Lib.join l t).length ≤ 1000000 then some (.d (.s (Lib.join l t)), S) else none
  | none => none
 | _ => none
def copyExt (args : List V) (S : List Ob) : Option Out :=
 match args with
 | [.p id 0] => match oget S id with
  | some (.cells (c :: d :: cs) fl) => match c with
   | .d .np => if fl.contains (73, 2000000) = true then some (.t [], oset S id (.cells (.p id 0 :: d :: cs) (drop1 fl 0))) else none
   | .p i 0 => if i = id then some (.t [], S) else none
   | _ => none
  | _ => none
 | _ => none
def strExt (args : List V) (S : List Ob) : Option Out :=
 match args with
 | [.p id 0] => match oget S id with
  | some (.cells (_ :: .d (.l _ xs) :: _) fl) => match bytesD xs with
   | some l => if l ≠ [] ∧ l.length ≤ 1000000 ∧ fl.contains (1, 21000001) = true then some (.d (.s l), S) else none
   | none => none
  | _ => none
 | _ => none
theorem copy_good {args : List V} {S : List Ob} {o : Out} (h : copyExt args S = some o) : GoodCall Tryz.prog 122 args S o := by
 unfold copyExt at h
 split at h
 rotate_left
 ·cases h
 rename_i id
 split at h
 rotate_left
 ·cases h
 rename_i c d cs fl hob
 intro w G vs hI hr _
 obtain ⟨v, rfl, hv⟩ := vs_one hr
 simp only [RV] at hv
 obtain ⟨b, hb, rfl⟩ := hv
 obtain ⟨hFb, o', go, hs', hgo, hor⟩ := hI.ob _ _ hb
 rw [hob] at hs'; injection hs' with hs'; subst hs'
 cases go <;> simp only [ObR] at hor
 rename_i arr el fz
 obtain ⟨hlen, hcells, hflags⟩ := hor
 obtain ⟨v0, h0, hr0, hf0, _⟩ := hcells 0 c rfl
 have hc0 : w.cell? ⟨b, 0, none⟩ = some v0 := by simp [World.cell?, hgo, h0]
 split at h
 ·split at h
  ·rename_i hm
   injection h with h; subst h
   simp only [RV, RD] at hr0
   subst hr0
   have hel : el = 73 := by
    have := hflags 73 2000000 (by simpa using hm)
    unfold FlagR at this
    simpa using this
   subst hel
   have hsh : w.shape? b = some (73, arr.size) := by simp [World.shape?, hgo]
   have hfr : w.frozen? ⟨b, 0, none⟩ = false := by
    obtain ⟨lo, hi⟩ := fz
    simp only [World.frozen?, hgo]
    simpa using hf0
   have h2 : 2 ≤ arr.size := by simp at hlen; omega
   refine Answers.of_calls Tryz.func122 (by kernel_rfl) (hname _ _ Tryz.func122) ((Tryz.copyCheck_fresh b arr.size w hc0 hsh h2 hfr).mono ?_)
   rintro e w' ⟨rfl, rfl⟩
   refine ⟨_, rfl, ⟨G.F, G.own⟩, ?_, ?_⟩
   ·simp only [RV, RVs]; exact ⟨#[], rfl, rfl⟩
   rw [setCell_putRow hgo]
   have hrf := hI.rf _ _ _ hob
   have tokne : ∀ blk i x, G.own blk = some (.cell i x) → blk ≠ b := by
    intro blk i x h1 e; subst e; rw [hb] at h1; cases h1
   refine ⟨hI.write hb hob hgo (fun _ _ h _ _ => h) (fun _ _ h => .inr (.inr h)) ?_ ?_, Ext.write hI hb hgo (fun _ _ h _ _ => h) (fun _ h => h) (fun _ _ h => h)⟩
   ·simp only [refsLts, Bool.and_eq_true] at hrf ⊢
    exact ⟨by simp [refsLt], hrf.2⟩
   ·simp only [ObR]
    refine ⟨by simpa using hlen, fun o c' hc' => ?_, fun o z hm' => ?_⟩
    ·cases o with
     | zero =>
      simp at hc'; subst hc'
      have hpos : 0 < arr.size := by omega
      exact ⟨.pointer (some ⟨b, 0, none⟩), by rw [Array.getElem?_setIfInBounds, if_pos rfl, if_pos hpos], by simp only [RV]; exact ⟨b, hb, rfl⟩, hf0, rfl⟩
     | succ o =>
      obtain ⟨y, hy, hry, hf, ho1⟩ := hcells (o + 1) c' (by simpa using hc')
      exact ⟨y, by rw [Array.getElem?_setIfInBounds_ne (by omega)]; exact hy, hry, hf, ho1⟩
    ·obtain ⟨hm1, hne⟩ := mem_drop1.1 hm'
     refine (hflags o z hm1).map fun y hy ht => ⟨y, by rw [Array.getElem?_setIfInBounds_ne (by omega)]; exact hy, ht.same fun blk hk => ⟨hk, putRow_other (tokne _ _ _ hk), fun _ => rfl⟩⟩
  ·cases h
 ·split at h
  ·rename_i i hi
   injection h with h; subst h
   subst hi
   simp only [RV] at hr0
   obtain ⟨b', hb', rfl⟩ := hr0
   have := hI.inj _ _ _ hb' hb; subst this
   refine Answers.of_calls Tryz.func122 (by kernel_rfl) (hname _ _ Tryz.func122) ((Tryz.copyCheck_used b' w hc0).mono ?_)
   rintro e w' ⟨rfl, rfl⟩
   refine ⟨_, rfl, G, ?_, hI, Ext.refl _ _ _⟩
   simp only [RV, RVs]; exact ⟨#[], rfl, rfl⟩
  ·cases h
 ·cases h
theorem freeze_other {w : World} {g off n b : Nat} (h : b ≠ g) : (w.freeze ⟨g, off, none⟩ n).heap[b]? = w.heap[b]? := by
 unfold World.freeze
 split
 ·rfl
 ·simp only [Array.getElem?_modify]
  rw [if_neg (Ne.symm h)]
theorem freeze_same {w : World} {g off n : Nat} {cs : Array Value} {el lo hi : Nat} (hn : n ≠ 0) (h : w.heap[g]? = some (.cells cs el (lo, hi))) :
  (w.freeze ⟨g, off, none⟩ n).heap[g]? = some (.cells cs el (if lo == hi then (off, off + n) else (min lo off, max hi (off + n)))) := by
 unfold World.freeze
 rw [if_neg hn]
 simp only [Array.getElem?_modify, if_true, h, Option.map_some]
theorem freeze_size {w : World} {g off n : Nat} : (w.freeze ⟨g, off, none⟩ n).heap.size = w.heap.size := by
 unfold World.freeze
 split
 ·rfl
 ·simp
theorem tail_freeze {w : World} {F : Fz} {sz g off n g' : Nat} {ot : Option Nat} {v : Value} (hn : n ≠ 0) (hF : F g (off + n - 1) ≠ none) (h : Tail w F sz ot g' v) : Tail (w.freeze ⟨g, off, none⟩ n) F sz ot g' v := by
 obtain ⟨o, m, c, cs, el, fz, e, hg, h1, h2, h3, h4, h5⟩ := h
 by_cases hb : g' = g
 ·subst hb
  obtain ⟨lo, hi⟩ := fz
  refine ⟨o, m, c, cs, el, _, e, freeze_same hn hg, h1, h2, ?_, h4, fun x hx => ⟨(h5 x hx).1, ?_⟩⟩
  ·simp only at h3
   split
   ·simp
   ·simp only; omega
  ·have hB : off + n - 1 < o + m * sz := by
    rcases Nat.lt_or_ge (off + n - 1) (o + m * sz) with h | h
    ·exact h
    ·exact absurd (h5 _ h).1 hF
   simp only at h3
   split
   ·simp only; omega
   ·rename_i hlh
    have hne : lo ≠ hi := by simpa using hlh
    have hhi : hi ≤ o + m * sz := by
     rcases Nat.lt_or_ge (hi - 1) (o + m * sz) with h | h
     ·omega
     ·exact absurd (show lo ≤ hi - 1 ∧ hi - 1 < hi from ⟨by omega, by omega⟩) (h5 _ h).2
    simp only
    omega
 ·exact ⟨o, m, c, cs, el, fz, e, by rw [freeze_other hb]; exact hg, h1, h2, h3, h4, h5⟩
theorem tok_freeze {w : World} {G : Sg} {ℓ : Loc} {z g off n : Nat} {v : Value} (hn : n ≠ 0) (hF : G.F g (off + n - 1) ≠ none) (h : TokR w G ℓ z v) : TokR (w.freeze ⟨g, off, none⟩ n) G ℓ z v := by
 rcases h with h | ⟨blk, ho, ht⟩
 ·exact .inl h
 ·exact .inr ⟨blk, ho, tail_freeze hn hF ht⟩
theorem cell_freeze {w : World} {g off n b o : Nat} : (w.freeze ⟨g, off, none⟩ n).cell? ⟨b, o, none⟩ = w.cell? ⟨b, o, none⟩ := by
 by_cases hn : n = 0
 ·subst hn; rfl
 by_cases hb : b = g
 ·subst hb
  cases hh : w.heap[b]? with
  | none =>
   have : (w.freeze ⟨b, off, none⟩ n).heap[b]? = none := by
    rw [Array.getElem?_eq_none_iff] at hh ⊢
    rw [freeze_size]; exact hh
   simp [World.cell?, hh, this]
  | some go =>
   cases go with
   | cells cs el fz => obtain ⟨lo, hi⟩ := fz; simp [World.cell?, hh, freeze_same hn hh]
   | _ =>
    have : (w.freeze ⟨b, off, none⟩ n).heap[b]? = w.heap[b]? := by
     unfold World.freeze
     rw [if_neg hn]
     simp only [Array.getElem?_modify, if_true, hh, Option.map_some]
    simp [World.cell?, this]
 ·exact cell?_of_heap (freeze_other hb) o
theorem freeze_inv {w : World} {G : Sg} {S : List Ob} {g off n id x : Nat} (hI : Inv w G S) (ho : G.own g = some (.cell id x)) (hn : n ≠ 0) (hF : G.F g (off + n - 1) ≠ none) :
  Inv (w.freeze ⟨g, off, none⟩ n) G S ∧ Ext w G S (w.freeze ⟨g, off, none⟩ n) G S := by
 have hne : ∀ b i, G.own b = some (.obj i) → b ≠ g := fun b i h e => by subst e; rw [ho] at h; cases h
 have hex : w.freeze ⟨g, off, none⟩ n = { w with heap := (w.freeze ⟨g, off, none⟩ n).heap } := by
  unfold World.freeze; rw [if_neg hn]
 refine ⟨⟨fun b o v h => by rw [cell_freeze]; exact hI.fz b o v h, fun b i h => ?_, hI.inj, fun b ℓ h => by rw [freeze_size]; exact hI.tk b ℓ h, hI.cl, hI.rf, hI.tb_of fun b _ h0 => ⟨freeze_other fun e => (by subst e; rw [ho] at h0; cases h0), h0⟩⟩, ?_⟩
 ·obtain ⟨h1, o, go, h2, h3, h4⟩ := hI.ob b i h
  refine ⟨h1, o, go, h2, by rw [freeze_other (hne _ _ h)]; exact h3, ?_⟩
  cases o with
  | cells cs fl =>
   cases go <;> simp only [ObR] at h4 ⊢
   obtain ⟨p1, p2, p3⟩ := h4
   exact ⟨p1, p2, fun o sz hm => (p3 o sz hm).map fun v hv ht => ⟨v, hv, tok_freeze hn hF ht⟩⟩
  | map es => cases go <;> simp only [ObR] at h4 ⊢; exact h4
  | iter s pos => cases go <;> simp only [ObR] at h4 ⊢; exact h4
  | dead => cases go <;> simp only [ObR] at h4
 ·refine ⟨by rw [hex], by rw [hex], by rw [hex], by rw [freeze_size]; exact Nat.le_refl _, fun _ _ _ h => h, fun _ _ h => h, fun b hb h => ⟨rfl, freeze_other fun e => ?_, fun _ => rfl⟩, fun _ _ h _ => h, fun _ _ _ => rfl, Nat.le_refl _⟩
  subst e; rw [ho] at h; rcases h with h | h <;> cases h
theorem str_good {args : List V} {S : List Ob} {o : Out} (h : strExt args S = some o) : GoodCall Tryz.prog 30 args S o := by
 unfold strExt at h
 split at h
 rotate_left
 ·cases h
 rename_i id
 split at h
 rotate_left
 ·cases h
 rename_i c fu xs cs fl hob
 split at h
 rotate_left
 ·cases h
 rename_i l hl
 split at h
 rotate_left
 ·cases h
 rename_i hc
 obtain ⟨hne, hlen6, hm⟩ := hc
 injection h with h; subst h
 have hxs := bytesD_eq hl
 subst hxs
 intro w G vs hI hr _
 obtain ⟨v, rfl, hv⟩ := vs_one hr
 simp only [RV] at hv
 obtain ⟨b, hb, rfl⟩ := hv
 obtain ⟨hFb, o', go, hs', hgo, hor⟩ := hI.ob _ _ hb
 rw [hob] at hs'; injection hs' with hs'; subst hs'
 cases go <;> simp only [ObR] at hor
 rename_i arr el fz
 obtain ⟨hlen, hcells, hflags⟩ := hor
 obtain ⟨v1, h1, hr1, _, _⟩ := hcells 1 _ rfl
 have hc1 : w.cell? ⟨b, 1, none⟩ = some v1 := by simp [World.cell?, hgo, h1]
 have hfl := hflags 1 21000001 (by simpa using hm)
 unfold FlagR at hfl
 rw [if_neg (by decide)] at hfl
 obtain ⟨v1', h1', htok⟩ := hfl
 rw [h1] at h1'; injection h1' with h1'; subst h1'
 simp only [RV, RD] at hr1
 obtain ⟨a, n, cap, sz, rfl, hn, hncap, _, hsz, hel⟩ := hr1
 have hbl : (ofBytes l).length = l.length := by simp [ofBytes]
 rw [hbl] at hn
 subst hn
 have hl0 : l.length ≠ 0 := by simpa using hne
 have hbne : ofBytes l ≠ [] := by intro e; rw [e] at hbl; exact hl0 hbl.symm
 rcases htok with ⟨a', n', e, hz⟩ | ⟨g, hg, off, n', c', arr', el', fz', e, hgo', g1, g2, g3, g4, g5⟩
 ·injection e with e1 e2 e3
  have := hz (by decide)
  omega
 ·injection e with e1 e2 e3
  subst e1; subst e2; subst e3
  have hel5 : el' = 5 := g4 5 rfl
  subst hel5
  obtain ⟨blk, off2, e, hre⟩ := hel hbne
  injection e with e; injection e with e1 e2
  subst e1; subst e2
  have hsz1 : sz = 1 := by
   obtain ⟨y, r, hy⟩ : ∃ y r, l = y :: r := by cases l with | nil => exact absurd rfl hne | cons y r => exact ⟨y, r, rfl⟩
   have := hsz (.i .u8 y.toNat) (by rw [hy]; simp [ofBytes])
   simpa [D.width] using this.symm
  subst hsz1
  have hF : ∀ j x, l[j]? = some x → G.F g (off + j) = some (.int .u8 x.toNat) := by
   intro j x hj
   have := RElems.get hsz hre (i := j) (x := .i .u8 x.toNat) (by simp [ofBytes, hj])
   simp only [ElemAt, RD, Nat.mul_one] at this
   obtain ⟨y, hy, rfl⟩ := this
   exact hy
  have hsh : w.shape? g = some (5, arr'.size) := by simp [World.shape?, hgo']
  have hlast : G.F g (off + l.length - 1) ≠ none := by
   have hlt : l.length - 1 < l.length := by omega
   have := hF (l.length - 1) _ (List.getElem?_eq_getElem hlt)
   rw [show off + (l.length - 1) = off + l.length - 1 by omega] at this
   rw [this]; simp
  refine Answers.of_calls Tryz.func30 (by kernel_rfl) (hname _ _ Tryz.func30) ((Tryz.Builder_String b g off cap arr'.size l w hc1 hne hncap hsh (by omega) (by omega) (fun j x hj => ?_)).mono ?_)
  ·rw [Addr.add_plain]; exact hI.fz _ _ _ (hF j x hj)
  ·rintro e w' ⟨rfl, rfl⟩
   obtain ⟨q1, q2⟩ := freeze_inv (off := off) (n := l.length) hI.drew hg hl0 hlast
   refine ⟨_, rfl, G, by simp only [RV, RD], q1, ?_⟩
   exact (St1.drew (SP := fun _ _ => True) hI).ext.trans q2
theorem fmtInt_good {args : List V} {S : List Ob} {o : Out} (h : fmtIntExt args S = some o) : GoodCall Tryz.prog 49 args S o := by
 unfold fmtIntExt at h
 split at h
 ·rename_i n b
  split at h
  ·rename_i hc
   injection h with h; subst h
   obtain ⟨rfl, hc1, hc2⟩ := hc
   refine good_data (v := .string ⟨(Lib.itoa n).toArray⟩) Tryz.func49 (by kernel_rfl) (fun F => by simp only [RD]; rw [itoa_eq]) fun w G vs hI hr => ?_
   obtain ⟨v, u, rfl, h1, h2⟩ := vs_two hr
   simp only [RV, RD] at h1 h2
   subst h1; subst h2
   exact (Tryz.strconv_FormatInt_10 n hc1 hc2 w (tab_is hI)).mono fun e w' h => ⟨h.1, .inr h.2⟩
  ·cases h
 ·cases h
theorem join_good {args : List V} {S : List Ob} {o : Out} (h : joinExt args S = some o) : GoodCall Tryz.prog 51 args S o := by
 unfold joinExt at h
 split at h
 rotate_left
 ·cases h
 rename_i fu xs t
 split at h
 rotate_left
 ·cases h
 rename_i l hl
 split at h
 rotate_left
 ·cases h
 rename_i hc
 obtain ⟨hc1, hc2⟩ := hc
 injection h with h; subst h
 have hxs := unStrs_eq hl
 subst hxs
 refine good_val (v := .string ⟨(Lib.join l t).toArray⟩) Tryz.func51 (by kernel_rfl) (fun G => by simp only [RV, RD]) fun w G vs hI hr => ?_
 obtain ⟨v, u, rfl, h1, h2⟩ := vs_two hr
 simp only [RV, RD] at h1 h2
 subst h2
 obtain ⟨a, n, cap, sz, rfl, hn, hcap, _, hsz, hel⟩ := h1
 rw [List.length_map] at hn
 subst hn
 by_cases hl0 : l = []
 ·subst hl0
  exact (Tryz.strings_Join_none a cap ⟨t.toArray⟩ w).mono fun e w' ⟨h1, h2⟩ => ⟨by rw [h1]; rfl, by rw [h2]; exact Below.refl _ _⟩
 ·obtain ⟨blk, off, rfl, hre⟩ := hel (by simpa using hl0)
  have hsz1 : sz = 1 := by
   obtain ⟨y, r, hy⟩ : ∃ y r, l = y :: r := by cases l with | nil => exact absurd rfl hl0 | cons y r => exact ⟨y, r, rfl⟩
   have := hsz (.s y) (by rw [hy]; simp)
   simpa [D.width] using this.symm
  subst hsz1
  have hcell : ∀ (j : Nat) x, l[j]? = some x → w.cell? ⟨blk, off + j, none⟩ = some (.string ⟨x.toArray⟩) := by
   intro j x hj
   have := RElems.get hsz hre (i := j) (x := .s x) (by simp [hj])
   simp only [ElemAt, RD, Nat.mul_one] at this
   obtain ⟨y, hy, rfl⟩ := this
   exact hI.fz _ _ _ hy
  have hblk : blk < w.heap.size := by
   obtain ⟨y, r, hy⟩ : ∃ y r, l = y :: r := by cases l with | nil => exact absurd rfl hl0 | cons y r => exact ⟨y, r, rfl⟩
   exact cell?_lt (hcell 0 y (by rw [hy]; rfl))
  have hmap : (l.map fun x => (⟨x.toArray⟩ : ByteArray)).map (·.data.toList) = l := by simp [List.map_map, Function.comp_def]
  have := Tryz.strings_Join blk off cap (l.map fun x => ⟨x.toArray⟩) ⟨t.toArray⟩ w (fun j x hj => by
   rw [List.getElem?_map] at hj
   obtain ⟨y, hy, rfl⟩ := Option.map_eq_some_iff.1 hj
   exact hcell j y hy) hblk (by simp; omega) (by simpa using hcap) (by rw [hmap]; show (Lib.join l t).length ≤ _; omega)
  rw [hmap, List.length_map] at this
  exact this
end Go.Dn.Dec
namespace Go.Dn.Dec
open Go.Proofs
set_option exponentiation.threshold 5000000
def ratN (b : Nat) : Nat × Nat :=
 let q := if b / 2 ^ 52 = 0 then b % 2 ^ 52 else b % 2 ^ 52 + 2 ^ 52
 let e : Int := if b / 2 ^ 52 = 0 then -1074 else -1074 + ((b / 2 ^ 52 : Nat) - 1)
 if e < 0 then (q, 2 ^ (-e).toNat) else (q * 2 ^ e.toNat, 1)
def belowN (x y : Nat) (n : Int) : Bool := if n < 0 then decide (x * 10 ^ (-n).toNat < y) else decide (x < y * 10 ^ n.toNat)
def scaledN (x y : Nat) (n : Int) : Nat := if n < 0 then nearN (x * 10 ^ (-n).toNat) y else nearN x (y * 10 ^ n.toNat)
def downN (x y : Nat) : Nat → Int
 | 0 => -400
 | k + 1 => if belowN x y ((k + 1 : Nat) - 400 : Int) = true then downN x y k else ((k + 1 : Nat) - 400 : Int)
def tensN (q : Nat) : List UInt8 := decN (q % 18446744073709551616)
def restN (d : List UInt8) : List UInt8 := if trimRightB 48 (d.drop 1) = [] then [48] else trimRightB 48 (d.drop 1)
def putN (out d : List UInt8) (n : Int) : List UInt8 := out ++ d.take 1 ++ [46] ++ restN d ++ [101] ++ decI n
def showN (out : List UInt8) (x y : Nat) : List UInt8 :=
 let n := downN x y ((((blen x : Int) - blen y) * 30103).tdiv 100000 + 401).toNat
 if 17 < (tensN (scaledN x y (n - 16))).length then putN out (tensN (scaledN x y (n + 1 - 16))) (n + 1) else putN out (tensN (scaledN x y (n - 16))) n
def showB (b : Nat) : List UInt8 :=
 if b / 2 ^ 52 % 2048 = 2047 then []
 else
  let out : List UInt8 := if 2 ^ 63 ≤ b then [45] else []
  if b % 2 ^ 63 = 0 then out ++ [48, 46, 48, 101, 48] else showN out (ratN (b % 2 ^ 63)).1 (ratN (b % 2 ^ 63)).2
theorem decN_ne (n : Nat) : decN n ≠ [] := by
 rw [decN_eq]; split <;> simp
theorem decN_len : ∀ (k n : Nat), 0 < k → n < 10 ^ k → (decN n).length ≤ k
 | 0, _, h, _ => by omega
 | k + 1, n, _, h => by
  rw [decN_eq]
  split
  ·simp
  ·rename_i h9
   rw [List.length_append, List.length_singleton]
   have hk : 0 < k := by
    rcases Nat.eq_zero_or_pos k with rfl | h'
    ·simp at h; omega
    ·exact h'
   have := decN_len k (n / 10) hk (by rw [Nat.pow_succ] at h; omega)
   omega
theorem decI_len {n : Int} (h1 : -1000000 < n) (h2 : n < 1000000) : (decI n).length ≤ 8 := by
 unfold decI
 split
 ·have := decN_len 7 n.natAbs (by decide) (by simp; omega)
  simp; omega
 ·have := decN_len 7 n.toNat (by decide) (by simp; omega)
  omega
theorem trimR_len (c : UInt8) (x : List UInt8) : (trimRightB c x).length ≤ x.length := by
 unfold trimRightB
 rw [List.length_reverse]
 have := (List.dropWhile_sublist (· == c) (l := x.reverse)).length_le
 simpa using this
def Sml (n : Nat) : Prop := n < 2 ^ 1100
theorem Sml.mul {n k : Nat} (h : Sml n) (hk : k ≤ 700) : Mid (n * 10 ^ k) := by
 have h1 : (10 : Nat) ^ k ≤ 16 ^ k := Nat.pow_le_pow_left (by decide) k
 have h2 : (16 : Nat) ^ k = 2 ^ (4 * k) := by rw [show (16 : Nat) = 2 ^ 4 from rfl, ← Nat.pow_mul]
 have h3 : n * 10 ^ k < 2 ^ 1100 * 2 ^ (4 * k) := by
  have : n * 10 ^ k ≤ n * 2 ^ (4 * k) := Nat.mul_le_mul_left _ (h2 ▸ h1)
  exact Nat.lt_of_le_of_lt this (Nat.mul_lt_mul_of_pos_right h (Nat.pow_pos (by decide)))
 rw [← Nat.pow_add] at h3
 exact mid_lt (Nat.lt_of_lt_of_le h3 (Nat.pow_le_pow_right (by decide) (by omega)))
theorem Sml.mid {n : Nat} (h : Sml n) : Mid n := mid_lt (Nat.lt_of_lt_of_le h (Nat.pow_le_pow_right (by decide) (by decide)))
theorem cmpN_neg (x y : Nat) : decide (cmpN x y < 0) = decide (x < y) := by
 unfold cmpN
 by_cases h : x < y
 ·simp [h]
 ·by_cases h2 : y < x <;> simp [h, h2]
theorem below_ws (b c : Bool) (x y : Nat) (hx : Sml x) (hy : Sml y) (n : Int) (h1 : -700 ≤ n) (h2 : n ≤ 700) :
  rk Tryz.prog pol (Task.call 114 [V.d (D.l b (ws x)), V.d (D.l c (ws y)), V.d (D.i .i64 n)] []) = some (.d (.b (belowN x y n)), []) := by
 rw [f35]
 unfold belowN
 by_cases h : n < 0
 ·have hw : IntKind.i64.wrap (0 - n) = ((-n).toNat : Int) := by rw [wrap_i64] <;> omega
  have ht := ten_ws (-n).toNat (by omega)
  have hm := mul_ws b (nb (10 ^ (-n).toNat)) x (10 ^ (-n).toNat) hx.mid.fits (mid_lt (pow10_lt (by omega))).fits
  have hc := cmp_ws (nb (x * 10 ^ (-n).toNat)) c (x * 10 ^ (-n).toNat) y (hx.mul (by omega)).fits hy.mid.fits
  simp only [interp_brB, decide_eq_true h, if_true, hw, interp_call', ht, hm, hc, Option.bind_some, List.isEmpty_nil, interp_ift', asD_d, asL_l, interp_asI, interp_ret, cmpN_neg, if_pos h]
 ·have hw : n = (n.toNat : Int) := by omega
  have ht := ten_ws n.toNat (by omega)
  rw [← hw] at ht
  have hm := mul_ws c (nb (10 ^ n.toNat)) y (10 ^ n.toNat) hy.mid.fits (mid_lt (pow10_lt (by omega))).fits
  have hc := cmp_ws b (nb (y * 10 ^ n.toNat)) x (y * 10 ^ n.toNat) hx.mid.fits (hy.mul (by omega)).fits
  simp only [interp_brB, decide_eq_false h, Bool.false_eq_true, if_false, interp_call', ht, hm, hc, Option.bind_some, List.isEmpty_nil, interp_ift', if_true, asD_d, asL_l, interp_asI, interp_ret, cmpN_neg, if_neg h]
theorem scaled_ws (b c : Bool) (x y : Nat) (hx : Sml x) (hy : Sml y) (hy0 : 0 < y) (n : Int) (h1 : -700 ≤ n) (h2 : n ≤ 700) :
  rk Tryz.prog pol (Task.call 116 [V.d (D.l b (ws x)), V.d (D.l c (ws y)), V.d (D.i .i64 n)] []) = some (.d (.l (nb (scaledN x y n)) (ws (scaledN x y n))), []) := by
 rw [f37]
 unfold scaledN
 by_cases h : n < 0
 ·have hw : IntKind.i64.wrap (0 - n) = ((-n).toNat : Int) := by rw [wrap_i64] <;> omega
  have ht := ten_ws (-n).toNat (by omega)
  have hm := mul_ws b (nb (10 ^ (-n).toNat)) x (10 ^ (-n).toNat) hx.mid.fits (mid_lt (pow10_lt (by omega))).fits
  have hxm := hx.mul (k := (-n).toNat) (by omega)
  have hc := near_ws (nb (x * 10 ^ (-n).toNat)) c (x * 10 ^ (-n).toNat) y hxm.fits hxm.fits1 hy.mid.fits2 hy0
  simp only [interp_brB, decide_eq_true h, if_true, hw, interp_call', ht, hm, hc, Option.bind_some, List.isEmpty_nil, interp_ift', asD_d, asL_l, interp_ret, if_pos h]
 ·have hw : n = (n.toNat : Int) := by omega
  have ht := ten_ws n.toNat (by omega)
  rw [← hw] at ht
  have hm := mul_ws c (nb (10 ^ n.toNat)) y (10 ^ n.toNat) hy.mid.fits (mid_lt (pow10_lt (by omega))).fits
  have hc := near_ws b (nb (y * 10 ^ n.toNat)) x (y * 10 ^ n.toNat) hx.mid.fits hx.mid.fits1 (hy.mul (k := n.toNat) (by omega)).fits2 (Nat.mul_pos hy0 (Nat.pow_pos (by decide)))
  simp only [interp_brB, decide_eq_false h, Bool.false_eq_true, if_false, interp_call', ht, hm, hc, Option.bind_some, List.isEmpty_nil, interp_ift', if_true, asD_d, asL_l, interp_ret, if_neg h]
theorem scaledN_fits (x y : Nat) (hx : Sml x) (hy0 : 0 < y) (n : Int) (h1 : -700 ≤ n) : Fits (scaledN x y n) := by
 have key : ∀ p q, 0 < q → Mid p → Fits (nearN p q) := by
  intro p q hq hp
  refine hp.fits1.le (nearN_le hq ?_)
  rw [Nat.add_mul]
  exact Nat.le_trans (Nat.le_mul_of_pos_right _ hq) (Nat.le_add_right _ _)
 unfold scaledN
 split
 ·exact key _ _ hy0 (hx.mul (by omega))
 ·exact key _ _ (Nat.mul_pos hy0 (Nat.pow_pos (by decide))) hx.mid
theorem fmt_call (m : Nat) (hm : m < 18446744073709551616) : fmtUintExt [V.d (D.i .u64 (m : Int)), V.d (D.i .i64 10)] [] = some (.d (.s (decN m)), []) := by
 have h0 : (m : Int) < 18446744073709551616 := by omega
 simp [fmtUintExt, h0]
theorem tens_ws (b : Bool) (x : Nat) (hx : Fits x) : rk Tryz.prog pol (Task.call 115 [V.d (D.l b (ws x))] []) = some (.d (.s (tensN x)), []) := by
 rw [f36]
 have h1 := low_ws b x hx
 have h2 : rk Tryz.prog pol (Task.call 167 [V.d (D.i .u64 ((x % 18446744073709551616 : Nat) : Int)), V.d (D.i .i64 10)] []) = some (.d (.s (tensN x)), []) := by
  rw [ext_call (g := fmtUintExt) rfl]
  exact fmt_call _ (Nat.mod_lt _ (by decide))
 simp only [interp_call', h1, h2, Option.bind_some, List.isEmpty_nil, interp_ift', if_true, asD_d, asS_s, interp_asI, interp_ret]
theorem and_mod {b k : Nat} (hb : b < 18446744073709551616) (c : Int) (hc : (BitVec.ofInt 64 c).toNat = 2 ^ k - 1) : (BitVec.ofInt 64 (b : Int) &&& BitVec.ofInt 64 c).toNat = b % 2 ^ k := by
 rw [BitVec.toNat_and, hc, Nat.and_two_pow_sub_one_eq_mod, BitVec.ofInt_natCast, BitVec.toNat_ofNat, Nat.mod_eq_of_lt (show b < 2 ^ 64 from hb)]
theorem ratio_ws (b : Nat) (hb : b < 2 ^ 63) (hk : b / 2 ^ 52 < 2047) : rk Tryz.prog pol (Task.call 112 [V.d (D.i .u64 (b : Int))] []) = some (.t [.d (.l (nb (ratN b).1) (ws (ratN b).1)), .d (.l (nb (ratN b).2) (ws (ratN b).2))], []) := by
 have h1 : (b : Int).fdiv 4503599627370496 = ((b / 2 ^ 52 : Nat) : Int) := fdiv_nat b 4503599627370496
 have h2 : (BitVec.ofInt IntKind.u64.bits ((b / 2 ^ 52 : Nat) : Int) &&& BitVec.ofInt IntKind.u64.bits 2047).toNat = b / 2 ^ 52 := by
  have := and_mod (b := b / 2 ^ 52) (k := 11) (by omega) 2047 (by decide)
  rw [Nat.mod_eq_of_lt (by omega)] at this
  exact this
 have h3 : (BitVec.ofInt IntKind.u64.bits (b : Int) &&& BitVec.ofInt IntKind.u64.bits 4503599627370495).toNat = b % 2 ^ 52 := and_mod (b := b) (k := 52) (by omega) 4503599627370495 (by decide)
 have hm : b % 2 ^ 52 < 2 ^ 52 := Nat.mod_lt _ (by decide)
 have w1 : IntKind.u64.wrap ((b / 2 ^ 52 : Nat) : Int) = ((b / 2 ^ 52 : Nat) : Int) := by rw [u64_wrap]; omega
 have w2 : IntKind.i64.wrap ((b / 2 ^ 52 : Nat) : Int) = ((b / 2 ^ 52 : Nat) : Int) := by rw [wrap_i64] <;> omega
 have w3 : IntKind.u64.wrap ((b % 2 ^ 52 : Nat) : Int) = ((b % 2 ^ 52 : Nat) : Int) := by rw [u64_wrap]; omega
 have w4 : (BitVec.ofInt IntKind.u64.bits ((b % 2 ^ 52 : Nat) : Int) ||| BitVec.ofInt IntKind.u64.bits 4503599627370496).toNat = b % 2 ^ 52 + 2 ^ 52 := by
  have := or_nat (a := b % 2 ^ 52) (b := 4503599627370496) (by omega) (by decide)
  have e := or_add (c := b % 2 ^ 52) (a := 1) (k := 52) hm
  rw [Nat.one_mul] at e
  exact Eq.trans this e
 have w5 : IntKind.u64.wrap ((b % 2 ^ 52 + 2 ^ 52 : Nat) : Int) = ((b % 2 ^ 52 + 2 ^ 52 : Nat) : Int) := by rw [u64_wrap]; omega
 have w6 : IntKind.i64.wrap (((b / 2 ^ 52 : Nat) : Int) - 1) = ((b / 2 ^ 52 : Nat) : Int) - 1 := by rw [wrap_i64] <;> omega
 have w7 : IntKind.i64.wrap (-1074 + (((b / 2 ^ 52 : Nat) : Int) - 1)) = -1074 + (((b / 2 ^ 52 : Nat) : Int) - 1) := by rw [wrap_i64] <;> omega
 have main : ∀ (q : Nat) (e : Int), q < 2 ^ 53 → -1074 ≤ e → e ≤ 971 → rk Tryz.prog pol (Task.at_ 112 0 [true, true, true] (sv 34 [(4, V.d (D.i IntKind.u64 (q : Int))), (5, V.d (D.i IntKind.i64 e))]) [] []) =
   some (.t [.d (.l (nb (if e < 0 then (q, 2 ^ (-e).toNat) else (q * 2 ^ e.toNat, 1)).1) (ws (if e < 0 then (q, 2 ^ (-e).toNat) else (q * 2 ^ e.toNat, 1)).1)), .d (.l (nb (if e < 0 then (q, 2 ^ (-e).toNat) else (q * 2 ^ e.toNat, 1)).2) (ws (if e < 0 then (q, 2 ^ (-e).toNat) else (q * 2 ^ e.toNat, 1)).2))], []) := by
  intro q e hq he1 he2
  rw [f33_at15]
  have hof := of_ws q (by omega)
  by_cases he : e < 0
  ·have hw0 : IntKind.i64.wrap (0 - e) = ((-e).toNat : Int) := by rw [wrap_i64] <;> omega
   have hs := shl_ws (nb 1) 1 (-e).toNat fits_one (by omega)
   rw [Nat.one_mul] at hs
   simp only [interp_brB, decide_eq_true he, if_true, hw0, interp_call', hof, of_one, hs, Option.bind_some, List.isEmpty_nil, interp_ift', asD_d, asL_l, interp_ret, if_pos he]
  ·have hw0 : e = (e.toNat : Int) := by omega
   have hs := shl_ws (nb q) q e.toNat (mid_u64 (by omega)).fits (by omega)
   rw [← hw0] at hs
   simp only [interp_brB, decide_eq_false he, Bool.false_eq_true, if_false, interp_call', hof, of_one, hs, Option.bind_some, List.isEmpty_nil, interp_ift', if_true, asD_d, asL_l, interp_ret, if_neg he]
 rw [f33, h1, h2, h3, w1, w2, w3, w4, w5, w6, w7]
 unfold ratN
 by_cases h0 : b / 2 ^ 52 = 0
 ·have : ¬ ((b / 2 ^ 52 : Nat) : Int) > 0 := by omega
  have hmn := main (b % 2 ^ 52) (-1074) (by omega) (by decide) (by decide)
  rw [interp_brB, decide_eq_false this, if_neg (by decide), interp_call_ret, hmn]
  simp only [if_pos h0]
 ·have : ((b / 2 ^ 52 : Nat) : Int) > 0 := by omega
  have hmn := main (b % 2 ^ 52 + 2 ^ 52) (-1074 + (((b / 2 ^ 52 : Nat) : Int) - 1)) (by omega) (by omega) (by omega)
  rw [interp_brB, decide_eq_true this, if_pos rfl, interp_call_ret, hmn]
  simp only [if_neg h0]
theorem ratN_sml (b : Nat) (hb : b < 2 ^ 63) (hk : b / 2 ^ 52 < 2047) : Sml (ratN b).1 ∧ Sml (ratN b).2 ∧ 0 < (ratN b).2 := by
 have hm : b % 2 ^ 52 < 2 ^ 52 := Nat.mod_lt _ (by decide)
 have main : ∀ (q : Nat) (e : Int), q < 2 ^ 53 → -1074 ≤ e → e ≤ 971 → Sml (if e < 0 then (q, 2 ^ (-e).toNat) else (q * 2 ^ e.toNat, 1)).1 ∧ Sml (if e < 0 then (q, 2 ^ (-e).toNat) else (q * 2 ^ e.toNat, 1)).2 ∧ 0 < (if e < 0 then (q, 2 ^ (-e).toNat) else (q * 2 ^ e.toNat, 1)).2 := by
  intro q e hq he1 he2
  split
  ·exact ⟨Nat.lt_of_lt_of_le hq (Nat.pow_le_pow_right (by decide) (by decide)), Nat.pow_lt_pow_right (by decide) (by omega), Nat.pow_pos (by decide)⟩
  ·refine ⟨?_, Nat.one_lt_two_pow (by decide), Nat.one_pos⟩
   have : q * 2 ^ e.toNat < 2 ^ 53 * 2 ^ e.toNat := Nat.mul_lt_mul_of_pos_right hq (Nat.pow_pos (by decide))
   rw [← Nat.pow_add] at this
   exact Nat.lt_of_lt_of_le this (Nat.pow_le_pow_right (by decide) (by omega))
 unfold ratN
 by_cases h0 : b / 2 ^ 52 = 0
 ·simp only [if_pos h0]
  exact main _ _ (by omega) (by decide) (by decide)
 ·simp only [if_neg h0]
  exact main _ _ (by omega) (by omega) (by omega)
def tellN (out : List UInt8) (x y : Nat) (n : Int) : List UInt8 :=
 if 17 < (tensN (scaledN x y (n - 16))).length then putN out (tensN (scaledN x y (n + 1 - 16))) (n + 1) else putN out (tensN (scaledN x y (n - 16))) n
theorem tens_len (q : Nat) : (tensN q).length ≤ 20 ∧ 1 ≤ (tensN q).length := by
 have h1 := decN_len 20 (q % 18446744073709551616) (by decide) (Nat.lt_trans (Nat.mod_lt _ (by decide)) (by decide))
 have h2 : tensN q ≠ [] := decN_ne _
 exact ⟨h1, by cases h : tensN q with
  | nil => exact absurd h h2
  | cons c r => simp⟩
theorem put_run (out d : List UInt8) (n : Int) (ho : out.length ≤ 1000) (hd : d.length ≤ 20 ∧ 1 ≤ d.length) (h1 : -1000000 < n) (h2 : n < 1000000) :
  rk Tryz.prog pol (Task.at_ 50 0 [true, true, true, true, true, true, true, true, true, true] (sv 76 [(3, V.d (D.s out)), (6, V.d (D.i IntKind.i64 n)), (7, V.d (D.s d))]) [] []) = some (.d (.s (putN out d n)), []) := by
 rw [f15_at2047]
 have hle : ((0 : Int) ≤ 1 ∧ (1 : Int) ≤ ((d.length : Nat) : Int)) := ⟨by decide, by omega⟩
 have e : List.take (d.length - 1) (List.drop 1 d) = d.drop 1 := by
  rw [List.take_of_length_le]; simp
 have ht : rk Tryz.prog pol (Task.call 117 [V.d (D.s (d.drop 1)), V.d (D.s [48])] []) = some (.d (.s (trimRightB 48 (d.drop 1))), []) := by
  rw [ext_call (g := trimRightExt) rfl]
  have hh : (48 : UInt8).toNat < 128 ∧ (d.drop 1).length ≤ 1000000 := ⟨by decide, by rw [List.length_drop]; omega⟩
  simp only [trimRightExt, if_pos hh]
 have hit : rk Tryz.prog pol (Task.call 118 [V.d (D.i .i64 n)] []) = some (.d (.s (decI n)), []) := by
  rw [ext_call (g := itoaExt) rfl]
  have hh : -1000000 < n ∧ n < 1000000 := ⟨h1, h2⟩
  simp only [itoaExt, if_pos hh]
 have hdi := decI_len h1 h2
 have htr := trimR_len 48 (d.drop 1)
 rw [List.length_drop] at htr
 have hfin : ∀ r : List UInt8, r.length ≤ 20 → rk Tryz.prog pol (Task.at_ 50 0 [true, true, true, true, true, true, true, true, true, true, true, true] (sv 76 [(3, V.d (D.s out)), (6, V.d (D.i IntKind.i64 n)), (7, V.d (D.s d)), (8, V.d (D.s r))]) [] []) = some (.d (.s (out ++ d.take 1 ++ [46] ++ r ++ [101] ++ decI n)), []) := by
  intro r hr
  rw [f15_at8191]
  have l1 : out.length + (List.take 1 d).length < 4611686018427387904 := by simp; omega
  have l2 : (out ++ List.take 1 d).length + 1 < 4611686018427387904 := by simp; omega
  have l3 : (out ++ List.take 1 d ++ [46]).length + r.length < 4611686018427387904 := by simp; omega
  have l4 : (out ++ List.take 1 d ++ [46] ++ r).length + 1 < 4611686018427387904 := by simp; omega
  have l5 : (out ++ List.take 1 d ++ [46] ++ r ++ [101]).length + (decI n).length < 4611686018427387904 := by simp; omega
  simp only [interp_ift', decide_eq_true hle, if_true, decide_eq_true l1, decide_eq_true l2, decide_eq_true l3, decide_eq_true l4, decide_eq_true l5, interp_call', hit, Option.bind_some, List.isEmpty_nil, asD_d, asS_s, interp_ret, List.drop_zero]
 simp only [interp_ift', decide_eq_true hle, if_true, e, interp_call', ht, Option.bind_some, List.isEmpty_nil, asD_d, asS_s, interp_brB, beq_nil]
 unfold putN restN
 by_cases h0 : trimRightB 48 (d.drop 1) = []
 ·simp only [h0, decide_true, if_true, hfin [48] (by decide), Option.bind_some, interp_ret]
 ·simp only [h0, decide_false, Bool.false_eq_true, if_false, hfin _ (show (trimRightB 48 (d.drop 1)).length ≤ 20 by omega), Option.bind_some, interp_ret]
theorem show_loop (out : List UInt8) (x y : Nat) (hx : Sml x) (hy : Sml y) (hy0 : 0 < y) (ho : out.length ≤ 1000) (b c : Bool) (hlow : belowN x y (-400) = false) : ∀ k : Nat, k ≤ 800 →
  rk Tryz.prog pol (Task.at_ 50 0 [false, false, true, true, true, true, true, true, true] (sv 76 [(3, V.d (D.s out)), (4, V.d (D.l b (ws x))), (5, V.d (D.l c (ws y))), (6, V.d (D.i .i64 ((k : Int) - 400)))]) [] []) = some (.d (.s (tellN out x y (downN x y k))), []) := by
 have fin : ∀ n : Int, -400 ≤ n → n ≤ 400 → belowN x y n = false → rk Tryz.prog pol (Task.at_ 50 0 [false, false, true, true, true, true, true, true, true] (sv 76 [(3, V.d (D.s out)), (4, V.d (D.l b (ws x))), (5, V.d (D.l c (ws y))), (6, V.d (D.i .i64 n))]) [] []) = some (.d (.s (tellN out x y n)), []) := by
  intro n h1 h2 hb
  rw [f15_at639]
  have hbl := below_ws b c x y hx hy n (by omega) (by omega)
  rw [hb] at hbl
  have w1 : IntKind.i64.wrap (n - 17) = n - 17 := by rw [wrap_i64] <;> omega
  have w2 : IntKind.i64.wrap (n - 17 + 1) = n - 16 := by rw [wrap_i64] <;> omega
  have w3 : IntKind.i64.wrap (n + 1) = n + 1 := by rw [wrap_i64] <;> omega
  have w4 : IntKind.i64.wrap (n + 1 - 17) = n + 1 - 17 := by rw [wrap_i64] <;> omega
  have w5 : IntKind.i64.wrap (n + 1 - 17 + 1) = n + 1 - 16 := by rw [wrap_i64] <;> omega
  have s1 := scaled_ws b c x y hx hy hy0 (n - 16) (by omega) (by omega)
  have s2 := scaled_ws b c x y hx hy hy0 (n + 1 - 16) (by omega) (by omega)
  have t1 := tens_ws (nb (scaledN x y (n - 16))) (scaledN x y (n - 16)) (scaledN_fits x y hx hy0 _ (by omega))
  have t2 := tens_ws (nb (scaledN x y (n + 1 - 16))) (scaledN x y (n + 1 - 16)) (scaledN_fits x y hx hy0 _ (by omega))
  have p1 := put_run out (tensN (scaledN x y (n - 16))) n ho (tens_len _) (by omega) (by omega)
  have p2 := put_run out (tensN (scaledN x y (n + 1 - 16))) (n + 1) ho (tens_len _) (by omega) (by omega)
  unfold tellN
  simp only [interp_call', hbl, Option.bind_some, List.isEmpty_nil, interp_ift', if_true, asD_d, asB_b, interp_brB, Bool.false_eq_true, if_false, w1, w2, w3, w4, w5, s1, s2, t1, t2, asL_l, asS_s, p1, p2, interp_ret]
  by_cases h17 : 17 < (tensN (scaledN x y (n - 16))).length
  ·have : ((tensN (scaledN x y (n - 16))).length : Int) > 17 := by omega
   simp only [decide_eq_true this, if_true, if_pos h17]
  ·have : ¬ ((tensN (scaledN x y (n - 16))).length : Int) > 17 := by omega
   simp only [decide_eq_false this, Bool.false_eq_true, if_false, if_neg h17]
 intro k
 induction k with
 | zero =>
  intro _
  exact fin (-400) (by decide) (by decide) hlow
 | succ k ih =>
  intro hk
  have e : (((k + 1 : Nat) : Int) - 400) - 1 = (k : Int) - 400 := by omega
  cases hb : belowN x y (((k + 1 : Nat) : Int) - 400) with
  | false =>
   rw [fin _ (by omega) (by omega) hb]
   rw [downN, hb, if_neg (by decide)]
  | true =>
   rw [f15_at639]
   have hbl := below_ws b c x y hx hy (((k + 1 : Nat) : Int) - 400) (by omega) (by omega)
   rw [hb] at hbl
   have w1 : IntKind.i64.wrap ((((k + 1 : Nat) : Int) - 400) - 1) = (k : Int) - 400 := by rw [wrap_i64] <;> omega
   simp only [interp_call', hbl, Option.bind_some, List.isEmpty_nil, interp_ift', if_true, asD_d, asB_b, interp_brB, w1, ih (by omega), interp_ret]
   rw [downN, hb, if_pos rfl]
end Go.Dn.Dec
namespace Go.Dn.Dec
open Go.Proofs
set_option exponentiation.threshold 5000000
theorem and_mod' {b k : Nat} (hb : b < 18446744073709551616) (v : BitVec 64) (hc : v.toNat = 2 ^ k - 1) : (BitVec.ofInt 64 (b : Int) &&& v).toNat = b % 2 ^ k := by
 rw [BitVec.toNat_and, hc, Nat.and_two_pow_sub_one_eq_mod, BitVec.ofInt_natCast, BitVec.toNat_ofNat, Nat.mod_eq_of_lt (show b < 2 ^ 64 from hb)]
theorem and_top {b : Nat} (hb : b < 18446744073709551616) : (BitVec.ofInt IntKind.u64.bits (b : Int) &&& BitVec.ofInt IntKind.u64.bits 9223372036854775808).toNat = if 2 ^ 63 ≤ b then 2 ^ 63 else 0 := by
 show (BitVec.ofInt 64 (b : Int) &&& BitVec.ofInt 64 9223372036854775808).toNat = _
 have e : (BitVec.ofInt 64 9223372036854775808).toNat = 2 ^ 63 := by decide
 rw [BitVec.toNat_and, e, BitVec.ofInt_natCast, BitVec.toNat_ofNat, Nat.mod_eq_of_lt (show b < 2 ^ 64 from hb)]
 apply Nat.eq_of_testBit_eq
 intro i
 rw [Nat.testBit_and, Nat.testBit_two_pow]
 by_cases hi : 63 = i
 ·subst hi
  rw [Nat.testBit_eq_decide_div_mod_eq]
  by_cases h : 2 ^ 63 ≤ b
  ·have : b / 2 ^ 63 % 2 = 1 := by omega
   rw [if_pos h, this]; decide
  ·have : b / 2 ^ 63 % 2 = 0 := by omega
   rw [if_neg h, this]; simp
 ·by_cases h : 2 ^ 63 ≤ b
  ·rw [if_pos h, Nat.testBit_two_pow]; simp [hi]
  ·rw [if_neg h]; simp [hi]
theorem ratN_pos (b : Nat) (h : b ≠ 0) : 0 < (ratN b).1 := by
 have main : ∀ (q : Nat) (e : Int), 0 < q → 0 < (if e < 0 then (q, 2 ^ (-e).toNat) else (q * 2 ^ e.toNat, 1)).1 := by
  intro q e hq
  split
  ·exact hq
  ·exact Nat.mul_pos hq (Nat.pow_pos (by decide))
 unfold ratN
 by_cases h0 : b / 2 ^ 52 = 0
 ·simp only [if_pos h0]
  exact main _ _ (by omega)
 ·simp only [if_neg h0]
  exact main _ _ (by omega)
theorem low400 {x y : Nat} (hx : 0 < x) (hy : Sml y) : belowN x y (-400) = false := by
 have h1 : (2 : Nat) ^ 1100 ≤ 2 ^ (3 * 400) := Nat.pow_le_pow_right (by decide) (by decide)
 have h2 : (2 : Nat) ^ (3 * 400) = 8 ^ 400 := by rw [Nat.pow_mul]
 have h3 : (8 : Nat) ^ 400 ≤ 10 ^ 400 := Nat.pow_le_pow_left (by decide) 400
 have h4 : 10 ^ 400 ≤ x * 10 ^ 400 := Nat.le_mul_of_pos_left _ hx
 have : y < 2 ^ 1100 := hy
 have h5 : y < 10 ^ 400 := by omega
 have h6 : (-(-400 : Int)).toNat = 400 := by decide
 have h7 : (-400 : Int) < 0 := by decide
 unfold belowN
 rw [if_pos h7, h6]
 exact decide_eq_false (by omega)
theorem Sml.blen {n : Nat} (h : Sml n) : blen n ≤ 1100 := (blen_le_iff _ _).2 h
theorem tdiv_bounds (a : Int) (h1 : -1100 ≤ a) (h2 : a ≤ 1100) : -340 ≤ (a * 30103).tdiv 100000 ∧ (a * 30103).tdiv 100000 ≤ 340 := by
 rcases Int.le_total 0 a with h | h
 ·rw [Int.tdiv_eq_ediv_of_nonneg (by omega)]; omega
 ·have e : a * 30103 = -((-a) * 30103) := by omega
  rw [e, Int.neg_tdiv, Int.tdiv_eq_ediv_of_nonneg (by omega)]; omega
theorem show_s (b : Nat) (hb : b < 18446744073709551616) : rk Tryz.prog pol (Task.call 50 [V.d (D.i .u64 (b : Int))] []) = some (.d (.s (showB b)), []) := by
 have h1 : (b : Int).fdiv 4503599627370496 = ((b / 2 ^ 52 : Nat) : Int) := fdiv_nat b 4503599627370496
 have h2 : (BitVec.ofInt IntKind.u64.bits ((b / 2 ^ 52 : Nat) : Int) &&& BitVec.ofInt IntKind.u64.bits 2047).toNat = b / 2 ^ 52 % 2048 :=
  and_mod (b := b / 2 ^ 52) (k := 11) (by omega) 2047 (by decide)
 have w1 : IntKind.u64.wrap ((b / 2 ^ 52 % 2048 : Nat) : Int) = ((b / 2 ^ 52 % 2048 : Nat) : Int) := by rw [u64_wrap]; omega
 have h3 : (BitVec.ofInt IntKind.u64.bits (b : Int) &&& ~~~BitVec.ofInt IntKind.u64.bits 9223372036854775808).toNat = b % 2 ^ 63 := and_mod' hb _ (by decide)
 have w3 : IntKind.u64.wrap ((b % 2 ^ 63 : Nat) : Int) = ((b % 2 ^ 63 : Nat) : Int) := by rw [u64_wrap]; omega
 have main : b / 2 ^ 52 % 2048 ≠ 2047 → ∀ out : List UInt8, out.length ≤ 1000 → rk Tryz.prog pol (Task.at_ 50 0 [true, true, true, true] (sv 76 [(0, V.d (D.i IntKind.u64 ((b % 2 ^ 63 : Nat) : Int))), (3, V.d (D.s out))]) [] []) =
   some (.d (.s (if b % 2 ^ 63 = 0 then out ++ [48, 46, 48, 101, 48] else showN out (ratN (b % 2 ^ 63)).1 (ratN (b % 2 ^ 63)).2)), []) := by
  intro hk out ho
  rw [f15_at31]
  by_cases h0 : b % 2 ^ 63 = 0
  ·have hl : out.length + 5 < 4611686018427387904 := by omega
   rw [h0]
   simp only [interp_brB, Int.natCast_zero, beq_self_eq_true, if_true, interp_ift', decide_eq_true hl, interp_ret]
  ·have hk2 : b % 2 ^ 63 / 2 ^ 52 < 2047 := by omega
   have hr := ratio_ws (b % 2 ^ 63) (by omega) hk2
   obtain ⟨sx, sy, y0⟩ := ratN_sml (b % 2 ^ 63) (by omega) hk2
   have x0 := ratN_pos (b % 2 ^ 63) h0
   have hne : ((((b % 2 ^ 63 : Nat) : Int)) == 0) = false := beq_eq_false_iff_ne.2 (by omega)
   generalize (b % 2 ^ 63 : Nat) = c at h0 hr sx sy y0 x0 hne ⊢
   have b1 := bits_ws (nb (ratN c).1) (ratN c).1 sx.mid.fits
   have b2 := bits_ws (nb (ratN c).2) (ratN c).2 sy.mid.fits
   have l1 := sx.blen
   have l2 := sy.blen
   have hd := tdiv_bounds ((blen (ratN c).1 : Int) - blen (ratN c).2) (by omega) (by omega)
   have hL := show_loop out (ratN c).1 (ratN c).2 sx sy y0 ho (nb (ratN c).1) (nb (ratN c).2) (low400 x0 sy)
   rw [if_neg h0]
   unfold showN
   generalize (ratN c).1 = x at *
   generalize (ratN c).2 = y at *
   have v1 : IntKind.i64.wrap ((blen x : Int) - blen y) = (blen x : Int) - blen y := by rw [wrap_i64] <;> omega
   have v2 : IntKind.i64.wrap (((blen x : Int) - blen y) * 30103) = ((blen x : Int) - blen y) * 30103 := by rw [wrap_i64] <;> omega
   obtain ⟨z, hz⟩ : ∃ z, ((((blen x : Int) - blen y) * 30103).tdiv 100000) = z := ⟨_, rfl⟩
   rw [hz] at hd ⊢
   have v3 : IntKind.i64.wrap z = z := by rw [wrap_i64] <;> omega
   have v4 : IntKind.i64.wrap (z + 1) = (((z + 401).toNat : Nat) : Int) - 400 := by rw [wrap_i64] <;> omega
   have hL' := hL (z + 401).toNat (by omega)
   simp only [interp_brB, hne, Bool.false_eq_true, if_false, interp_call', hr, Option.bind_some, List.isEmpty_nil, interp_ift', if_true, unT_t, len2, List.getD_cons_zero, List.getD_cons_succ, asD_d, asL_l, b1, b2, interp_asI, v1, v2, hz, v3, v4, hL', interp_ret]
   rfl
 rw [f15, h1, h2, w1, h3, w3, and_top hb]
 unfold showB
 by_cases hk : b / 2 ^ 52 % 2048 = 2047
 ·rw [hk]
  simp
 ·have hne : ((((b / 2 ^ 52 % 2048 : Nat) : Int)) == 2047) = false := beq_eq_false_iff_ne.2 (by omega)
  rw [if_neg hk, interp_brB, hne, if_neg (by decide)]
  by_cases ht : 2 ^ 63 ≤ b
  ·have hm := main hk [45] (by decide)
   have hw : ((IntKind.u64.wrap ((2 ^ 63 : Nat) : Int)) != 0) = true := by decide
   simp only [if_pos ht, hw, interp_brB, if_true, interp_call_ret, hm]
  ·have hm := main hk [] (by decide)
   have e : b % 2 ^ 63 = b := Nat.mod_eq_of_lt (by omega)
   have hw : ((IntKind.u64.wrap ((0 : Nat) : Int)) != 0) = false := by decide
   rw [e] at hm
   simp only [if_neg ht, hw, interp_brB, Bool.false_eq_true, if_false, interp_call_ret, hm, e]
end Go.Dn.Dec
namespace Go.Dn.Dec
def cutYT : List (Nat × List (Nat × List Nat)) :=
 [(25, [(175, [0, 1, 5, 6, 7, 8, 9]), (14639, [0, 1, 5, 6, 7, 8, 9, 10])]),
 (26, [(43, [0, 3, 4, 5]), (3659, [0, 3, 4, 5, 6]), (127, [0, 3, 7, 8])]),
 (53, [(43, [0, 2, 3, 9, 10, 11]), (395, [0, 2, 3, 9, 10, 11, 26]), (3659, [0, 2, 3, 9, 10, 11, 12]), (218699, [0, 2, 3, 9, 10, 11, 12, 83]), (7755, [0, 2, 3, 9, 10, 11, 12])]),
 (54, [(43, [0, 1, 5, 6, 7])]),
 (55, [(15, [0, 1, 2, 7]), (975, [0, 1, 2, 7, 33])]),
 (120, [(53, [0, 2, 6, 7, 8]), (1013, [0, 2, 6, 7, 29])]),
 (12, [(43, [1, 3, 13, 14, 15]), (87, [1, 3, 26, 27, 28]), (175, [3, 41, 42, 43])]),
 (13, [(43, [1, 3, 4]), (87, [1, 3, 5]), (175, [1, 3, 6])]),
 (15, [(13, [2, 3, 32]), (43, [2, 3, 5]), (87, [2, 3, 6]), (175, [2, 3, 7])]),
 (22, [(10741, [1, 3]), (352245, [1, 4, 5]), (13197301, [1, 4, 5]), (87, [1, 6, 7]), (3223, [1, 6, 7])]),
 (23, [(175, [3, 4, 5])]),
 (27, [(5, [0, 6, 7, 8])]),
 (29, [(11003, [0, 41, 42, 43]), (2043, [0, 3, 11, 54]), (44027, [0, 70, 71, 72]), (61435, [0, 3]), (716795, [0, 104, 105, 106])]),
 (31, [(127, [1, 4]), (1407, [1, 4, 5]), (117119, [1, 4, 5]), (2815, [1, 4, 6]), (5631, [1, 4, 7])]),
 (36, [(13, [2, 3, 68]), (43, [2, 3, 5]), (87, [2, 3, 6]), (7319, [2, 3, 6, 138])]),
 (52, [(43, [3, 6, 7, 8])]),
 (58, [(15, [0])]),
 (59, [(15, [1, 3]), (31, [1, 3])]),
 (60, [(15, [0, 3]), (63, [0])]),
 (61, [(15, [1, 3]), (31, [1, 3])]),
 (62, [(15, [1, 3]), (63, [3])]),
 (69, [(13, [2, 3, 40]), (43, [2, 3, 5])]),
 (70, [(43, [0, 1, 5]), (3659, [0, 1, 5, 74])]),
 (32, [(43, [0, 1, 12, 13])]),
 (33, [(43, [0, 1, 12, 13])]),
 (34, [(43, [1, 2, 15, 16, 17])]),
 (64, [(43, [1, 2, 15, 16, 17])]),
 (66, [(43, [0, 1, 12, 13])]),
 (67, [(43, [1, 2, 15, 16, 17])]),
 (124, [(43, [3, 6, 7, 8])]),
 (125, [(43, [0, 3, 4]), (1611, [0, 3, 4])]),
 (126, [(43, [1, 2, 15, 16, 17])]),
 (3, [(27, [0, 1, 16])])]
def cutY (k : Nat) (p : List Bool) : Option (List Nat) := (cutYT.lookup k).bind fun l => l.lookup (p.foldl (fun n b => 2 * n + b.toNat) 1)
def appYT : List (Nat × Nat × Nat × Nat) := [(26, 8, 4, 3), (25, 16, 4, 3), (11, 3, 4, 0), (56, 2, 6, 3)]
def appY (k r i : Nat) : Nat := ((appYT.find? fun x => x.1 == k && x.2.1 == r && x.2.2.1 == i).map (·.2.2.2)).getD 2
def flgY (k r _ : Nat) : Fl := match k, r with
 | 26, 1 => [(9, 3)]
 | 25, 3 => [(11, 5)]
 | 12, 1 => [(1, 21000001), (73, 2000000)]
 | 56, 2 => [(5, 1000000)]
 | _, _ => []
def showExtY (args : List V) (S : List Ob) : Option Out :=
 match args, S with
 | [.d (.i .u64 n)], [] => if 0 ≤ n ∧ n < 18446744073709551616 then some (.d (.s (showB n.toNat)), []) else none
 | _, _ => none
def tenExtY (args : List V) (S : List Ob) : Option Out :=
 match args, S with
 | [.d (.i .i64 n)], [] => if -9223372036854775808 ≤ n ∧ n ≤ 9223372036854775807 then some (.d (.s (decI n)), []) else none
 | _, _ => none
def extY (k : Nat) : Option (List V → List Ob → Option Out) :=
 match k with
 | 122 => some copyExt
 | 30 => some strExt
 | 49 => some fmtIntExt
 | 51 => some joinExt
 | 50 => some showExtY
 | 48 => some showExtY
 | 47 => some tenExtY
 | k => ext k
def polY : Pol := { cut := cutY, app := appY, flg := flgY, ext := extY, fresh := fun k => k == 10 }
end Go.Dn.Dec
namespace Go.Dn.Dec
open Go.Proofs
def cutWT : List (Nat × List (Nat × List Nat)) :=
 [(3, [(27, [0, 1, 16])])]
def cutW (k : Nat) (p : List Bool) : Option (List Nat) := (cutWT.lookup k).bind fun l => l.lookup (p.foldl (fun n b => 2 * n + b.toNat) 1)
def appWT : List (Nat × Nat × Nat × Nat) := [(7, 5, 6, 1)]
def appW (k r i : Nat) : Nat := ((appWT.find? fun x => x.1 == k && x.2.1 == r && x.2.2.1 == i).map (·.2.2.2)).getD 2
def isTok (k : Nat) : Bool := k == 18 || k == 19 || k == 20 || k == 21
noncomputable def extW (k : Nat) : Option (List V → List Ob → Option Out) :=
 if k < 9 then none else if isTok k = true then some (fun args S => run Tryz.prog pol (.call k args S)) else some (upExt Tryz.prog polY k)
noncomputable def polW : Pol := { cut := cutW, app := appW, flg := fun _ _ _ => [], ext := extW, fresh := fun k => k == 10 }
end Go.Dn.Dec
namespace Go.Dn.Dec
open Go.Proofs
theorem y3 (b : Bool) (l : List D) (c : Bool) (m : List D) : rk Tryz.prog polW (.call 3 [vl b l, vl c m] []) = interp (rk Tryz.prog polW) (cV (.call 9 [] []) fun a => aB a fun e => brB (!e) (.ret (vb false, [])) (brB (decide ((l.length : Int) > 150)) (.call (.at_ 3 0 [true, false, true, true] (sv 58 [(0, vl b l), (1, vl c m), (16, vb true)]) [] []) .ret) (.call (.at_ 3 0 [true, false, true, true] (sv 58 [(0, vl b l), (1, vl c m), (16, vb (decide ((m.length : Int) > 150)))]) [] []) .ret))) :=
 rk_of (by kernel_rfl)
theorem w3_at27 (b_0 : Bool) (l_1 : List D) (b_2 : Bool) (l_3 : List D) (b_4 : Bool) : rk Tryz.prog polW (.at_ 3 0 [true, false, true, true] (sv 58 [(0, vl b_0 l_1), (1, vl b_2 l_3), (16, vb b_4)]) [] []) = interp (rk Tryz.prog polW) (brB b_4 (.ret (vb true, [])) (.call (.call 10 [vl b_0 l_1] []) fun o_0 => asP o_0 fun l_1 => c1 (.call 11 [.p 0 0] [.cells l_1 []]) l_1.length [] fun o_2 l_5 => aL o_2 fun b_8 l_9 => .call (.call 10 [vl b_2 l_3] []) fun o_10 => asP o_10 fun l_11 => c2 (.call 11 [.p 1 0] [.cells l_11 [], .cells l_5 []]) l_11.length [] l_5.length [] fun o_12 l_15 l_19 => aL o_12 fun b_22 l_23 => ob (getI l_9 0) fun d_24 => ift (d_24.width == 3) (ob l_9[0]? fun d_25 => ift (decide (3 ≤ d_25.width)) (cV (.call 12 [.d (.g [gD 3 0 d_25 0, gD 3 0 d_25 1, gD 3 0 d_25 2])] []) fun o_26 => aS o_26 fun l_28 => ob (getI l_9 0) fun d_29 => ift (d_29.width == 3) (ob l_9[0]? fun d_30 => ift (decide (3 ≤ d_30.width)) (cV (.call 13 [.d (.g [gD 3 0 d_30 0, gD 3 0 d_30 1, gD 3 0 d_30 2])] []) fun o_31 => aS o_31 fun l_33 => brB (l_28 == l_33) (ob (getI l_9 0) fun d_34 => ift (d_34.width == 3) (ob l_9[0]? fun d_35 => ift (decide (3 ≤ d_35.width)) (ob (getI l_23 0) fun d_36 => ift (d_36.width == 3) (ob l_23[0]? fun d_37 => ift (decide (3 ≤ d_37.width)) (cV (.call 14 [.d (.g [gD 3 0 d_35 0, gD 3 0 d_35 1, gD 3 0 d_35 2]), .d (.g [gD 3 0 d_37 0, gD 3 0 d_37 1, gD 3 0 d_37 2])] []) fun o_38 => aB o_38 fun b_40 => ob (getI l_9 0) fun d_41 => ift (d_41.width == 3) (ob l_9[0]? fun d_42 => ift (decide (3 ≤ d_42.width)) (ob (getI l_23 0) fun d_43 => ift (d_43.width == 3) (ob l_23[0]? fun d_44 => ift (decide (3 ≤ d_44.width)) (cV (.call 15 [.d (.g [gD 3 0 d_42 0, gD 3 0 d_42 1, gD 3 0 d_42 2]), .d (.g [gD 3 0 d_44 0, gD 3 0 d_44 1, gD 3 0 d_44 2])] []) fun o_45 => aB o_45 fun b_47 => brB (b_40 == b_47) (ob (getI l_9 0) fun d_48 => ift (d_48.width == 3) (ob l_9[0]? fun d_49 => ift (decide (3 ≤ d_49.width)) (ob (getI l_9 0) fun d_50 => ift (d_50.width == 3) (ob l_9[0]? fun d_51 => ift (decide (3 ≤ d_51.width)) (cV (.call 14 [.d (.g [gD 3 0 d_49 0, gD 3 0 d_49 1, gD 3 0 d_49 2]), .d (.g [gD 3 0 d_51 0, gD 3 0 d_51 1, gD 3 0 d_51 2])] []) fun o_52 => aB o_52 fun b_54 => .ret (vb b_54, [])))))) (.ret (vb false, []))))))))))) .fail)))))) :=
 rk_of (by kernel_rfl)
end Go.Dn.Dec
namespace Go.Dn.Dec
open Go.Proofs
theorem y56 (d : List V) (c : V) (b : Bool) (l : List D) (s : List UInt8) : rk Tryz.prog polY (.call 56 [.p 1 0, vs s] [.cells [c, vl b l] [(1, 21000001), (73, 2000000)], .cells d []]) = interp (rk Tryz.prog polY) (c2 (.call 122 [.p 1 0] [.cells [c, vl b l] [(1, 21000001), (73, 2000000)], .cells d []]) 2 [(1, 21000001), (73, 2000000)] d.length [] fun a e f => unT a fun g => ift (g.length == 0) (ob e[1]? fun h => asD ((sv 19 [(0, .p 1 0), (1, vs s), (4, vi 0), (5, V.nifc), (6, .p 1 0), (7, .t []), (8, .p 1 0), (9, .p 1 0), (10, .p 1 0), (11, .p 1 1), (12, h), (13, vs s)]).getD 12 V.u) fun j => asL j fun k m => ift (headOk 1 m) (ift (headOk 1 (ofBytes s)) (ift (k || oneAll (ofBytes s)) (ift (decide (m.length + (ofBytes s).length ≤ 4294967296)) (ift (decide (1 < e.length) && true) (.ret (.t [vi (s.length : Int), V.nifc], [.cells (e.set 1 (vl (k && (ofBytes s).isEmpty) (m ++ ofBytes s))) [(1, 21000001), (73, 2000000)], .cells f []])))))))) :=
 rk_of (by kernel_rfl)
theorem y27 (d c : List V) (b : Bool) (l : List D) : rk Tryz.prog polY (.call 27 [.p 1 0, vl b l] [.cells c [(1, 21000001), (73, 2000000)], .cells d []]) = interp (rk Tryz.prog polY) (.call (.at_ 27 2 [false, true] (sv 18 [(0, .p 1 0), (6, vl b l), (7, vi (l.length : Int)), (8, vi 0)]) [] [.cells c [(1, 21000001), (73, 2000000)], .cells d []]) .ret) :=
 rk_of (by kernel_rfl)
theorem y58 (d c : List V) (nm : List UInt8) (h : Bool) (n : Int) : rk Tryz.prog polY (.call 58 [.p 1 0, .d (.g [.s nm, .b h, .i .i64 n])] [.cells c [(1, 21000001), (73, 2000000)], .cells d []]) = interp (rk Tryz.prog polY) (c2 (.call 27 [.p 1 0, vl true [.s [32, 32], .s nm]] [.cells c [(1, 21000001), (73, 2000000)], .cells d []]) c.length [(1, 21000001), (73, 2000000)] d.length [] fun a e f => unT a fun j => ift (j.length == 0) (brB h (cV (.call 49 [vi n, vi 10] []) fun k => aS k fun m => c2 (.call 27 [.p 1 0, vl true [.s [32, 61, 32], .s m]] [.cells e [(1, 21000001), (73, 2000000)], .cells f []]) e.length [(1, 21000001), (73, 2000000)] f.length [] fun o q r => unT o fun t => ift (t.length == 0) (.call (.at_ 58 2 [true, true, true] (sv 20 [(0, .p 1 0)]) [] [.cells q [(1, 21000001), (73, 2000000)], .cells r []]) .ret)) (.call (.at_ 58 2 [true, true, true] (sv 20 [(0, .p 1 0)]) [] [.cells e [(1, 21000001), (73, 2000000)], .cells f []]) .ret))) :=
 rk_of (by kernel_rfl)
theorem y60 (d c : List V) (nm : List UInt8) (ow : Bool) (ret : List UInt8) (ab : Bool) (al : List D) (tb : Bool) (tl : List D) : rk Tryz.prog polY (.call 60 [.p 1 0, .d (.g [.s nm, .b ow, .s ret, .l ab al, .l tb tl])] [.cells c [(1, 21000001), (73, 2000000)], .cells d []]) = interp (rk Tryz.prog polY) (c2 (.call 27 [.p 1 0, vl true [.s [32, 32]]] [.cells c [(1, 21000001), (73, 2000000)], .cells d []]) c.length [(1, 21000001), (73, 2000000)] d.length [] fun a e f => unT a fun h => ift (h.length == 0) (brB ow (c2 (.call 27 [.p 1 0, vl true [.s [111, 110, 101, 119, 97, 121, 32]]] [.cells e [(1, 21000001), (73, 2000000)], .cells f []]) e.length [(1, 21000001), (73, 2000000)] f.length [] fun i j k => unT i fun m => ift (m.length == 0) (.call (.at_ 60 2 [true, true, true] (sv 35 [(0, .p 1 0), (3, .p 2 0)]) [] [.cells [vs nm, vb ow, vs ret, vl ab al, vl tb tl] [], .cells j [(1, 21000001), (73, 2000000)], .cells k []]) .ret)) (.call (.at_ 60 2 [true, true, true] (sv 35 [(0, .p 1 0), (3, .p 2 0)]) [] [.cells [vs nm, vb ow, vs ret, vl ab al, vl tb tl] [], .cells e [(1, 21000001), (73, 2000000)], .cells f []]) .ret))) :=
 rk_of (by kernel_rfl)
theorem y29 (d c : List V) (kd : Int) (nm ty : List UInt8) (ck cn cu : Int) (cs : List UInt8) (cb : Bool) (cl : List D) (fb : Bool) (fl : List D) (mb : Bool) (ml : List D) (ex : List UInt8) (tb : Bool) (tl : List D) : rk Tryz.prog polY (.call 29 [.p 1 0, .d (.g [.i .i64 kd, .s nm, .s ty, .i .i64 ck, .i .i64 cn, .i .u64 cu, .s cs, .l cb cl, .l fb fl, .l mb ml, .s ex, .l tb tl])] [.cells c [(1, 21000001), (73, 2000000)], .cells d []]) = interp (rk Tryz.prog polY) (brB (kd == 1) (c2 (.call 27 [.p 1 0, vl true [.s [116, 121, 112, 101, 100, 101, 102, 32], .s ty, .s [32], .s nm, .s [10]]] [.cells c [(1, 21000001), (73, 2000000)], .cells d []]) c.length [(1, 21000001), (73, 2000000)] d.length [] fun a e f => unT a fun h => ift (h.length == 0) (.ret (.t [], [.cells e [(1, 21000001), (73, 2000000)], .cells f []]))) (brB (kd == 3) (cV (.call 23 [.d (.g [.i .i64 ck, .i .i64 cn, .i .u64 cu, .s cs, .l cb cl])] []) fun j => aS j fun k => c2 (.call 27 [.p 1 0, vl true [.s [99, 111, 110, 115, 116, 32], .s ty, .s [32], .s nm, .s [32, 61, 32], .s k, .s [10]]] [.cells c [(1, 21000001), (73, 2000000)], .cells d []]) c.length [(1, 21000001), (73, 2000000)] d.length [] fun m n o => unT m fun q => ift (q.length == 0) (.ret (.t [], [.cells n [(1, 21000001), (73, 2000000)], .cells o []]))) (brB (kd == 2) (c2 (.call 27 [.p 1 0, vl true [.s [101, 110, 117, 109, 32], .s nm, .s [32, 123, 10]]] [.cells c [(1, 21000001), (73, 2000000)], .cells d []]) c.length [(1, 21000001), (73, 2000000)] d.length [] fun r zu v => unT r fun w => ift (w.length == 0) (.call (.at_ 29 2 [false, true, false, true, false, true, true, true, true, true, false, true, true] (sv 117 [(0, .p 1 0), (41, vl mb ml), (42, vi (ml.length : Int)), (43, vi 0)]) [] [.cells zu [(1, 21000001), (73, 2000000)], .cells v []]) .ret)) (brB (kd == 4) (.call (.at_ 29 2 [true, true, true, true, true, true, true, false, true, true] (sv 117 [(0, .p 1 0), (3, .p 2 0), (11, vi kd), (54, vb (kd == 4))]) [] [.cells [vi kd, vs nm, vs ty, vi ck, vi cn, vu cu, vs cs, vl cb cl, vl fb fl, vl mb ml, vs ex, vl tb tl] [], .cells c [(1, 21000001), (73, 2000000)], .cells d []]) .ret) (brB (kd == 5) (.call (.at_ 29 2 [true, true, true, true, true, true, true, false, true, true] (sv 117 [(0, .p 1 0), (3, .p 2 0), (11, vi kd), (54, vb (kd == 5))]) [] [.cells [vi kd, vs nm, vs ty, vi ck, vi cn, vu cu, vs cs, vl cb cl, vl fb fl, vl mb ml, vs ex, vl tb tl] [], .cells c [(1, 21000001), (73, 2000000)], .cells d []]) .ret) (.call (.at_ 29 2 [true, true, true, true, true, true, true, false, true, true] (sv 117 [(0, .p 1 0), (3, .p 2 0), (11, vi kd), (54, vb (kd == 6))]) [] [.cells [vi kd, vs nm, vs ty, vi ck, vi cn, vu cu, vs cs, vl cb cl, vl fb fl, vl mb ml, vs ex, vl tb tl] [], .cells c [(1, 21000001), (73, 2000000)], .cells d []]) .ret)))))) :=
 rk_of (by kernel_rfl)
theorem y12 (ib : Bool) (il : List D) (sb : Bool) (sl : List D) (db : Bool) (dl : List D) : rk Tryz.prog polY (.call 12 [.d (.g [.l ib il, .l sb sl, .l db dl])] []) = interp (rk Tryz.prog polY) (.call (.at_ 12 0 [false, true, false, true, true] (sv 55 [(1, .p 0 0), (3, .p 1 0), (13, vl ib il), (14, vi (il.length : Int)), (15, vi 0)]) [] [.cells [.d D.np, vl true []] [(1, 21000001), (73, 2000000)], .cells [vl ib il, vl sb sl, vl db dl] []]) .ret) :=
 rk_of (by kernel_rfl)
theorem y12a (ab : Bool) (al : List D) (n m : Int) (c : V) (b : Bool) (l : List D) (ib : Bool) (il : List D) (sb : Bool) (sl : List D) (db : Bool) (dl : List D) : rk Tryz.prog polY (.at_ 12 0 [false, true, false, true, true] (sv 55 [(1, .p 0 0), (3, .p 1 0), (13, vl ab al), (14, vi n), (15, vi m)]) [] [.cells [c, vl b l] [(1, 21000001), (73, 2000000)], .cells [vl ib il, vl sb sl, vl db dl] []]) = interp (rk Tryz.prog polY) (brB (decide (m < n)) (eC al m 1 0 fun a => asS a fun e => cV (.call 28 [vs e] []) fun f => aS f fun g => c2 (.call 27 [.p 1 0, vl true [.s [105, 110, 99, 108, 117, 100, 101, 32], .s g, .s [10]]] [.cells [c, vl b l] [(1, 21000001), (73, 2000000)], .cells [vl ib il, vl sb sl, vl db dl] []]) 2 [(1, 21000001), (73, 2000000)] 3 [] fun h j k => unT h fun o => ift (o.length == 0) (.call (.at_ 12 0 [false, true, false, true, true] (sv 55 [(1, .p 0 0), (3, .p 1 0), (13, vl ab al), (14, vi n), (15, vi (IntKind.i64.wrap (m + 1)))]) [] [.cells j [(1, 21000001), (73, 2000000)], .cells k []]) .ret)) (.call (.at_ 12 0 [false, true, false, true, true, true] (sv 55 [(1, .p 0 0), (3, .p 1 0), (26, vl sb sl), (27, vi (sl.length : Int)), (28, vi 0)]) [] [.cells [c, vl b l] [(1, 21000001), (73, 2000000)], .cells [vl ib il, vl sb sl, vl db dl] []]) .ret)) :=
 rk_of (by kernel_rfl)
theorem y12b (ab : Bool) (al : List D) (n m : Int) (c : V) (b : Bool) (l : List D) (ib : Bool) (il : List D) (sb : Bool) (sl : List D) (db : Bool) (dl : List D) : rk Tryz.prog polY (.at_ 12 0 [false, true, false, true, true, true] (sv 55 [(1, .p 0 0), (3, .p 1 0), (26, vl ab al), (27, vi n), (28, vi m)]) [] [.cells [c, vl b l] [(1, 21000001), (73, 2000000)], .cells [vl ib il, vl sb sl, vl db dl] []]) = interp (rk Tryz.prog polY) (brB (decide (m < n)) (eL al m 2 fun a => ift ([.d (gD 2 0 a 0), .d (gD 2 0 a 1)].all V.one) (asS (gD 2 0 a 0) fun e => asS (gD 2 0 a 1) fun f => c2 (.call 27 [.p 1 0, vl true [.s [110, 97, 109, 101, 115, 112, 97, 99, 101, 32], .s e, .s [32], .s f, .s [10]]] [.cells [c, vl b l] [(1, 21000001), (73, 2000000)], .cells [vl ib il, vl sb sl, vl db dl] []]) 2 [(1, 21000001), (73, 2000000)] 3 [] fun g h j => unT g fun k => ift (k.length == 0) (.call (.at_ 12 0 [false, true, false, true, true, true] (sv 55 [(1, .p 0 0), (3, .p 1 0), (26, vl ab al), (27, vi n), (28, vi (IntKind.i64.wrap (m + 1)))]) [] [.cells h [(1, 21000001), (73, 2000000)], .cells j []]) .ret))) (.call (.at_ 12 0 [false, true, false, true, true, true, true] (sv 55 [(3, .p 1 0), (41, vl db dl), (42, vi (dl.length : Int)), (43, vi 0)]) [] [.cells [c, vl b l] [(1, 21000001), (73, 2000000)], .cells [vl ib il, vl sb sl, vl db dl] []]) .ret)) :=
 rk_of (by kernel_rfl)
theorem y12c (ab : Bool) (al : List D) (n m : Int) (c : V) (b : Bool) (l : List D) (ib : Bool) (il : List D) (sb : Bool) (sl : List D) (db : Bool) (dl : List D) : rk Tryz.prog polY (.at_ 12 0 [false, true, false, true, true, true, true] (sv 55 [(3, .p 1 0), (41, vl ab al), (42, vi n), (43, vi m)]) [] [.cells [c, vl b l] [(1, 21000001), (73, 2000000)], .cells [vl ib il, vl sb sl, vl db dl] []]) = interp (rk Tryz.prog polY) (brB (decide (m < n)) (eL al m 12 fun a => ift ([.d (gD 12 0 a 0), .d (gD 12 0 a 1), .d (gD 12 0 a 2), .d (gD 12 0 a 3), .d (gD 12 0 a 4), .d (gD 12 0 a 5), .d (gD 12 0 a 6), .d (gD 12 0 a 7), .d (gD 12 0 a 8), .d (gD 12 0 a 9), .d (gD 12 0 a 10), .d (gD 12 0 a 11)].all V.one) (c2 (.call 29 [.p 1 0, .d (.g [gD 12 0 a 0, gD 12 0 a 1, gD 12 0 a 2, gD 12 0 a 3, gD 12 0 a 4, gD 12 0 a 5, gD 12 0 a 6, gD 12 0 a 7, gD 12 0 a 8, gD 12 0 a 9, gD 12 0 a 10, gD 12 0 a 11])] [.cells [c, vl b l] [(1, 21000001), (73, 2000000)], .cells [vl ib il, vl sb sl, vl db dl] []]) 2 [(1, 21000001), (73, 2000000)] 3 [] fun e f h => unT e fun j => ift (j.length == 0) (.call (.at_ 12 0 [false, true, false, true, true, true, true] (sv 55 [(3, .p 1 0), (41, vl ab al), (42, vi n), (43, vi (IntKind.i64.wrap (m + 1)))]) [] [.cells f [(1, 21000001), (73, 2000000)], .cells h []]) .ret))) (c2 (.call 30 [.p 1 0] [.cells [c, vl b l] [(1, 21000001), (73, 2000000)], .cells [vl ib il, vl sb sl, vl db dl] []]) 2 [(1, 21000001), (73, 2000000)] 3 [] fun k o q => aS k fun r => .ret (vs r, []))) :=
 rk_of (by kernel_rfl)
theorem y27_at5 (b_0 : Bool) (l_1 : List D) (n_2 n_3 : Int) (l_4 l_5 : List V) : rk Tryz.prog polY (.at_ 27 2 [false, true] (sv 18 [(0, .p 1 0), (6, vl b_0 l_1), (7, vi n_2), (8, vi n_3)]) [] [.cells l_4 [(1, 21000001), (73, 2000000)], .cells l_5 []]) = interp (rk Tryz.prog polY) (brB (decide (n_3 < n_2)) (eC l_1 n_3 1 0 fun a => asS a fun c => c2 (.call 56 [.p 1 0, vs c] [.cells l_4 [(1, 21000001), (73, 2000000)], .cells l_5 []]) l_4.length [(1, 21000001), (73, 2000000)] l_5.length [] fun e f g => unT e fun h => ift (h.length == 2) (asD (h.getD 0 (vb false)) fun j => asI .i64 j fun k => ift (decide (bnd (.t [vi k, h.getD 1 (vb false)]) ≤ 2)) (.call (.at_ 27 2 [false, true] (sv 18 [(0, .p 1 0), (6, vl b_0 l_1), (7, vi n_2), (8, vi (IntKind.i64.wrap (n_3 + 1)))]) [] [.cells f [(1, 21000001), (73, 2000000)], .cells g []]) .ret))) (.ret (.t [], [.cells l_4 [(1, 21000001), (73, 2000000)], .cells l_5 []]))) :=
 rk_of (by kernel_rfl)
theorem y58_at15 (l_0 l_1 : List V) : rk Tryz.prog polY (.at_ 58 2 [true, true, true] (sv 20 [(0, .p 1 0)]) [] [.cells l_0 [(1, 21000001), (73, 2000000)], .cells l_1 []]) = interp (rk Tryz.prog polY) (c2 (.call 27 [.p 1 0, vl true [.s [44, 10]]] [.cells l_0 [(1, 21000001), (73, 2000000)], .cells l_1 []]) l_0.length [(1, 21000001), (73, 2000000)] l_1.length [] fun a b c => unT a fun e => ift (e.length == 0) (.ret (.t [], [.cells b [(1, 21000001), (73, 2000000)], .cells c []]))) :=
 rk_of (by kernel_rfl)
theorem y60_at15 (l_0 : List UInt8) (b_1 : Bool) (l_2 : List UInt8) (b_3 : Bool) (l_4 : List D) (b_5 : Bool) (l_6 : List D) (l_7 l_8 : List V) : rk Tryz.prog polY (.at_ 60 2 [true, true, true] (sv 35 [(0, .p 1 0), (3, .p 2 0)]) [] [.cells [vs l_0, vb b_1, vs l_2, vl b_3 l_4, vl b_5 l_6] [], .cells l_7 [(1, 21000001), (73, 2000000)], .cells l_8 []]) = interp (rk Tryz.prog polY) (cV (.call 124 [vl b_3 l_4] []) fun a => aS a fun c => c2 (.call 27 [.p 1 0, vl true [.s l_2, .s [32], .s l_0, .s [40], .s c, .s [41]]] [.cells l_7 [(1, 21000001), (73, 2000000)], .cells l_8 []]) l_7.length [(1, 21000001), (73, 2000000)] l_8.length [] fun e f g => unT e fun h => ift (h.length == 0) (brB (decide ((l_6.length : Int) > 0)) (cV (.call 124 [vl b_5 l_6] []) fun i => aS i fun j => c2 (.call 27 [.p 1 0, vl true [.s [32, 116, 104, 114, 111, 119, 115, 32, 40], .s j, .s [41]]] [.cells f [(1, 21000001), (73, 2000000)], .cells g []]) f.length [(1, 21000001), (73, 2000000)] g.length [] fun k m n => unT k fun o => ift (o.length == 0) (.call (.at_ 60 2 [true, true, true, true, true] (sv 35 [(0, .p 1 0)]) [] [.cells m [(1, 21000001), (73, 2000000)], .cells n []]) .ret)) (.call (.at_ 60 2 [true, true, true, true, true] (sv 35 [(0, .p 1 0)]) [] [.cells f [(1, 21000001), (73, 2000000)], .cells g []]) .ret))) :=
 rk_of (by kernel_rfl)
theorem y29_at11003 (b_0 : Bool) (l_1 : List D) (n_2 n_3 : Int) (l_4 l_5 : List V) : rk Tryz.prog polY (.at_ 29 2 [false, true, false, true, false, true, true, true, true, true, false, true, true] (sv 117 [(0, .p 1 0), (41, vl b_0 l_1), (42, vi n_2), (43, vi n_3)]) [] [.cells l_4 [(1, 21000001), (73, 2000000)], .cells l_5 []]) = interp (rk Tryz.prog polY) (brB (decide (n_3 < n_2)) (eL l_1 n_3 3 fun a => ift ([.d (gD 3 0 a 0), .d (gD 3 0 a 1), .d (gD 3 0 a 2)].all V.one) (c2 (.call 58 [.p 1 0, .d (.g [gD 3 0 a 0, gD 3 0 a 1, gD 3 0 a 2])] [.cells l_4 [(1, 21000001), (73, 2000000)], .cells l_5 []]) l_4.length [(1, 21000001), (73, 2000000)] l_5.length [] fun b c e => unT b fun f => ift (f.length == 0) (.call (.at_ 29 2 [false, true, false, true, false, true, true, true, true, true, false, true, true] (sv 117 [(0, .p 1 0), (41, vl b_0 l_1), (42, vi n_2), (43, vi (IntKind.i64.wrap (n_3 + 1)))]) [] [.cells c [(1, 21000001), (73, 2000000)], .cells e []]) .ret))) (c2 (.call 27 [.p 1 0, vl true [.s [125, 10]]] [.cells l_4 [(1, 21000001), (73, 2000000)], .cells l_5 []]) l_4.length [(1, 21000001), (73, 2000000)] l_5.length [] fun h j k => unT h fun m => ift (m.length == 0) (.ret (.t [], [.cells j [(1, 21000001), (73, 2000000)], .cells k []])))) :=
 rk_of (by kernel_rfl)
theorem y29_at2043 (n_0 : Int) (b_1 : Bool) (n_2 : Int) (l_3 l_4 : List UInt8) (n_5 n_6 n_7 : Int) (l_8 : List UInt8) (b_9 : Bool) (l_10 : List D) (b_11 : Bool) (l_12 : List D) (b_13 : Bool) (l_14 : List D) (l_15 : List UInt8) (b_16 : Bool) (l_17 : List D) (l_18 l_19 : List V) : rk Tryz.prog polY (.at_ 29 2 [true, true, true, true, true, true, true, false, true, true] (sv 117 [(0, .p 1 0), (3, .p 2 0), (11, vi n_0), (54, vb b_1)]) [] [.cells [vi n_2, vs l_3, vs l_4, vi n_5, vi n_6, vu n_7, vs l_8, vl b_9 l_10, vl b_11 l_12, vl b_13 l_14, vs l_15, vl b_16 l_17] [], .cells l_18 [(1, 21000001), (73, 2000000)], .cells l_19 []]) = interp (rk Tryz.prog polY) (brB b_1 (eC [.s [115, 116, 114, 117, 99, 116, 32], .s [117, 110, 105, 111, 110, 32], .s [101, 120, 99, 101, 112, 116, 105, 111, 110, 32]] (IntKind.i64.wrap (n_2 - 4)) 1 0 fun a => asS a fun c => c2 (.call 27 [.p 1 0, vl true [.s c, .s l_3, .s [32, 123, 10]]] [.cells l_18 [(1, 21000001), (73, 2000000)], .cells l_19 []]) l_18.length [(1, 21000001), (73, 2000000)] l_19.length [] fun e f g => unT e fun h => ift (h.length == 0) (.call (.at_ 29 2 [false, true, false, true, false, true, true, true, true, true, true, true, false, true, true] (sv 117 [(0, .p 1 0), (70, vl b_11 l_12), (71, vi (l_12.length : Int)), (72, vi 0)]) [] [.cells f [(1, 21000001), (73, 2000000)], .cells g []]) .ret)) (brB (n_0 == 7) (c2 (.call 27 [.p 1 0, vl true [.s [115, 101, 114, 118, 105, 99, 101, 32], .s l_3]] [.cells l_18 [(1, 21000001), (73, 2000000)], .cells l_19 []]) l_18.length [(1, 21000001), (73, 2000000)] l_19.length [] fun j k m => unT j fun n => ift (n.length == 0) (brB (!l_15 == []) (c2 (.call 27 [.p 1 0, vl true [.s [32, 101, 120, 116, 101, 110, 100, 115, 32], .s l_15]] [.cells k [(1, 21000001), (73, 2000000)], .cells m []]) k.length [(1, 21000001), (73, 2000000)] m.length [] fun o q r => unT o fun zu => ift (zu.length == 0) (.call (.at_ 29 2 [true, true, false, true, true, true, true, true, true, true, true, true, false, true, true] (sv 117 [(0, .p 1 0), (3, .p 2 0)]) [] [.cells [vi n_2, vs l_3, vs l_4, vi n_5, vi n_6, vu n_7, vs l_8, vl b_9 l_10, vl b_11 l_12, vl b_13 l_14, vs l_15, vl b_16 l_17] [], .cells q [(1, 21000001), (73, 2000000)], .cells r []]) .ret)) (.call (.at_ 29 2 [true, true, false, true, true, true, true, true, true, true, true, true, false, true, true] (sv 117 [(0, .p 1 0), (3, .p 2 0)]) [] [.cells [vi n_2, vs l_3, vs l_4, vi n_5, vi n_6, vu n_7, vs l_8, vl b_9 l_10, vl b_11 l_12, vl b_13 l_14, vs l_15, vl b_16 l_17] [], .cells k [(1, 21000001), (73, 2000000)], .cells m []]) .ret))) (.ret (.t [], [.cells l_18 [(1, 21000001), (73, 2000000)], .cells l_19 []])))) :=
 rk_of (by kernel_rfl)
theorem y60_at63 (l_0 l_1 : List V) : rk Tryz.prog polY (.at_ 60 2 [true, true, true, true, true] (sv 35 [(0, .p 1 0)]) [] [.cells l_0 [(1, 21000001), (73, 2000000)], .cells l_1 []]) = interp (rk Tryz.prog polY) (c2 (.call 27 [.p 1 0, vl true [.s [44, 10]]] [.cells l_0 [(1, 21000001), (73, 2000000)], .cells l_1 []]) l_0.length [(1, 21000001), (73, 2000000)] l_1.length [] fun a b c => unT a fun e => ift (e.length == 0) (.ret (.t [], [.cells b [(1, 21000001), (73, 2000000)], .cells c []]))) :=
 rk_of (by kernel_rfl)
theorem y29_at44027 (b_0 : Bool) (l_1 : List D) (n_2 n_3 : Int) (l_4 l_5 : List V) : rk Tryz.prog polY (.at_ 29 2 [false, true, false, true, false, true, true, true, true, true, true, true, false, true, true] (sv 117 [(0, .p 1 0), (70, vl b_0 l_1), (71, vi n_2), (72, vi n_3)]) [] [.cells l_4 [(1, 21000001), (73, 2000000)], .cells l_5 []]) = interp (rk Tryz.prog polY) (brB (decide (n_3 < n_2)) (eL l_1 n_3 11 fun a => ift ([.d (gD 11 0 a 0), .d (gD 11 0 a 1), .d (gD 11 0 a 2), .d (gD 11 0 a 3), .d (gD 11 0 a 4), .d (gD 11 0 a 5), .d (gD 11 0 a 6), .d (gD 11 0 a 7), .d (gD 11 0 a 8), .d (gD 11 0 a 9), .d (gD 11 0 a 10)].all V.one) (cV (.call 59 [.d (.g [gD 11 0 a 0, gD 11 0 a 1, gD 11 0 a 2, gD 11 0 a 3, gD 11 0 a 4, gD 11 0 a 5, gD 11 0 a 6, gD 11 0 a 7, gD 11 0 a 8, gD 11 0 a 9, gD 11 0 a 10])] []) fun b => aS b fun c => c2 (.call 27 [.p 1 0, vl true [.s [32, 32], .s c, .s [44, 10]]] [.cells l_4 [(1, 21000001), (73, 2000000)], .cells l_5 []]) l_4.length [(1, 21000001), (73, 2000000)] l_5.length [] fun e f h => unT e fun j => ift (j.length == 0) (.call (.at_ 29 2 [false, true, false, true, false, true, true, true, true, true, true, true, false, true, true] (sv 117 [(0, .p 1 0), (70, vl b_0 l_1), (71, vi n_2), (72, vi (IntKind.i64.wrap (n_3 + 1)))]) [] [.cells f [(1, 21000001), (73, 2000000)], .cells h []]) .ret))) (c2 (.call 27 [.p 1 0, vl true [.s [125, 10]]] [.cells l_4 [(1, 21000001), (73, 2000000)], .cells l_5 []]) l_4.length [(1, 21000001), (73, 2000000)] l_5.length [] fun k m n => unT k fun o => ift (o.length == 0) (.ret (.t [], [.cells m [(1, 21000001), (73, 2000000)], .cells n []])))) :=
 rk_of (by kernel_rfl)
theorem y29_at61435 (n_0 : Int) (l_1 l_2 : List UInt8) (n_3 n_4 n_5 : Int) (l_6 : List UInt8) (b_7 : Bool) (l_8 : List D) (b_9 : Bool) (l_10 : List D) (b_11 : Bool) (l_12 : List D) (l_13 : List UInt8) (b_14 : Bool) (l_15 : List D) (l_16 l_17 : List V) : rk Tryz.prog polY (.at_ 29 2 [true, true, false, true, true, true, true, true, true, true, true, true, false, true, true] (sv 117 [(0, .p 1 0), (3, .p 2 0)]) [] [.cells [vi n_0, vs l_1, vs l_2, vi n_3, vi n_4, vu n_5, vs l_6, vl b_7 l_8, vl b_9 l_10, vl b_11 l_12, vs l_13, vl b_14 l_15] [], .cells l_16 [(1, 21000001), (73, 2000000)], .cells l_17 []]) = interp (rk Tryz.prog polY) (c2 (.call 27 [.p 1 0, vl true [.s [32, 123, 10]]] [.cells l_16 [(1, 21000001), (73, 2000000)], .cells l_17 []]) l_16.length [(1, 21000001), (73, 2000000)] l_17.length [] fun a b c => unT a fun e => ift (e.length == 0) (.call (.at_ 29 2 [false, true, false, true, true, true, false, true, true, true, true, true, true, true, true, true, false, true, true] (sv 117 [(0, .p 1 0), (104, vl b_14 l_15), (105, vi (l_15.length : Int)), (106, vi 0)]) [] [.cells b [(1, 21000001), (73, 2000000)], .cells c []]) .ret)) :=
 rk_of (by kernel_rfl)
theorem y29_at716795 (b_0 : Bool) (l_1 : List D) (n_2 n_3 : Int) (l_4 l_5 : List V) : rk Tryz.prog polY (.at_ 29 2 [false, true, false, true, true, true, false, true, true, true, true, true, true, true, true, true, false, true, true] (sv 117 [(0, .p 1 0), (104, vl b_0 l_1), (105, vi n_2), (106, vi n_3)]) [] [.cells l_4 [(1, 21000001), (73, 2000000)], .cells l_5 []]) = interp (rk Tryz.prog polY) (brB (decide (n_3 < n_2)) (eL l_1 n_3 5 fun a => ift ([.d (gD 5 0 a 0), .d (gD 5 0 a 1), .d (gD 5 0 a 2), .d (gD 5 0 a 3), .d (gD 5 0 a 4)].all V.one) (c2 (.call 60 [.p 1 0, .d (.g [gD 5 0 a 0, gD 5 0 a 1, gD 5 0 a 2, gD 5 0 a 3, gD 5 0 a 4])] [.cells l_4 [(1, 21000001), (73, 2000000)], .cells l_5 []]) l_4.length [(1, 21000001), (73, 2000000)] l_5.length [] fun b c e => unT b fun f => ift (f.length == 0) (.call (.at_ 29 2 [false, true, false, true, true, true, false, true, true, true, true, true, true, true, true, true, false, true, true] (sv 117 [(0, .p 1 0), (104, vl b_0 l_1), (105, vi n_2), (106, vi (IntKind.i64.wrap (n_3 + 1)))]) [] [.cells c [(1, 21000001), (73, 2000000)], .cells e []]) .ret))) (c2 (.call 27 [.p 1 0, vl true [.s [125, 10]]] [.cells l_4 [(1, 21000001), (73, 2000000)], .cells l_5 []]) l_4.length [(1, 21000001), (73, 2000000)] l_5.length [] fun h j k => unT h fun m => ift (m.length == 0) (.ret (.t [], [.cells j [(1, 21000001), (73, 2000000)], .cells k []])))) :=
 rk_of (by kernel_rfl)
end Go.Dn.Dec
namespace Go.Dn.Dec
open Go.Proofs
theorem y28 (s : List UInt8) : rk Tryz.prog polY (.call 28 [vs s] []) = interp (rk Tryz.prog polY) (cV (.call 57 [vs s, vs [34]] []) fun a => aB a fun b => brB b (ift (decide (1 + s.length < 4611686018427387904)) (ift (decide (([39] ++ s).length + 1 < 4611686018427387904)) (.ret (vs ([39] ++ s ++ [39]), [])))) (ift (decide (1 + s.length < 4611686018427387904)) (ift (decide (([34] ++ s).length + 1 < 4611686018427387904)) (.ret (vs ([34] ++ s ++ [34]), []))))) :=
 rk_of (by kernel_rfl)
theorem y23 (k n u : Int) (s : List UInt8) (b : Bool) (l : List D) : rk Tryz.prog polY (.call 23 [.d (.g [.i .i64 k, .i .i64 n, .i .u64 u, .s s, .l b l])] []) = interp (rk Tryz.prog polY) (brB (k == 1) (cV (.call 49 [vi n, vi 10] []) fun a => aS a fun c => .ret (vs c, [])) (brB (k == 2) (cV (.call 50 [vu u] []) fun e => aS e fun f => .ret (vs f, [])) (brB (k == 3) (cV (.call 28 [vs s] []) fun h => aS h fun j => .ret (vs j, [])) (brB (k == 4) (.ret (vs s, [])) (brB (k == 5) (cV (.call 52 [vl b l] []) fun m => aL m fun o p => cV (.call 51 [vl o p, vs [44, 32]] []) fun q => aS q fun r => ift (decide (1 + r.length < 4611686018427387904)) (ift (decide (([91] ++ r).length + 1 < 4611686018427387904)) (.ret (vs ([91] ++ r ++ [93]), [])))) (cV (.call 52 [vl b l] []) fun t => aL t fun v w => .call (.at_ 23 0 [false, true, false, true, true, true, true] (sv 63 [(3, vl true []), (4, vl v w), (5, vi 0)]) [(3, 1)] []) .ret)))))) :=
 rk_of (by kernel_rfl)
theorem y52 (b : Bool) (l : List D) : rk Tryz.prog polY (.call 52 [vl b l] []) = interp (rk Tryz.prog polY) (.call (.at_ 52 0 [false, true, false, true, true] (sv 19 [(3, vl true []), (6, vl b l), (7, vi (l.length : Int)), (8, vi 0)]) [(3, 1)] []) .ret) :=
 rk_of (by kernel_rfl)
theorem y22 (k n u : Int) (s : List UInt8) (b : Bool) (l : List D) : rk Tryz.prog polY (.call 22 [.d (.g [.i .i64 k, .i .i64 n, .i .u64 u, .s s, .l b l])] []) = interp (rk Tryz.prog polY) (brB (k == 1) (cV (.call 47 [vi n] []) fun a => aS a fun c => .ret (vs c, [])) (brB (k == 2) (cV (.call 48 [vu u] []) fun e => aS e fun f => .ret (vs f, [])) (brB (k == 3) (.call (.at_ 22 0 [false, true, false, false, true, true, true, true, true, false, true, false, true] (sv 100 [(1, .p 0 0), (3, vi 0)]) [] [.cells [vi k, vi n, vu u, vs s, vl b l] []]) .ret) (brB (k == 4) (.ret (vs s, [])) (brB (k == 5) (.call (.at_ 22 0 [false, true, false, true, false, true, true, true, true, true, true, true, true, true, false, true, false, true] (sv 100 [(1, .p 0 0), (4, vs [91]), (5, vi 0)]) [] [.cells [vi k, vi n, vu u, vs s, vl b l] []]) .ret) (.call (.at_ 22 0 [false, true, false, true, true, true] (sv 100 [(1, .p 0 0), (6, vs [123]), (7, vi 0)]) [] [.cells [vi k, vi n, vu u, vs s, vl b l] []]) .ret)))))) :=
 rk_of (by kernel_rfl)
theorem y59 (h : Bool) (id r : Int) (t nm : List UInt8) (hi : Bool) (k n u : Int) (s : List UInt8) (b : Bool) (l : List D) : rk Tryz.prog polY (.call 59 [.d (.g [.b h, .i .i64 id, .i .i64 r, .s t, .s nm, .b hi, .i .i64 k, .i .i64 n, .i .u64 u, .s s, .l b l])] []) = interp (rk Tryz.prog polY) (brB h (cV (.call 49 [vi id, vi 10] []) fun a => aS a fun c => ift (decide (c.length + 2 < 4611686018427387904)) (.call (.at_ 59 0 [true, true, true] (sv 37 [(1, .p 0 0), (3, vs (c ++ [58, 32]))]) [] [.cells [vb h, vi id, vi r, vs t, vs nm, vb hi, vi k, vi n, vu u, vs s, vl b l] []]) .ret)) (.call (.at_ 59 0 [true, true, true] (sv 37 [(1, .p 0 0), (3, vs [])]) [] [.cells [vb h, vi id, vi r, vs t, vs nm, vb hi, vi k, vi n, vu u, vs s, vl b l] []]) .ret)) :=
 rk_of (by kernel_rfl)
theorem y61 (h : Bool) (id r : Int) (t nm : List UInt8) (hi : Bool) (k n u : Int) (s : List UInt8) (b : Bool) (l : List D) : rk Tryz.prog polY (.call 61 [.d (.g [.b h, .i .i64 id, .i .i64 r, .s t, .s nm, .b hi, .i .i64 k, .i .i64 n, .i .u64 u, .s s, .l b l])] []) = interp (rk Tryz.prog polY) (brB h (cV (.call 47 [vi id] []) fun a => aS a fun c => ift (decide (c.length + 2 < 4611686018427387904)) (.call (.at_ 61 0 [true, true, true] (sv 37 [(1, .p 0 0), (3, vs (c ++ [58, 32]))]) [] [.cells [vb h, vi id, vi r, vs t, vs nm, vb hi, vi k, vi n, vu u, vs s, vl b l] []]) .ret)) (.call (.at_ 61 0 [true, true, true] (sv 37 [(1, .p 0 0), (3, vs [])]) [] [.cells [vb h, vi id, vi r, vs t, vs nm, vb hi, vi k, vi n, vu u, vs s, vl b l] []]) .ret)) :=
 rk_of (by kernel_rfl)
theorem y124 (b : Bool) (l : List D) : rk Tryz.prog polY (.call 124 [vl b l] []) = interp (rk Tryz.prog polY) (.call (.at_ 124 0 [false, true, false, true, true] (sv 20 [(3, vl true []), (6, vl b l), (7, vi (l.length : Int)), (8, vi 0)]) [(3, 1)] []) .ret) :=
 rk_of (by kernel_rfl)
theorem y125 (b : Bool) (l : List D) : rk Tryz.prog polY (.call 125 [vl b l] []) = interp (rk Tryz.prog polY) (.call (.at_ 125 0 [false, true, false, true, true] (sv 23 [(0, vl b l), (3, vs []), (4, vi 0)]) [] []) .ret) :=
 rk_of (by kernel_rfl)
theorem y62 (nm : List UInt8) (ow : Bool) (ret : List UInt8) (ab : Bool) (al : List D) (tb : Bool) (tl : List D) : rk Tryz.prog polY (.call 62 [.d (.g [.s nm, .b ow, .s ret, .l ab al, .l tb tl])] []) = interp (rk Tryz.prog polY) (brB ow (.call (.at_ 62 0 [true, true, true] (sv 35 [(1, .p 0 0), (3, vs [32, 32, 111, 110, 101, 119, 97, 121, 32])]) [] [.cells [vs nm, vb ow, vs ret, vl ab al, vl tb tl] []]) .ret) (.call (.at_ 62 0 [true, true, true] (sv 35 [(1, .p 0 0), (3, vs [32, 32])]) [] [.cells [vs nm, vb ow, vs ret, vl ab al, vl tb tl] []]) .ret)) :=
 rk_of (by kernel_rfl)
theorem y31 (kd : Int) (nm ty : List UInt8) (ck cn cu : Int) (cs : List UInt8) (cb : Bool) (cl : List D) (fb : Bool) (fl : List D) (mb : Bool) (ml : List D) (ex : List UInt8) (tb : Bool) (tl : List D) : rk Tryz.prog polY (.call 31 [.d (.g [.i .i64 kd, .s nm, .s ty, .i .i64 ck, .i .i64 cn, .i .u64 cu, .s cs, .l cb cl, .l fb fl, .l mb ml, .s ex, .l tb tl])] []) = interp (rk Tryz.prog polY) (eC [.s [], .s [116, 121, 112, 101, 100, 101, 102, 32], .s [101, 110, 117, 109, 32], .s [99, 111, 110, 115, 116, 32], .s [115, 116, 114, 117, 99, 116, 32], .s [117, 110, 105, 111, 110, 32], .s [101, 120, 99, 101, 112, 116, 105, 111, 110, 32], .s [115, 101, 114, 118, 105, 99, 101, 32]] kd 1 0 fun a => asS a fun b => brB (kd == 1) (ift (decide (b.length + ty.length < 4611686018427387904)) (ift (decide ((b ++ ty).length + 1 < 4611686018427387904)) (ift (decide ((b ++ ty ++ [32]).length + nm.length < 4611686018427387904)) (ift (decide ((b ++ ty ++ [32] ++ nm).length + 1 < 4611686018427387904)) (.ret (vs (b ++ ty ++ [32] ++ nm ++ [10]), [])))))) (brB (kd == 3) (ift (decide (b.length + ty.length < 4611686018427387904)) (ift (decide ((b ++ ty).length + 1 < 4611686018427387904)) (ift (decide ((b ++ ty ++ [32]).length + nm.length < 4611686018427387904)) (ift (decide ((b ++ ty ++ [32] ++ nm).length + 3 < 4611686018427387904)) (cV (.call 22 [.d (.g [.i .i64 ck, .i .i64 cn, .i .u64 cu, .s cs, .l cb cl])] []) fun c => aS c fun e => ift (decide ((b ++ ty ++ [32] ++ nm ++ [32, 61, 32]).length + e.length < 4611686018427387904)) (ift (decide ((b ++ ty ++ [32] ++ nm ++ [32, 61, 32] ++ e).length + 1 < 4611686018427387904)) (.ret (vs (b ++ ty ++ [32] ++ nm ++ [32, 61, 32] ++ e ++ [10]), [])))))))) (ift (decide (b.length + nm.length < 4611686018427387904)) (brB (!ex == []) (ift (decide ((b ++ nm).length + 9 < 4611686018427387904)) (ift (decide ((b ++ nm ++ [32, 101, 120, 116, 101, 110, 100, 115, 32]).length + ex.length < 4611686018427387904)) (.call (.at_ 31 0 [true, true, true, true, true, true] (sv 125 [(1, .p 0 0), (4, vs (b ++ nm ++ [32, 101, 120, 116, 101, 110, 100, 115, 32] ++ ex))]) [] [.cells [vi kd, vs nm, vs ty, vi ck, vi cn, vu cu, vs cs, vl cb cl, vl fb fl, vl mb ml, vs ex, vl tb tl] []]) .ret))) (.call (.at_ 31 0 [true, true, true, true, true, true] (sv 125 [(1, .p 0 0), (4, vs (b ++ nm))]) [] [.cells [vi kd, vs nm, vs ty, vi ck, vi cn, vu cu, vs cs, vl cb cl, vl fb fl, vl mb ml, vs ex, vl tb tl] []]) .ret))))) :=
 rk_of (by kernel_rfl)
theorem y13 (ib : Bool) (il : List D) (sb : Bool) (sl : List D) (db : Bool) (dl : List D) : rk Tryz.prog polY (.call 13 [.d (.g [.l ib il, .l sb sl, .l db dl])] []) = interp (rk Tryz.prog polY) (.call (.at_ 13 0 [false, true, false, true, true] (sv 64 [(1, .p 0 0), (3, vs []), (4, vi 0)]) [] [.cells [vl ib il, vl sb sl, vl db dl] []]) .ret) :=
 rk_of (by kernel_rfl)
theorem y23_at175 (b_0 : Bool) (l_1 : List D) (b_2 : Bool) (l_3 : List D) (n_4 : Int) : rk Tryz.prog polY (.at_ 23 0 [false, true, false, true, true, true, true] (sv 63 [(3, vl b_0 l_1), (4, vl b_2 l_3), (5, vi n_4)]) [(3, 1)] []) = interp (rk Tryz.prog polY) (brB (decide (IntKind.i64.wrap (n_4 + 1) < (l_3.length : Int))) (eC l_3 n_4 1 0 fun a => asS a fun b => ift (decide (b.length + 2 < 4611686018427387904)) (eC l_3 (IntKind.i64.wrap (n_4 + 1)) 1 0 fun c => asS c fun e => ift (decide ((b ++ [58, 32]).length + e.length < 4611686018427387904)) (ift (headOk 1 l_1) (ift (b_0 || true) (ift (decide (l_1.length + 1 ≤ 4294967296)) (.call (.at_ 23 0 [false, true, false, true, true, true, true] (sv 63 [(3, vl (b_0 && false) (l_1 ++ [.s (b ++ [58, 32] ++ e)])), (4, vl b_2 l_3), (5, vi (IntKind.i64.wrap (n_4 + 2)))]) [(3, 1)] []) .ret)))))) (cV (.call 51 [vl b_0 l_1, vs [44, 32]] []) fun f => aS f fun g => ift (decide (1 + g.length < 4611686018427387904)) (ift (decide (([123] ++ g).length + 1 < 4611686018427387904)) (.ret (vs ([123] ++ g ++ [125]), []))))) :=
 rk_of (by kernel_rfl)
theorem y52_at43 (b_0 : Bool) (l_1 : List D) (b_2 : Bool) (l_3 : List D) (n_4 n_5 : Int) : rk Tryz.prog polY (.at_ 52 0 [false, true, false, true, true] (sv 19 [(3, vl b_0 l_1), (6, vl b_2 l_3), (7, vi n_4), (8, vi n_5)]) [(3, 1)] []) = interp (rk Tryz.prog polY) (brB (decide (n_5 < n_4)) (eL l_3 n_5 5 fun a => ift ([.d (gD 5 0 a 0), .d (gD 5 0 a 1), .d (gD 5 0 a 2), .d (gD 5 0 a 3), .d (gD 5 0 a 4)].all V.one) (cV (.call 23 [.d (.g [gD 5 0 a 0, gD 5 0 a 1, gD 5 0 a 2, gD 5 0 a 3, gD 5 0 a 4])] []) fun b => aS b fun c => ift (headOk 1 l_1) (ift (b_0 || true) (ift (decide (l_1.length + 1 ≤ 4294967296)) (.call (.at_ 52 0 [false, true, false, true, true] (sv 19 [(3, vl (b_0 && false) (l_1 ++ [.s c])), (6, vl b_2 l_3), (7, vi n_4), (8, vi (IntKind.i64.wrap (n_5 + 1)))]) [(3, 1)] []) .ret))))) (.ret (vl b_0 l_1, []))) :=
 rk_of (by kernel_rfl)
theorem y22_at10741 (n_0 n_1 n_2 n_3 : Int) (l_4 : List UInt8) (b_5 : Bool) (l_6 : List D) : rk Tryz.prog polY (.at_ 22 0 [false, true, false, false, true, true, true, true, true, false, true, false, true] (sv 100 [(1, .p 0 0), (3, vi n_0)]) [] [.cells [vi n_1, vi n_2, vu n_3, vs l_4, vl b_5 l_6] []]) = interp (rk Tryz.prog polY) (brB (decide (n_0 < (l_4.length : Int))) (ob (getI l_4 n_0) fun a => brB ((a.toNat : Int) == 34) (ift (decide (1 + l_4.length < 4611686018427387904)) (ift (decide (([39] ++ l_4).length + 1 < 4611686018427387904)) (.ret (vs ([39] ++ l_4 ++ [39]), [])))) (.call (.at_ 22 0 [false, true, false, false, true, true, true, true, true, false, true, false, true] (sv 100 [(1, .p 0 0), (3, vi (IntKind.i64.wrap (n_0 + 1)))]) [] [.cells [vi n_1, vi n_2, vu n_3, vs l_4, vl b_5 l_6] []]) .ret)) (ift (decide (1 + l_4.length < 4611686018427387904)) (ift (decide (([34] ++ l_4).length + 1 < 4611686018427387904)) (.ret (vs ([34] ++ l_4 ++ [34]), []))))) :=
 rk_of (by kernel_rfl)
theorem y22_at352245 (l_0 : List UInt8) (n_1 n_2 n_3 n_4 : Int) (l_5 : List UInt8) (b_6 : Bool) (l_7 : List D) : rk Tryz.prog polY (.at_ 22 0 [false, true, false, true, false, true, true, true, true, true, true, true, true, true, false, true, false, true] (sv 100 [(1, .p 0 0), (4, vs l_0), (5, vi n_1)]) [] [.cells [vi n_2, vi n_3, vu n_4, vs l_5, vl b_6 l_7] []]) = interp (rk Tryz.prog polY) (brB (decide (n_1 < (l_7.length : Int))) (brB (decide (n_1 > 0)) (ift (decide (l_0.length + 2 < 4611686018427387904)) (.call (.at_ 22 0 [true, false, false, true, false, false, true, false, true, false, true, true, true, true, true, true, true, true, true, false, true, false, true] (sv 100 [(1, .p 0 0), (4, vs (l_0 ++ [44, 32])), (5, vi n_1)]) [] [.cells [vi n_2, vi n_3, vu n_4, vs l_5, vl b_6 l_7] []]) .ret)) (.call (.at_ 22 0 [true, false, false, true, false, false, true, false, true, false, true, true, true, true, true, true, true, true, true, false, true, false, true] (sv 100 [(1, .p 0 0), (4, vs l_0), (5, vi n_1)]) [] [.cells [vi n_2, vi n_3, vu n_4, vs l_5, vl b_6 l_7] []]) .ret)) (ift (decide (l_0.length + 1 < 4611686018427387904)) (.ret (vs (l_0 ++ [93]), [])))) :=
 rk_of (by kernel_rfl)
theorem y22_at87 (l_0 : List UInt8) (n_1 n_2 n_3 n_4 : Int) (l_5 : List UInt8) (b_6 : Bool) (l_7 : List D) : rk Tryz.prog polY (.at_ 22 0 [false, true, false, true, true, true] (sv 100 [(1, .p 0 0), (6, vs l_0), (7, vi n_1)]) [] [.cells [vi n_2, vi n_3, vu n_4, vs l_5, vl b_6 l_7] []]) = interp (rk Tryz.prog polY) (brB (decide (IntKind.i64.wrap (n_1 + 1) < (l_7.length : Int))) (brB (decide (n_1 > 0)) (ift (decide (l_0.length + 2 < 4611686018427387904)) (.call (.at_ 22 0 [true, false, false, true, false, false, true, false, true, true, true] (sv 100 [(1, .p 0 0), (6, vs (l_0 ++ [44, 32])), (7, vi n_1)]) [] [.cells [vi n_2, vi n_3, vu n_4, vs l_5, vl b_6 l_7] []]) .ret)) (.call (.at_ 22 0 [true, false, false, true, false, false, true, false, true, true, true] (sv 100 [(1, .p 0 0), (6, vs l_0), (7, vi n_1)]) [] [.cells [vi n_2, vi n_3, vu n_4, vs l_5, vl b_6 l_7] []]) .ret)) (ift (decide (l_0.length + 1 < 4611686018427387904)) (.ret (vs (l_0 ++ [125]), [])))) :=
 rk_of (by kernel_rfl)
theorem y59_at15 (l_0 : List UInt8) (b_1 : Bool) (n_2 n_3 : Int) (l_4 l_5 : List UInt8) (b_6 : Bool) (n_7 n_8 n_9 : Int) (l_10 : List UInt8) (b_11 : Bool) (l_12 : List D) : rk Tryz.prog polY (.at_ 59 0 [true, true, true] (sv 37 [(1, .p 0 0), (3, vs l_0)]) [] [.cells [vb b_1, vi n_2, vi n_3, vs l_4, vs l_5, vb b_6, vi n_7, vi n_8, vu n_9, vs l_10, vl b_11 l_12] []]) = interp (rk Tryz.prog polY) (brB (n_3 == 1) (ift (decide (l_0.length + 9 < 4611686018427387904)) (.call (.at_ 59 0 [true, true, true, true] (sv 37 [(1, .p 0 0), (3, vs (l_0 ++ [114, 101, 113, 117, 105, 114, 101, 100, 32]))]) [] [.cells [vb b_1, vi n_2, vi n_3, vs l_4, vs l_5, vb b_6, vi n_7, vi n_8, vu n_9, vs l_10, vl b_11 l_12] []]) .ret)) (brB (n_3 == 2) (ift (decide (l_0.length + 9 < 4611686018427387904)) (.call (.at_ 59 0 [true, true, true, true] (sv 37 [(1, .p 0 0), (3, vs (l_0 ++ [111, 112, 116, 105, 111, 110, 97, 108, 32]))]) [] [.cells [vb b_1, vi n_2, vi n_3, vs l_4, vs l_5, vb b_6, vi n_7, vi n_8, vu n_9, vs l_10, vl b_11 l_12] []]) .ret)) (.call (.at_ 59 0 [true, true, true, true] (sv 37 [(1, .p 0 0), (3, vs l_0)]) [] [.cells [vb b_1, vi n_2, vi n_3, vs l_4, vs l_5, vb b_6, vi n_7, vi n_8, vu n_9, vs l_10, vl b_11 l_12] []]) .ret))) :=
 rk_of (by kernel_rfl)
theorem y61_at15 (l_0 : List UInt8) (b_1 : Bool) (n_2 n_3 : Int) (l_4 l_5 : List UInt8) (b_6 : Bool) (n_7 n_8 n_9 : Int) (l_10 : List UInt8) (b_11 : Bool) (l_12 : List D) : rk Tryz.prog polY (.at_ 61 0 [true, true, true] (sv 37 [(1, .p 0 0), (3, vs l_0)]) [] [.cells [vb b_1, vi n_2, vi n_3, vs l_4, vs l_5, vb b_6, vi n_7, vi n_8, vu n_9, vs l_10, vl b_11 l_12] []]) = interp (rk Tryz.prog polY) (brB (n_3 == 1) (ift (decide (l_0.length + 9 < 4611686018427387904)) (.call (.at_ 61 0 [true, true, true, true] (sv 37 [(1, .p 0 0), (3, vs (l_0 ++ [114, 101, 113, 117, 105, 114, 101, 100, 32]))]) [] [.cells [vb b_1, vi n_2, vi n_3, vs l_4, vs l_5, vb b_6, vi n_7, vi n_8, vu n_9, vs l_10, vl b_11 l_12] []]) .ret)) (brB (n_3 == 2) (ift (decide (l_0.length + 9 < 4611686018427387904)) (.call (.at_ 61 0 [true, true, true, true] (sv 37 [(1, .p 0 0), (3, vs (l_0 ++ [111, 112, 116, 105, 111, 110, 97, 108, 32]))]) [] [.cells [vb b_1, vi n_2, vi n_3, vs l_4, vs l_5, vb b_6, vi n_7, vi n_8, vu n_9, vs l_10, vl b_11 l_12] []]) .ret)) (.call (.at_ 61 0 [true, true, true, true] (sv 37 [(1, .p 0 0), (3, vs l_0)]) [] [.cells [vb b_1, vi n_2, vi n_3, vs l_4, vs l_5, vb b_6, vi n_7, vi n_8, vu n_9, vs l_10, vl b_11 l_12] []]) .ret))) :=
 rk_of (by kernel_rfl)
theorem y124_at43 (b_0 : Bool) (l_1 : List D) (b_2 : Bool) (l_3 : List D) (n_4 n_5 : Int) : rk Tryz.prog polY (.at_ 124 0 [false, true, false, true, true] (sv 20 [(3, vl b_0 l_1), (6, vl b_2 l_3), (7, vi n_4), (8, vi n_5)]) [(3, 1)] []) = interp (rk Tryz.prog polY) (brB (decide (n_5 < n_4)) (eL l_3 n_5 11 fun a => ift ([.d (gD 11 0 a 0), .d (gD 11 0 a 1), .d (gD 11 0 a 2), .d (gD 11 0 a 3), .d (gD 11 0 a 4), .d (gD 11 0 a 5), .d (gD 11 0 a 6), .d (gD 11 0 a 7), .d (gD 11 0 a 8), .d (gD 11 0 a 9), .d (gD 11 0 a 10)].all V.one) (cV (.call 59 [.d (.g [gD 11 0 a 0, gD 11 0 a 1, gD 11 0 a 2, gD 11 0 a 3, gD 11 0 a 4, gD 11 0 a 5, gD 11 0 a 6, gD 11 0 a 7, gD 11 0 a 8, gD 11 0 a 9, gD 11 0 a 10])] []) fun b => aS b fun c => ift (headOk 1 l_1) (ift (b_0 || true) (ift (decide (l_1.length + 1 ≤ 4294967296)) (.call (.at_ 124 0 [false, true, false, true, true] (sv 20 [(3, vl (b_0 && false) (l_1 ++ [.s c])), (6, vl b_2 l_3), (7, vi n_4), (8, vi (IntKind.i64.wrap (n_5 + 1)))]) [(3, 1)] []) .ret))))) (cV (.call 51 [vl b_0 l_1, vs [44, 32]] []) fun e => aS e fun f => .ret (vs f, []))) :=
 rk_of (by kernel_rfl)
theorem y125_at43 (b_0 : Bool) (l_1 : List D) (l_2 : List UInt8) (n_3 : Int) : rk Tryz.prog polY (.at_ 125 0 [false, true, false, true, true] (sv 23 [(0, vl b_0 l_1), (3, vs l_2), (4, vi n_3)]) [] []) = interp (rk Tryz.prog polY) (brB (decide (n_3 < (l_1.length : Int))) (brB (decide (n_3 > 0)) (ift (decide (l_2.length + 2 < 4611686018427387904)) (.call (.at_ 125 0 [true, false, false, true, false, false, true, false, true, true] (sv 23 [(0, vl b_0 l_1), (3, vs (l_2 ++ [44, 32])), (4, vi n_3)]) [] []) .ret)) (.call (.at_ 125 0 [true, false, false, true, false, false, true, false, true, true] (sv 23 [(0, vl b_0 l_1), (3, vs l_2), (4, vi n_3)]) [] []) .ret)) (.ret (vs l_2, []))) :=
 rk_of (by kernel_rfl)
theorem y62_at15 (l_0 l_1 : List UInt8) (b_2 : Bool) (l_3 : List UInt8) (b_4 : Bool) (l_5 : List D) (b_6 : Bool) (l_7 : List D) : rk Tryz.prog polY (.at_ 62 0 [true, true, true] (sv 35 [(1, .p 0 0), (3, vs l_0)]) [] [.cells [vs l_1, vb b_2, vs l_3, vl b_4 l_5, vl b_6 l_7] []]) = interp (rk Tryz.prog polY) (ift (decide (l_0.length + l_3.length < 4611686018427387904)) (ift (decide ((l_0 ++ l_3).length + 1 < 4611686018427387904)) (ift (decide ((l_0 ++ l_3 ++ [32]).length + l_1.length < 4611686018427387904)) (ift (decide ((l_0 ++ l_3 ++ [32] ++ l_1).length + 1 < 4611686018427387904)) (cV (.call 125 [vl b_4 l_5] []) fun o_0 => aS o_0 fun l_2 => ift (decide ((l_0 ++ l_3 ++ [32] ++ l_1 ++ [40]).length + l_2.length < 4611686018427387904)) (ift (decide ((l_0 ++ l_3 ++ [32] ++ l_1 ++ [40] ++ l_2).length + 1 < 4611686018427387904)) (brB (decide ((l_7.length : Int) > 0)) (ift (decide ((l_0 ++ l_3 ++ [32] ++ l_1 ++ [40] ++ l_2 ++ [41]).length + 9 < 4611686018427387904)) (cV (.call 125 [vl b_6 l_7] []) fun o_3 => aS o_3 fun l_5 => ift (decide ((l_0 ++ l_3 ++ [32] ++ l_1 ++ [40] ++ l_2 ++ [41] ++ [32, 116, 104, 114, 111, 119, 115, 32, 40]).length + l_5.length < 4611686018427387904)) (ift (decide ((l_0 ++ l_3 ++ [32] ++ l_1 ++ [40] ++ l_2 ++ [41] ++ [32, 116, 104, 114, 111, 119, 115, 32, 40] ++ l_5).length + 1 < 4611686018427387904)) (.call (.at_ 62 0 [true, true, true, true, true] (sv 35 [(3, vs (l_0 ++ l_3 ++ [32] ++ l_1 ++ [40] ++ l_2 ++ [41] ++ [32, 116, 104, 114, 111, 119, 115, 32, 40] ++ l_5 ++ [41]))]) [] []) .ret)))) (.call (.at_ 62 0 [true, true, true, true, true] (sv 35 [(3, vs (l_0 ++ l_3 ++ [32] ++ l_1 ++ [40] ++ l_2 ++ [41]))]) [] []) .ret)))))))) :=
 rk_of (by kernel_rfl)
theorem y31_at127 (l_0 : List UInt8) (n_1 : Int) (l_2 l_3 : List UInt8) (n_4 n_5 n_6 : Int) (l_7 : List UInt8) (b_8 : Bool) (l_9 : List D) (b_10 : Bool) (l_11 : List D) (b_12 : Bool) (l_13 : List D) (l_14 : List UInt8) (b_15 : Bool) (l_16 : List D) : rk Tryz.prog polY (.at_ 31 0 [true, true, true, true, true, true] (sv 125 [(1, .p 0 0), (4, vs l_0)]) [] [.cells [vi n_1, vs l_2, vs l_3, vi n_4, vi n_5, vu n_6, vs l_7, vl b_8 l_9, vl b_10 l_11, vl b_12 l_13, vs l_14, vl b_15 l_16] []]) = interp (rk Tryz.prog polY) (ift (decide (l_0.length + 3 < 4611686018427387904)) (.call (.at_ 31 0 [false, true, false, true, true, true, true, true, true, true] (sv 125 [(1, .p 0 0), (4, vs (l_0 ++ [32, 123, 10])), (5, vi 0)]) [] [.cells [vi n_1, vs l_2, vs l_3, vi n_4, vi n_5, vu n_6, vs l_7, vl b_8 l_9, vl b_10 l_11, vl b_12 l_13, vs l_14, vl b_15 l_16] []]) .ret)) :=
 rk_of (by kernel_rfl)
theorem y13_at43 (l_0 : List UInt8) (n_1 : Int) (b_2 : Bool) (l_3 : List D) (b_4 : Bool) (l_5 : List D) (b_6 : Bool) (l_7 : List D) : rk Tryz.prog polY (.at_ 13 0 [false, true, false, true, true] (sv 64 [(1, .p 0 0), (3, vs l_0), (4, vi n_1)]) [] [.cells [vl b_2 l_3, vl b_4 l_5, vl b_6 l_7] []]) = interp (rk Tryz.prog polY) (brB (decide (n_1 < (l_3.length : Int))) (ift (decide (l_0.length + 9 < 4611686018427387904)) (eC l_3 n_1 1 0 fun a => asS a fun b => ift (decide ((l_0 ++ [105, 110, 99, 108, 117, 100, 101, 32, 34]).length + b.length < 4611686018427387904)) (ift (decide ((l_0 ++ [105, 110, 99, 108, 117, 100, 101, 32, 34] ++ b).length + 2 < 4611686018427387904)) (.call (.at_ 13 0 [false, true, false, true, true] (sv 64 [(1, .p 0 0), (3, vs (l_0 ++ [105, 110, 99, 108, 117, 100, 101, 32, 34] ++ b ++ [34, 10])), (4, vi (IntKind.i64.wrap (n_1 + 1)))]) [] [.cells [vl b_2 l_3, vl b_4 l_5, vl b_6 l_7] []]) .ret)))) (.call (.at_ 13 0 [false, true, false, true, true, true] (sv 64 [(1, .p 0 0), (3, vs l_0), (5, vi 0)]) [] [.cells [vl b_2 l_3, vl b_4 l_5, vl b_6 l_7] []]) .ret)) :=
 rk_of (by kernel_rfl)
theorem y22_at13197301 (l_0 : List UInt8) (n_1 n_2 n_3 n_4 : Int) (l_5 : List UInt8) (b_6 : Bool) (l_7 : List D) : rk Tryz.prog polY (.at_ 22 0 [true, false, false, true, false, false, true, false, true, false, true, true, true, true, true, true, true, true, true, false, true, false, true] (sv 100 [(1, .p 0 0), (4, vs l_0), (5, vi n_1)]) [] [.cells [vi n_2, vi n_3, vu n_4, vs l_5, vl b_6 l_7] []]) = interp (rk Tryz.prog polY) (eL l_7 n_1 5 fun a => cV (.call 22 [.d (.g [gD 5 0 a 0, gD 5 0 a 1, gD 5 0 a 2, gD 5 0 a 3, gD 5 0 a 4])] []) fun b => aS b fun c => ift (decide (l_0.length + c.length < 4611686018427387904)) (.call (.at_ 22 0 [false, true, false, true, false, true, true, true, true, true, true, true, true, true, false, true, false, true] (sv 100 [(1, .p 0 0), (4, vs (l_0 ++ c)), (5, vi (IntKind.i64.wrap (n_1 + 1)))]) [] [.cells [vi n_2, vi n_3, vu n_4, vs l_5, vl b_6 l_7] []]) .ret)) :=
 rk_of (by kernel_rfl)
theorem y22_at3223 (l_0 : List UInt8) (n_1 n_2 n_3 n_4 : Int) (l_5 : List UInt8) (b_6 : Bool) (l_7 : List D) : rk Tryz.prog polY (.at_ 22 0 [true, false, false, true, false, false, true, false, true, true, true] (sv 100 [(1, .p 0 0), (6, vs l_0), (7, vi n_1)]) [] [.cells [vi n_2, vi n_3, vu n_4, vs l_5, vl b_6 l_7] []]) = interp (rk Tryz.prog polY) (eL l_7 n_1 5 fun a => cV (.call 22 [.d (.g [gD 5 0 a 0, gD 5 0 a 1, gD 5 0 a 2, gD 5 0 a 3, gD 5 0 a 4])] []) fun b => aS b fun c => ift (decide (l_0.length + c.length < 4611686018427387904)) (ift (decide ((l_0 ++ c).length + 2 < 4611686018427387904)) (eL l_7 (IntKind.i64.wrap (n_1 + 1)) 5 fun e => cV (.call 22 [.d (.g [gD 5 0 e 0, gD 5 0 e 1, gD 5 0 e 2, gD 5 0 e 3, gD 5 0 e 4])] []) fun f => aS f fun h => ift (decide ((l_0 ++ c ++ [58, 32]).length + h.length < 4611686018427387904)) (.call (.at_ 22 0 [false, true, false, true, true, true] (sv 100 [(1, .p 0 0), (6, vs (l_0 ++ c ++ [58, 32] ++ h)), (7, vi (IntKind.i64.wrap (n_1 + 2)))]) [] [.cells [vi n_2, vi n_3, vu n_4, vs l_5, vl b_6 l_7] []]) .ret)))) :=
 rk_of (by kernel_rfl)
theorem y59_at31 (l_0 : List UInt8) (b_1 : Bool) (n_2 n_3 : Int) (l_4 l_5 : List UInt8) (b_6 : Bool) (n_7 n_8 n_9 : Int) (l_10 : List UInt8) (b_11 : Bool) (l_12 : List D) : rk Tryz.prog polY (.at_ 59 0 [true, true, true, true] (sv 37 [(1, .p 0 0), (3, vs l_0)]) [] [.cells [vb b_1, vi n_2, vi n_3, vs l_4, vs l_5, vb b_6, vi n_7, vi n_8, vu n_9, vs l_10, vl b_11 l_12] []]) = interp (rk Tryz.prog polY) (ift (decide (l_4.length + 1 < 4611686018427387904)) (ift (decide ((l_4 ++ [32]).length + l_5.length < 4611686018427387904)) (ift (decide (l_0.length + (l_4 ++ [32] ++ l_5).length < 4611686018427387904)) (brB b_6 (cV (.call 23 [.d (.g [.i .i64 n_7, .i .i64 n_8, .i .u64 n_9, .s l_10, .l b_11 l_12])] []) fun a => aS a fun c => ift (decide (3 + c.length < 4611686018427387904)) (ift (decide ((l_0 ++ (l_4 ++ [32] ++ l_5)).length + ([32, 61, 32] ++ c).length < 4611686018427387904)) (.ret (vs (l_0 ++ (l_4 ++ [32] ++ l_5) ++ ([32, 61, 32] ++ c)), [])))) (.ret (vs (l_0 ++ (l_4 ++ [32] ++ l_5)), [])))))) :=
 rk_of (by kernel_rfl)
theorem y61_at31 (l_0 : List UInt8) (b_1 : Bool) (n_2 n_3 : Int) (l_4 l_5 : List UInt8) (b_6 : Bool) (n_7 n_8 n_9 : Int) (l_10 : List UInt8) (b_11 : Bool) (l_12 : List D) : rk Tryz.prog polY (.at_ 61 0 [true, true, true, true] (sv 37 [(1, .p 0 0), (3, vs l_0)]) [] [.cells [vb b_1, vi n_2, vi n_3, vs l_4, vs l_5, vb b_6, vi n_7, vi n_8, vu n_9, vs l_10, vl b_11 l_12] []]) = interp (rk Tryz.prog polY) (ift (decide (l_0.length + l_4.length < 4611686018427387904)) (ift (decide ((l_0 ++ l_4).length + 1 < 4611686018427387904)) (ift (decide ((l_0 ++ l_4 ++ [32]).length + l_5.length < 4611686018427387904)) (brB b_6 (ift (decide ((l_0 ++ l_4 ++ [32] ++ l_5).length + 3 < 4611686018427387904)) (cV (.call 22 [.d (.g [.i .i64 n_7, .i .i64 n_8, .i .u64 n_9, .s l_10, .l b_11 l_12])] []) fun a => aS a fun c => ift (decide ((l_0 ++ l_4 ++ [32] ++ l_5 ++ [32, 61, 32]).length + c.length < 4611686018427387904)) (.ret (vs (l_0 ++ l_4 ++ [32] ++ l_5 ++ [32, 61, 32] ++ c), [])))) (.ret (vs (l_0 ++ l_4 ++ [32] ++ l_5), [])))))) :=
 rk_of (by kernel_rfl)
theorem y125_at1611 (b_0 : Bool) (l_1 : List D) (l_2 : List UInt8) (n_3 : Int) : rk Tryz.prog polY (.at_ 125 0 [true, false, false, true, false, false, true, false, true, true] (sv 23 [(0, vl b_0 l_1), (3, vs l_2), (4, vi n_3)]) [] []) = interp (rk Tryz.prog polY) (eL l_1 n_3 11 fun a => cV (.call 61 [.d (.g [gD 11 0 a 0, gD 11 0 a 1, gD 11 0 a 2, gD 11 0 a 3, gD 11 0 a 4, gD 11 0 a 5, gD 11 0 a 6, gD 11 0 a 7, gD 11 0 a 8, gD 11 0 a 9, gD 11 0 a 10])] []) fun b => aS b fun c => ift (decide (l_2.length + c.length < 4611686018427387904)) (.call (.at_ 125 0 [false, true, false, true, true] (sv 23 [(0, vl b_0 l_1), (3, vs (l_2 ++ c)), (4, vi (IntKind.i64.wrap (n_3 + 1)))]) [] []) .ret)) :=
 rk_of (by kernel_rfl)
theorem y62_at63 (l_0 : List UInt8) : rk Tryz.prog polY (.at_ 62 0 [true, true, true, true, true] (sv 35 [(3, vs l_0)]) [] []) = interp (rk Tryz.prog polY) (ift (decide (l_0.length + 2 < 4611686018427387904)) (.ret (vs (l_0 ++ [44, 10]), []))) :=
 rk_of (by kernel_rfl)
theorem y31_at1407 (l_0 : List UInt8) (n_1 n_2 : Int) (l_3 l_4 : List UInt8) (n_5 n_6 n_7 : Int) (l_8 : List UInt8) (b_9 : Bool) (l_10 : List D) (b_11 : Bool) (l_12 : List D) (b_13 : Bool) (l_14 : List D) (l_15 : List UInt8) (b_16 : Bool) (l_17 : List D) : rk Tryz.prog polY (.at_ 31 0 [false, true, false, true, true, true, true, true, true, true] (sv 125 [(1, .p 0 0), (4, vs l_0), (5, vi n_1)]) [] [.cells [vi n_2, vs l_3, vs l_4, vi n_5, vi n_6, vu n_7, vs l_8, vl b_9 l_10, vl b_11 l_12, vl b_13 l_14, vs l_15, vl b_16 l_17] []]) = interp (rk Tryz.prog polY) (brB (decide (n_1 < (l_14.length : Int))) (ift (decide (l_0.length + 2 < 4611686018427387904)) (eC l_14 n_1 3 0 fun a => asS a fun b => ift (decide ((l_0 ++ [32, 32]).length + b.length < 4611686018427387904)) (eC l_14 n_1 3 1 fun c => asB c fun e => brB e (ift (decide ((l_0 ++ [32, 32] ++ b).length + 3 < 4611686018427387904)) (eC l_14 n_1 3 2 fun f => asI .i64 f fun g => cV (.call 47 [vi g] []) fun h => aS h fun j => ift (decide ((l_0 ++ [32, 32] ++ b ++ [32, 61, 32]).length + j.length < 4611686018427387904)) (.call (.at_ 31 0 [true, true, false, false, true, false, false, true, false, true, true, true, true, true, true, true] (sv 125 [(1, .p 0 0), (4, vs (l_0 ++ [32, 32] ++ b ++ [32, 61, 32] ++ j)), (5, vi n_1)]) [] [.cells [vi n_2, vs l_3, vs l_4, vi n_5, vi n_6, vu n_7, vs l_8, vl b_9 l_10, vl b_11 l_12, vl b_13 l_14, vs l_15, vl b_16 l_17] []]) .ret))) (.call (.at_ 31 0 [true, true, false, false, true, false, false, true, false, true, true, true, true, true, true, true] (sv 125 [(1, .p 0 0), (4, vs (l_0 ++ [32, 32] ++ b)), (5, vi n_1)]) [] [.cells [vi n_2, vs l_3, vs l_4, vi n_5, vi n_6, vu n_7, vs l_8, vl b_9 l_10, vl b_11 l_12, vl b_13 l_14, vs l_15, vl b_16 l_17] []]) .ret)))) (.call (.at_ 31 0 [false, true, false, true, true, true, true, true, true, true, true] (sv 125 [(1, .p 0 0), (4, vs l_0), (6, vi 0)]) [] [.cells [vi n_2, vs l_3, vs l_4, vi n_5, vi n_6, vu n_7, vs l_8, vl b_9 l_10, vl b_11 l_12, vl b_13 l_14, vs l_15, vl b_16 l_17] []]) .ret)) :=
 rk_of (by kernel_rfl)
theorem y13_at87 (l_0 : List UInt8) (n_1 : Int) (b_2 : Bool) (l_3 : List D) (b_4 : Bool) (l_5 : List D) (b_6 : Bool) (l_7 : List D) : rk Tryz.prog polY (.at_ 13 0 [false, true, false, true, true, true] (sv 64 [(1, .p 0 0), (3, vs l_0), (5, vi n_1)]) [] [.cells [vl b_2 l_3, vl b_4 l_5, vl b_6 l_7] []]) = interp (rk Tryz.prog polY) (brB (decide (n_1 < (l_5.length : Int))) (ift (decide (l_0.length + 10 < 4611686018427387904)) (eC l_5 n_1 2 0 fun a => asS a fun b => ift (decide ((l_0 ++ [110, 97, 109, 101, 115, 112, 97, 99, 101, 32]).length + b.length < 4611686018427387904)) (ift (decide ((l_0 ++ [110, 97, 109, 101, 115, 112, 97, 99, 101, 32] ++ b).length + 1 < 4611686018427387904)) (eC l_5 n_1 2 1 fun c => asS c fun e => ift (decide ((l_0 ++ [110, 97, 109, 101, 115, 112, 97, 99, 101, 32] ++ b ++ [32]).length + e.length < 4611686018427387904)) (ift (decide ((l_0 ++ [110, 97, 109, 101, 115, 112, 97, 99, 101, 32] ++ b ++ [32] ++ e).length + 1 < 4611686018427387904)) (.call (.at_ 13 0 [false, true, false, true, true, true] (sv 64 [(1, .p 0 0), (3, vs (l_0 ++ [110, 97, 109, 101, 115, 112, 97, 99, 101, 32] ++ b ++ [32] ++ e ++ [10])), (5, vi (IntKind.i64.wrap (n_1 + 1)))]) [] [.cells [vl b_2 l_3, vl b_4 l_5, vl b_6 l_7] []]) .ret)))))) (.call (.at_ 13 0 [false, true, false, true, true, true, true] (sv 64 [(1, .p 0 0), (3, vs l_0), (6, vi 0)]) [] [.cells [vl b_2 l_3, vl b_4 l_5, vl b_6 l_7] []]) .ret)) :=
 rk_of (by kernel_rfl)
theorem y31_at117119 (l_0 : List UInt8) (n_1 n_2 : Int) (l_3 l_4 : List UInt8) (n_5 n_6 n_7 : Int) (l_8 : List UInt8) (b_9 : Bool) (l_10 : List D) (b_11 : Bool) (l_12 : List D) (b_13 : Bool) (l_14 : List D) (l_15 : List UInt8) (b_16 : Bool) (l_17 : List D) : rk Tryz.prog polY (.at_ 31 0 [true, true, false, false, true, false, false, true, false, true, true, true, true, true, true, true] (sv 125 [(1, .p 0 0), (4, vs l_0), (5, vi n_1)]) [] [.cells [vi n_2, vs l_3, vs l_4, vi n_5, vi n_6, vu n_7, vs l_8, vl b_9 l_10, vl b_11 l_12, vl b_13 l_14, vs l_15, vl b_16 l_17] []]) = interp (rk Tryz.prog polY) (ift (decide (l_0.length + 2 < 4611686018427387904)) (.call (.at_ 31 0 [false, true, false, true, true, true, true, true, true, true] (sv 125 [(1, .p 0 0), (4, vs (l_0 ++ [44, 10])), (5, vi (IntKind.i64.wrap (n_1 + 1)))]) [] [.cells [vi n_2, vs l_3, vs l_4, vi n_5, vi n_6, vu n_7, vs l_8, vl b_9 l_10, vl b_11 l_12, vl b_13 l_14, vs l_15, vl b_16 l_17] []]) .ret)) :=
 rk_of (by kernel_rfl)
theorem y31_at2815 (l_0 : List UInt8) (n_1 n_2 : Int) (l_3 l_4 : List UInt8) (n_5 n_6 n_7 : Int) (l_8 : List UInt8) (b_9 : Bool) (l_10 : List D) (b_11 : Bool) (l_12 : List D) (b_13 : Bool) (l_14 : List D) (l_15 : List UInt8) (b_16 : Bool) (l_17 : List D) : rk Tryz.prog polY (.at_ 31 0 [false, true, false, true, true, true, true, true, true, true, true] (sv 125 [(1, .p 0 0), (4, vs l_0), (6, vi n_1)]) [] [.cells [vi n_2, vs l_3, vs l_4, vi n_5, vi n_6, vu n_7, vs l_8, vl b_9 l_10, vl b_11 l_12, vl b_13 l_14, vs l_15, vl b_16 l_17] []]) = interp (rk Tryz.prog polY) (brB (decide (n_1 < (l_12.length : Int))) (ift (decide (l_0.length + 2 < 4611686018427387904)) (eL l_12 n_1 11 fun a => cV (.call 61 [.d (.g [gD 11 0 a 0, gD 11 0 a 1, gD 11 0 a 2, gD 11 0 a 3, gD 11 0 a 4, gD 11 0 a 5, gD 11 0 a 6, gD 11 0 a 7, gD 11 0 a 8, gD 11 0 a 9, gD 11 0 a 10])] []) fun b => aS b fun c => ift (decide ((l_0 ++ [32, 32]).length + c.length < 4611686018427387904)) (ift (decide ((l_0 ++ [32, 32] ++ c).length + 2 < 4611686018427387904)) (.call (.at_ 31 0 [false, true, false, true, true, true, true, true, true, true, true] (sv 125 [(1, .p 0 0), (4, vs (l_0 ++ [32, 32] ++ c ++ [44, 10])), (6, vi (IntKind.i64.wrap (n_1 + 1)))]) [] [.cells [vi n_2, vs l_3, vs l_4, vi n_5, vi n_6, vu n_7, vs l_8, vl b_9 l_10, vl b_11 l_12, vl b_13 l_14, vs l_15, vl b_16 l_17] []]) .ret)))) (.call (.at_ 31 0 [false, true, false, true, true, true, true, true, true, true, true, true] (sv 125 [(1, .p 0 0), (4, vs l_0), (7, vi 0)]) [] [.cells [vi n_2, vs l_3, vs l_4, vi n_5, vi n_6, vu n_7, vs l_8, vl b_9 l_10, vl b_11 l_12, vl b_13 l_14, vs l_15, vl b_16 l_17] []]) .ret)) :=
 rk_of (by kernel_rfl)
theorem y13_at175 (l_0 : List UInt8) (n_1 : Int) (b_2 : Bool) (l_3 : List D) (b_4 : Bool) (l_5 : List D) (b_6 : Bool) (l_7 : List D) : rk Tryz.prog polY (.at_ 13 0 [false, true, false, true, true, true, true] (sv 64 [(1, .p 0 0), (3, vs l_0), (6, vi n_1)]) [] [.cells [vl b_2 l_3, vl b_4 l_5, vl b_6 l_7] []]) = interp (rk Tryz.prog polY) (brB (decide (n_1 < (l_7.length : Int))) (eL l_7 n_1 12 fun a => cV (.call 31 [.d (.g [gD 12 0 a 0, gD 12 0 a 1, gD 12 0 a 2, gD 12 0 a 3, gD 12 0 a 4, gD 12 0 a 5, gD 12 0 a 6, gD 12 0 a 7, gD 12 0 a 8, gD 12 0 a 9, gD 12 0 a 10, gD 12 0 a 11])] []) fun b => aS b fun c => ift (decide (l_0.length + c.length < 4611686018427387904)) (.call (.at_ 13 0 [false, true, false, true, true, true, true] (sv 64 [(1, .p 0 0), (3, vs (l_0 ++ c)), (6, vi (IntKind.i64.wrap (n_1 + 1)))]) [] [.cells [vl b_2 l_3, vl b_4 l_5, vl b_6 l_7] []]) .ret)) (.ret (vs l_0, []))) :=
 rk_of (by kernel_rfl)
theorem y31_at5631 (l_0 : List UInt8) (n_1 n_2 : Int) (l_3 l_4 : List UInt8) (n_5 n_6 n_7 : Int) (l_8 : List UInt8) (b_9 : Bool) (l_10 : List D) (b_11 : Bool) (l_12 : List D) (b_13 : Bool) (l_14 : List D) (l_15 : List UInt8) (b_16 : Bool) (l_17 : List D) : rk Tryz.prog polY (.at_ 31 0 [false, true, false, true, true, true, true, true, true, true, true, true] (sv 125 [(1, .p 0 0), (4, vs l_0), (7, vi n_1)]) [] [.cells [vi n_2, vs l_3, vs l_4, vi n_5, vi n_6, vu n_7, vs l_8, vl b_9 l_10, vl b_11 l_12, vl b_13 l_14, vs l_15, vl b_16 l_17] []]) = interp (rk Tryz.prog polY) (brB (decide (n_1 < (l_17.length : Int))) (eL l_17 n_1 5 fun a => cV (.call 62 [.d (.g [gD 5 0 a 0, gD 5 0 a 1, gD 5 0 a 2, gD 5 0 a 3, gD 5 0 a 4])] []) fun b => aS b fun c => ift (decide (l_0.length + c.length < 4611686018427387904)) (.call (.at_ 31 0 [false, true, false, true, true, true, true, true, true, true, true, true] (sv 125 [(1, .p 0 0), (4, vs (l_0 ++ c)), (7, vi (IntKind.i64.wrap (n_1 + 1)))]) [] [.cells [vi n_2, vs l_3, vs l_4, vi n_5, vi n_6, vu n_7, vs l_8, vl b_9 l_10, vl b_11 l_12, vl b_13 l_14, vs l_15, vl b_16 l_17] []]) .ret)) (ift (decide (l_0.length + 2 < 4611686018427387904)) (.ret (vs (l_0 ++ [125, 10]), [])))) :=
 rk_of (by kernel_rfl)
end Go.Dn.Dec
namespace Go.Dn.Dec
set_option linter.unusedVariables false
def quoteB (s : List UInt8) : List UInt8 := if s.contains 34 = true then [39] ++ s ++ [39] else [34] ++ s ++ [34]
def pairsB : List (List UInt8) → List (List UInt8)
 | a :: b :: r => (a ++ [58, 32] ++ b) :: pairsB r
 | _ => []
abbrev cD (k n u : Int) (s : List UInt8) (b : Bool) (l : List D) : D := .g [.i .i64 k, .i .i64 n, .i .u64 u, .s s, .l b l]
abbrev fD (h : Bool) (id r : Int) (t nm : List UInt8) (hi : Bool) (k n u : Int) (s : List UInt8) (b : Bool) (l : List D) : D := .g [.b h, .i .i64 id, .i .i64 r, .s t, .s nm, .b hi, .i .i64 k, .i .i64 n, .i .u64 u, .s s, .l b l]
abbrev mD (nm : List UInt8) (h : Bool) (n : Int) : D := .g [.s nm, .b h, .i .i64 n]
abbrev meD (nm : List UInt8) (ow : Bool) (ret : List UInt8) (ab : Bool) (al : List D) (tb : Bool) (tl : List D) : D := .g [.s nm, .b ow, .s ret, .l ab al, .l tb tl]
abbrev dD (kd : Int) (nm ty : List UInt8) (ck cn cu : Int) (cs : List UInt8) (cb : Bool) (cl : List D) (fb : Bool) (fl : List D) (mb : Bool) (ml : List D) (ex : List UInt8) (tb : Bool) (tl : List D) : D :=
 .g [.i .i64 kd, .s nm, .s ty, .i .i64 ck, .i .i64 cn, .i .u64 cu, .s cs, .l cb cl, .l fb fl, .l mb ml, .s ex, .l tb tl]
abbrev spD (a b : List UInt8) : D := .g [.s a, .s b]
abbrev fiD (ib : Bool) (il : List D) (sb : Bool) (sl : List D) (db : Bool) (dl : List D) : D := .g [.l ib il, .l sb sl, .l db dl]
mutual
def prC : D → List UInt8
 | .g [.i _ k, .i _ n, .i _ u, .s s, .l _ l] =>
  if k = 1 then decI n else if k = 2 then showB u.toNat else if k = 3 then quoteB s else if k = 4 then s
  else if k = 5 then [91] ++ Lib.join (prCs l) [44, 32] ++ [93] else [123] ++ Lib.join (pairsB (prCs l)) [44, 32] ++ [125]
 | _ => []
def prCs : List D → List (List UInt8)
 | [] => []
 | x :: xs => prC x :: prCs xs
end
def prF : D → List UInt8
 | .g [.b h, .i _ id, .i _ r, .s t, .s nm, .b hi, k, n, u, s, l] =>
  (if h = true then decI id ++ [58, 32] else []) ++ (if r = 1 then [114, 101, 113, 117, 105, 114, 101, 100, 32] else if r = 2 then [111, 112, 116, 105, 111, 110, 97, 108, 32] else [])
   ++ t ++ [32] ++ nm ++ (if hi = true then [32, 61, 32] ++ prC (.g [k, n, u, s, l]) else [])
 | _ => []
def prFs (l : List D) : List UInt8 := Lib.join (l.map prF) [44, 32]
def prM : D → List UInt8
 | .g [.s nm, .b h, .i _ n] => [32, 32] ++ nm ++ (if h = true then [32, 61, 32] ++ decI n else []) ++ [44, 10]
 | _ => []
def prL (x : D) : List UInt8 := [32, 32] ++ prF x ++ [44, 10]
def prMe : D → List UInt8
 | .g [.s nm, .b ow, .s ret, .l _ al, .l _ tl] =>
  [32, 32] ++ (if ow = true then [111, 110, 101, 119, 97, 121, 32] else []) ++ ret ++ [32] ++ nm ++ [40] ++ prFs al ++ [41]
   ++ (if tl = [] then [] else [32, 116, 104, 114, 111, 119, 115, 32, 40] ++ prFs tl ++ [41]) ++ [44, 10]
 | _ => []
def kwB (kd : Int) : List UInt8 :=
 if kd = 4 then [115, 116, 114, 117, 99, 116, 32] else if kd = 5 then [117, 110, 105, 111, 110, 32] else [101, 120, 99, 101, 112, 116, 105, 111, 110, 32]
def prD : D → List UInt8
 | .g [.i _ kd, .s nm, .s ty, ck, cn, cu, cs, cl, .l _ fl, .l _ ml, .s ex, .l _ tl] =>
  if kd = 1 then [116, 121, 112, 101, 100, 101, 102, 32] ++ ty ++ [32] ++ nm ++ [10]
  else if kd = 3 then [99, 111, 110, 115, 116, 32] ++ ty ++ [32] ++ nm ++ [32, 61, 32] ++ prC (.g [ck, cn, cu, cs, cl]) ++ [10]
  else if kd = 2 then [101, 110, 117, 109, 32] ++ nm ++ [32, 123, 10] ++ (ml.map prM).flatten ++ [125, 10]
  else if kd = 7 then [115, 101, 114, 118, 105, 99, 101, 32] ++ nm ++ (if ex = [] then [] else [32, 101, 120, 116, 101, 110, 100, 115, 32] ++ ex) ++ [32, 123, 10] ++ (tl.map prMe).flatten ++ [125, 10]
  else kwB kd ++ nm ++ [32, 123, 10] ++ (fl.map prL).flatten ++ [125, 10]
 | _ => []
def prI : D → List UInt8
 | .s s => [105, 110, 99, 108, 117, 100, 101, 32, 34] ++ s ++ [34, 10]
 | _ => []
def prS : D → List UInt8
 | .g [.s a, .s b] => [110, 97, 109, 101, 115, 112, 97, 99, 101, 32] ++ a ++ [32] ++ b ++ [10]
 | _ => []
def prFi : D → List UInt8
 | .g [.l _ il, .l _ sl, .l _ dl] => (il.map prI).flatten ++ (sl.map prS).flatten ++ (dl.map prD).flatten
 | _ => []
mutual
def eqC : D → D → Bool
 | .g [.i _ k, .i _ n, .i _ u, .s s, .l _ l], .g [.i _ k', .i _ n', .i _ u', .s s', .l _ l'] => k == k' && (n == n' && (u == u' && (s == s' && eqCs l l')))
 | _, _ => false
def eqCs : List D → List D → Bool
 | [], [] => true
 | x :: xs, y :: ys => eqC x y && eqCs xs ys
 | _, _ => false
end
def eqL (f : D → D → Bool) : List D → List D → Bool
 | [], [] => true
 | x :: xs, y :: ys => f x y && eqL f xs ys
 | _, _ => false
def eqF : D → D → Bool
 | .g [.b h, .i _ id, .i _ r, .s t, .s nm, .b hi, k, n, u, s, l], .g [.b h', .i _ id', .i _ r', .s t', .s nm', .b hi', k', n', u', s', l'] =>
  h == h' && (id == id' && (r == r' && (t == t' && (nm == nm' && (hi == hi' && eqC (.g [k, n, u, s, l]) (.g [k', n', u', s', l']))))))
 | _, _ => false
def eqM : D → D → Bool
 | .g [.s nm, .b h, .i _ n], .g [.s nm', .b h', .i _ n'] => nm == nm' && (h == h' && n == n')
 | _, _ => false
def eqMe : D → D → Bool
 | .g [.s nm, .b ow, .s ret, .l _ al, .l _ tl], .g [.s nm', .b ow', .s ret', .l _ al', .l _ tl'] => nm == nm' && (ow == ow' && (ret == ret' && (eqL eqF al al' && eqL eqF tl tl')))
 | _, _ => false
def eqD : D → D → Bool
 | .g [.i _ kd, .s nm, .s ty, ck, cn, cu, cs, cl, .l _ fl, .l _ ml, .s ex, .l _ tl], .g [.i _ kd', .s nm', .s ty', ck', cn', cu', cs', cl', .l _ fl', .l _ ml', .s ex', .l _ tl'] =>
  kd == kd' && (nm == nm' && (ty == ty' && (eqC (.g [ck, cn, cu, cs, cl]) (.g [ck', cn', cu', cs', cl']) && (eqL eqF fl fl' && (eqL eqM ml ml' && (ex == ex' && eqL eqMe tl tl'))))))
 | _, _ => false
def eqI : D → D → Bool
 | .s a, .s b => a == b
 | _, _ => false
def eqS : D → D → Bool
 | .g [.s a, .s b], .g [.s a', .s b'] => a == a' && b == b'
 | _, _ => false
def eqFi : D → D → Bool
 | .g [.l _ il, .l _ sl, .l _ dl], .g [.l _ il', .l _ sl', .l _ dl'] => eqL eqI il il' && (eqL eqS sl sl' && eqL eqD dl dl')
 | _, _ => false
def I64 (n : Int) : Prop := -9223372036854775808 ≤ n ∧ n ≤ 9223372036854775807
def U64 (n : Int) : Prop := 0 ≤ n ∧ n < 18446744073709551616
def Kn : D → Prop
 | .g (.i _ k :: _) => k ≠ 0
 | _ => True
def WC : Nat → D → Prop
 | 0, _ => False
 | d + 1, x => ∃ (k n u : Int) (s : List UInt8) (b : Bool) (l : List D), x = cD k n u s b l ∧ I64 n ∧ U64 u ∧ s.length ≤ 2000 ∧ l.length ≤ 100 ∧ (k = 0 ∨ (1 ≤ k ∧ k ≤ 5) ∨ l.length % 2 = 0) ∧ ∀ y ∈ l, WC d y ∧ Kn y
abbrev deepC : Nat := 20
def WF (x : D) : Prop := ∃ (h : Bool) (id r : Int) (t nm : List UInt8) (hi : Bool) (k n u : Int) (s : List UInt8) (b : Bool) (l : List D), x = fD h id r t nm hi k n u s b l ∧ I64 id ∧ t.length ≤ 100000 ∧ nm.length ≤ 2000 ∧ (hi = true → k ≠ 0) ∧ WC deepC (cD k n u s b l)
def WM (x : D) : Prop := ∃ (nm : List UInt8) (h : Bool) (n : Int), x = mD nm h n ∧ nm.length ≤ 2000 ∧ I64 n
def WMe (x : D) : Prop := ∃ (nm : List UInt8) (ow : Bool) (ret : List UInt8) (ab : Bool) (al : List D) (tb : Bool) (tl : List D), x = meD nm ow ret ab al tb tl ∧ nm.length ≤ 2000 ∧ ret.length ≤ 100000 ∧ al.length ≤ 100 ∧ tl.length ≤ 100 ∧ (∀ y ∈ al, WF y) ∧ ∀ y ∈ tl, WF y
def WD (x : D) : Prop := ∃ (kd : Int) (nm ty : List UInt8) (ck cn cu : Int) (cs : List UInt8) (cb : Bool) (cl : List D) (fb : Bool) (fl : List D) (mb : Bool) (ml : List D) (ex : List UInt8) (tb : Bool) (tl : List D),
 x = dD kd nm ty ck cn cu cs cb cl fb fl mb ml ex tb tl ∧ 1 ≤ kd ∧ kd ≤ 7 ∧ nm.length ≤ 2000 ∧ ty.length ≤ 100000 ∧ (kd = 3 → ck ≠ 0) ∧ WC deepC (cD ck cn cu cs cb cl) ∧
  fl.length ≤ 100 ∧ (∀ y ∈ fl, WF y) ∧ ml.length ≤ 100 ∧ (∀ y ∈ ml, WM y) ∧ ex.length ≤ 2000 ∧ tl.length ≤ 100 ∧ (∀ y ∈ tl, WMe y) ∧
  (kd = 2 → fl = [] ∧ tl = [] ∧ ex = []) ∧ (4 ≤ kd ∧ kd ≤ 6 → ml = [] ∧ tl = [] ∧ ex = []) ∧ (kd = 7 → fl = [] ∧ ml = [])
def WI (x : D) : Prop := ∃ s : List UInt8, x = .s s ∧ s.length ≤ 2000 ∧ s.contains 34 = false
def WS (x : D) : Prop := ∃ a b : List UInt8, x = spD a b ∧ a.length ≤ 2000 ∧ b.length ≤ 2000
def WFi (x : D) : Prop := ∃ (ib : Bool) (il : List D) (sb : Bool) (sl : List D) (db : Bool) (dl : List D), x = fiD ib il sb sl db dl ∧ il.length ≤ 100 ∧ sl.length ≤ 100 ∧ dl.length ≤ 100 ∧ (∀ y ∈ il, WI y) ∧ (∀ y ∈ sl, WS y) ∧ ∀ y ∈ dl, WD y
theorem WC.up : ∀ {d : Nat} {x : D}, WC d x → WC (d + 1) x
 | 0, _, h => h.elim
 | d + 1, x, h => by
  obtain ⟨k, n, u, s, b, l, rfl, h1, h2, h3, h4, h6, h5⟩ := h
  exact ⟨k, n, u, s, b, l, rfl, h1, h2, h3, h4, h6, fun y hy => ⟨(h5 y hy).1.up, (h5 y hy).2⟩⟩
theorem WC.le {d e : Nat} (h : d ≤ e) {x : D} (hx : WC d x) : WC e x := by
 induction h with
 | refl => exact hx
 | step _ ih => exact ih.up
theorem eqCs_self : ∀ {l : List D}, (∀ y ∈ l, eqC y y = true) → eqCs l l = true
 | [], _ => by simp only [eqCs]
 | x :: xs, h => by
  simp only [eqCs, Bool.and_eq_true]
  exact ⟨h x (by simp), eqCs_self fun y hy => h y (by simp [hy])⟩
theorem WC.self : ∀ {d : Nat} {x : D}, WC d x → eqC x x = true
 | 0, _, h => h.elim
 | d + 1, x, h => by
  obtain ⟨k, n, u, s, b, l, rfl, _, _, _, _, _, h5⟩ := h
  simp only [eqC, beq_self_eq_true, Bool.true_and]
  exact eqCs_self fun y hy => (h5 y hy).1.self
theorem eqL_self {f : D → D → Bool} : ∀ {l : List D}, (∀ y ∈ l, f y y = true) → eqL f l l = true
 | [], _ => rfl
 | x :: xs, h => by
  simp only [eqL, Bool.and_eq_true]
  exact ⟨h x (by simp), eqL_self fun y hy => h y (by simp [hy])⟩
theorem WF.self {x : D} (h : WF x) : eqF x x = true := by
 obtain ⟨_, _, _, _, _, _, _, _, _, _, _, _, rfl, _, _, _, _, h⟩ := h
 simp only [eqF, beq_self_eq_true, Bool.true_and]; exact h.self
theorem WM.self {x : D} (h : WM x) : eqM x x = true := by
 obtain ⟨_, _, _, rfl, _⟩ := h
 simp only [eqM, beq_self_eq_true, Bool.and_self]
theorem WMe.self {x : D} (h : WMe x) : eqMe x x = true := by
 obtain ⟨_, _, _, _, _, _, _, rfl, _, _, _, _, h1, h2⟩ := h
 simp only [eqMe, beq_self_eq_true, Bool.true_and, Bool.and_eq_true]
 exact ⟨eqL_self fun y hy => (h1 y hy).self, eqL_self fun y hy => (h2 y hy).self⟩
theorem WD.self {x : D} (h : WD x) : eqD x x = true := by
 obtain ⟨_, _, _, _, _, _, _, _, _, _, _, _, _, _, _, _, rfl, _, _, _, _, _, h1, _, h2, _, h3, _, _, h4, _⟩ := h
 simp only [eqD, beq_self_eq_true, Bool.true_and, Bool.and_eq_true]
 exact ⟨h1.self, eqL_self fun y hy => (h2 y hy).self, eqL_self fun y hy => (h3 y hy).self, eqL_self fun y hy => (h4 y hy).self⟩
theorem WFi.self {x : D} (h : WFi x) : eqFi x x = true := by
 obtain ⟨_, _, _, _, _, _, rfl, _, _, _, h1, h2, h3⟩ := h
 simp only [eqFi, Bool.and_eq_true]
 refine ⟨eqL_self fun y hy => ?_, eqL_self fun y hy => ?_, eqL_self fun y hy => (h3 y hy).self⟩
 ·obtain ⟨s, rfl, _⟩ := h1 y hy
  simp only [eqI, beq_self_eq_true]
 ·obtain ⟨a, b, rfl, _⟩ := h2 y hy
  simp only [eqS, beq_self_eq_true, Bool.and_self]
end Go.Dn.Dec
namespace Go.Dn.Dec
open Go.Proofs
theorem y24 (f : Bool) (l : List D) (n m : Int) : rk Tryz.prog polY (.call 24 [.p 0 0, vi m] [.cells [vl f l, vi n] []]) = interp (rk Tryz.prog polY) (brB (decide (n ≥ (l.length : Int))) (.ret (vi 0, [.cells [vl f l, vi n] []])) (eC l (IntKind.i64.wrap (IntKind.i64.wrap (n + 1) - 1)) 1 0 fun a => asI .u8 a fun b => ift (decide (m ≠ 0)) (.ret (vi ((IntKind.i64.wrap b).tmod m), [.cells [vl f l, vi (IntKind.i64.wrap (n + 1))] []])))) :=
 rk_of (by kernel_rfl)
theorem y121 (f : Bool) (l : List D) (n : Int) (s : List UInt8) : rk Tryz.prog polY (.call 121 [.p 0 0, vs s] [.cells [vl f l, vi n] []]) = interp (rk Tryz.prog polY) (ift (decide (s.length + 1 < 4611686018427387904)) (c1 (.call 24 [.p 0 0, vi 8] [.cells [vl f l, vi n] []]) 2 [] fun a b => aI a fun c => eC [.s [105, 51, 50], .s [115, 116, 114, 105, 110, 103], .s [98, 111, 111, 108], .s (s ++ [69]), .s [105, 54, 52], .s [98, 105, 110, 97, 114, 121], .s [100, 111, 117, 98, 108, 101], .s [105, 56]] c 1 0 fun e => asS e fun g => .ret (vs g, [.cells b []]))) :=
 rk_of (by kernel_rfl)
theorem y55 (f : Bool) (l : List D) (n : Int) (s : List UInt8) (d : Int) : rk Tryz.prog polY (.call 55 [.p 0 0, vs s, vi d] [.cells [vl f l, vi n] []]) = interp (rk Tryz.prog polY) (c1 (.call 24 [.p 0 0, vi 18] [.cells [vl f l, vi n] []]) 2 [] fun a b => aI a fun c => brB (decide (d > 2)) (.call (.at_ 55 1 [true, true, true] (sv 67 [(0, .p 0 0), (1, vs s), (2, vi d), (7, vi (c.tmod 12))]) [] [.cells b []]) .ret) (.call (.at_ 55 1 [true, true, true] (sv 67 [(0, .p 0 0), (1, vs s), (2, vi d), (7, vi c)]) [] [.cells b []]) .ret)) :=
 rk_of (by kernel_rfl)
theorem y120 (f : Bool) (l : List D) (n : Int) (t s : List UInt8) : rk Tryz.prog polY (.call 120 [.p 0 0, vs t, vs s] [.cells [vl f l, vi n] []]) = interp (rk Tryz.prog polY) (brB (t == [105, 51, 50]) (.call (.at_ 120 1 [true, false, true, false, true] (sv 61 [(0, .p 0 0), (2, vs s), (6, .p 1 0), (7, vs t), (8, vb (t == [105, 51, 50]))]) [] [.cells [vi 0, vi 0, vu 0, vs [], vl true []] [], .cells [vl f l, vi n] []]) .ret) (brB (t == [105, 54, 52]) (.call (.at_ 120 1 [true, false, true, false, true] (sv 61 [(0, .p 0 0), (2, vs s), (6, .p 1 0), (7, vs t), (8, vb (t == [105, 54, 52]))]) [] [.cells [vi 0, vi 0, vu 0, vs [], vl true []] [], .cells [vl f l, vi n] []]) .ret) (brB (t == [105, 49, 54]) (.call (.at_ 120 1 [true, false, true, false, true] (sv 61 [(0, .p 0 0), (2, vs s), (6, .p 1 0), (7, vs t), (8, vb (t == [105, 49, 54]))]) [] [.cells [vi 0, vi 0, vu 0, vs [], vl true []] [], .cells [vl f l, vi n] []]) .ret) (.call (.at_ 120 1 [true, false, true, false, true] (sv 61 [(0, .p 0 0), (2, vs s), (6, .p 1 0), (7, vs t), (8, vb (t == [105, 56]))]) [] [.cells [vi 0, vi 0, vu 0, vs [], vl true []] [], .cells [vl f l, vi n] []]) .ret)))) :=
 rk_of (by kernel_rfl)
theorem y55_at15 (l_0 : List UInt8) (n_1 n_2 : Int) (l_3 : List V) : rk Tryz.prog polY (.at_ 55 1 [true, true, true] (sv 67 [(0, .p 0 0), (1, vs l_0), (2, vi n_1), (7, vi n_2)]) [] [.cells l_3 []]) = interp (rk Tryz.prog polY) (ift (decide (l_0.length + 1 < 4611686018427387904)) (ift (decide (l_0.length + 1 < 4611686018427387904)) (ift (decide (l_0.length + 1 < 4611686018427387904)) (ift (decide (l_0.length + 1 < 4611686018427387904)) (brB (decide (n_2 < 14)) (eC [.s [105, 51, 50], .s [115, 116, 114, 105, 110, 103], .s [98, 111, 111, 108], .s [105, 56], .s [105, 49, 54], .s [105, 54, 52], .s [100, 111, 117, 98, 108, 101], .s [98, 105, 110, 97, 114, 121], .s (l_0 ++ [69]), .s (l_0 ++ [84]), .s [105, 51, 50], .s [115, 116, 114, 105, 110, 103], .s (l_0 ++ [80]), .s (l_0 ++ [85])] n_2 1 0 fun a => asS a fun c => .ret (vs c, [.cells l_3 []])) (brB (n_2 == 14) (.call (.at_ 55 1 [true, true, true, false, false, true, true, true, true] (sv 67 [(0, .p 0 0), (1, vs l_0), (2, vi n_1), (7, vi n_2), (33, vb true)]) [] [.cells l_3 []]) .ret) (.call (.at_ 55 1 [true, true, true, false, false, true, true, true, true] (sv 67 [(0, .p 0 0), (1, vs l_0), (2, vi n_1), (7, vi n_2), (33, vb (n_2 == 15))]) [] [.cells l_3 []]) .ret))))))) :=
 rk_of (by kernel_rfl)
theorem y120_at53 (l_0 l_1 : List UInt8) (b_2 : Bool) (n_3 n_4 n_5 : Int) (l_6 : List UInt8) (b_7 : Bool) (l_8 : List D) (b_9 : Bool) (l_10 : List D) (n_11 : Int) : rk Tryz.prog polY (.at_ 120 1 [true, false, true, false, true] (sv 61 [(0, .p 0 0), (2, vs l_0), (6, .p 1 0), (7, vs l_1), (8, vb b_2)]) [] [.cells [vi n_3, vi n_4, vu n_5, vs l_6, vl b_7 l_8] [], .cells [vl b_9 l_10, vi n_11] []]) = interp (rk Tryz.prog polY) (brB b_2 (c1 (.call 24 [.p 0 0, vi 200] [.cells [vl b_9 l_10, vi n_11] []]) 2 [] fun o_0 l_3 => aI o_0 fun n_6 => .ret (.d (.g [.i .i64 1, .i .i64 (IntKind.i64.wrap (n_6 - 72)), .i .u64 0, .s [], .l true []]), [.cells l_3 []])) (brB (l_1 == [100, 111, 117, 98, 108, 101]) (c1 (.call 24 [.p 0 0, vi 255] [.cells [vl b_9 l_10, vi n_11] []]) 2 [] fun o_7 l_10 => aI o_7 fun n_13 => c1 (.call 24 [.p 0 0, vi 255] [.cells l_10 []]) l_10.length [] fun o_14 l_17 => aI o_14 fun n_20 => .ret (.d (.g [.i .i64 2, .i .i64 0, .i .u64 (IntKind.u64.wrap ((BitVec.ofInt IntKind.u64.bits (IntKind.u64.wrap (IntKind.u64.wrap n_13 * 36028797018963968)) ||| BitVec.ofInt IntKind.u64.bits (IntKind.u64.wrap (IntKind.u64.wrap n_20 * 1099511627776))).toNat : Int)), .s [], .l true []]), [.cells l_17 []])) (brB (l_1 == [115, 116, 114, 105, 110, 103]) (.call (.at_ 120 1 [true, true, true, true, true, false, true, false, true] (sv 61 [(0, .p 0 0), (2, vs l_0), (6, .p 1 0), (7, vs l_1), (29, vb (l_1 == [115, 116, 114, 105, 110, 103]))]) [] [.cells [vi n_3, vi n_4, vu n_5, vs l_6, vl b_7 l_8] [], .cells [vl b_9 l_10, vi n_11] []]) .ret) (.call (.at_ 120 1 [true, true, true, true, true, false, true, false, true] (sv 61 [(0, .p 0 0), (2, vs l_0), (6, .p 1 0), (7, vs l_1), (29, vb (l_1 == [98, 105, 110, 97, 114, 121]))]) [] [.cells [vi n_3, vi n_4, vu n_5, vs l_6, vl b_7 l_8] [], .cells [vl b_9 l_10, vi n_11] []]) .ret)))) :=
 rk_of (by kernel_rfl)
theorem y55_at975 (l_0 : List UInt8) (n_1 n_2 : Int) (b_3 : Bool) (l_4 : List V) : rk Tryz.prog polY (.at_ 55 1 [true, true, true, false, false, true, true, true, true] (sv 67 [(0, .p 0 0), (1, vs l_0), (2, vi n_1), (7, vi n_2), (33, vb b_3)]) [] [.cells l_4 []]) = interp (rk Tryz.prog polY) (brB b_3 (c1 (.call 55 [.p 0 0, vs l_0, vi (IntKind.i64.wrap (n_1 + 1))] [.cells l_4 []]) l_4.length [] fun a c => aS a fun e => ift (decide (5 + e.length < 4611686018427387904)) (ift (decide (([108, 105, 115, 116, 60] ++ e).length + 1 < 4611686018427387904)) (.ret (vs ([108, 105, 115, 116, 60] ++ e ++ [62]), [.cells c []])))) (brB (n_2 == 16) (c1 (.call 121 [.p 0 0, vs l_0] [.cells l_4 []]) l_4.length [] fun f g => aS f fun h => ift (decide (4 + h.length < 4611686018427387904)) (ift (decide (([115, 101, 116, 60] ++ h).length + 1 < 4611686018427387904)) (.ret (vs ([115, 101, 116, 60] ++ h ++ [62]), [.cells g []])))) (c1 (.call 121 [.p 0 0, vs l_0] [.cells l_4 []]) l_4.length [] fun j k => aS j fun l => ift (decide (4 + l.length < 4611686018427387904)) (ift (decide (([109, 97, 112, 60] ++ l).length + 1 < 4611686018427387904)) (c1 (.call 55 [.p 0 0, vs l_0, vi (IntKind.i64.wrap (n_1 + 1))] [.cells k []]) k.length [] fun m n => aS m fun o => ift (decide (([109, 97, 112, 60] ++ l ++ [44]).length + o.length < 4611686018427387904)) (ift (decide (([109, 97, 112, 60] ++ l ++ [44] ++ o).length + 1 < 4611686018427387904)) (.ret (vs ([109, 97, 112, 60] ++ l ++ [44] ++ o ++ [62]), [.cells n []])))))))) :=
 rk_of (by kernel_rfl)
theorem y120_at1013 (l_0 l_1 : List UInt8) (b_2 : Bool) (n_3 n_4 n_5 : Int) (l_6 : List UInt8) (b_7 : Bool) (l_8 : List D) (b_9 : Bool) (l_10 : List D) (n_11 : Int) : rk Tryz.prog polY (.at_ 120 1 [true, true, true, true, true, false, true, false, true] (sv 61 [(0, .p 0 0), (2, vs l_0), (6, .p 1 0), (7, vs l_1), (29, vb b_2)]) [] [.cells [vi n_3, vi n_4, vu n_5, vs l_6, vl b_7 l_8] [], .cells [vl b_9 l_10, vi n_11] []]) = interp (rk Tryz.prog polY) (brB b_2 (c1 (.call 24 [.p 0 0, vi 4] [.cells [vl b_9 l_10, vi n_11] []]) 2 [] fun o_0 l_3 => aI o_0 fun n_6 => eC [.s [], .s [97], .s [120, 32, 121], .s [105, 116, 39, 115]] n_6 1 0 fun d_9 => asS d_9 fun l_10 => .ret (.d (.g [.i .i64 3, .i .i64 0, .i .u64 0, .s l_10, .l true []]), [.cells l_3 []])) (brB (l_1 == [98, 111, 111, 108]) (c1 (.call 24 [.p 0 0, vi 2] [.cells [vl b_9 l_10, vi n_11] []]) 2 [] fun o_11 l_14 => aI o_11 fun n_17 => eC [.s [116, 114, 117, 101], .s [102, 97, 108, 115, 101]] n_17 1 0 fun d_20 => asS d_20 fun l_21 => .ret (.d (.g [.i .i64 4, .i .i64 0, .i .u64 0, .s l_21, .l true []]), [.cells l_14 []])) (ift (decide (l_0.length + 1 < 4611686018427387904)) (brB (l_1 == l_0 ++ [69]) (ift (decide (l_0.length + 3 < 4611686018427387904)) (.ret (.d (.g [.i .i64 4, .i .i64 0, .i .u64 0, .s (l_0 ++ [69, 46, 65]), .l true []]), [.cells [vl b_9 l_10, vi n_11] []]))) (ift (decide (l_0.length + 1 < 4611686018427387904)) (brB (l_1 == l_0 ++ [84]) (ift (decide (l_0.length + 1 < 4611686018427387904)) (.ret (.d (.g [.i .i64 4, .i .i64 0, .i .u64 0, .s (l_0 ++ [67]), .l true []]), [.cells [vl b_9 l_10, vi n_11] []]))) (.ret (.d (.g [.i .i64 5, .i .i64 0, .i .u64 0, .s [], .l true []]), [.cells [vl b_9 l_10, vi n_11] []])))))))) :=
 rk_of (by kernel_rfl)
end Go.Dn.Dec
namespace Go.Dn.Dec
open Go.Proofs
set_option linter.unusedVariables false
set_option linter.unusedSimpArgs false
theorem yl_S {f : Task → Option Out} {l : List D} {i : Nat} {s : List UInt8} (h : l[i]? = some (.s s)) {K : List UInt8 → Tr} :
  interp f (ob (getI l (i : Int)) fun d => ift (d.width == 1) (ob l[((i : Int)).toNat]? fun d2 => ob d2.cells[0]? fun d3 => asS d3 K)) = interp f (K s) := by
 rw [getI_nat, st_ob h]
 show interp f (ift true (ob l[((i : Int)).toNat]? fun d2 => ob d2.cells[0]? fun d3 => asS d3 K)) = _
 rw [st_ift, Int.toNat_natCast, st_ob h]; rfl
theorem yl_I {f : Task → Option Out} {l : List D} {i : Nat} {k : IntKind} {v : Int} (h : l[i]? = some (.i k v)) {K : Int → Tr} :
  interp f (ob (getI l (i : Int)) fun d => ift (d.width == 1) (ob l[((i : Int)).toNat]? fun d2 => ob d2.cells[0]? fun d3 => asI k d3 K)) = interp f (K v) := by
 rw [getI_nat, st_ob h]
 show interp f (ift true (ob l[((i : Int)).toNat]? fun d2 => ob d2.cells[0]? fun d3 => asI k d3 K)) = _
 rw [st_ift, Int.toNat_natCast, st_ob h]
 show interp f (asI k (.i k v) K) = _
 rw [interp_asI, if_pos rfl]
theorem so_S {f : Task → Option Out} {t : Task} {s : List UInt8} {cs : List V} {fl fl' : Fl} {m : Nat} {K : List V → List UInt8 → Tr} (h : f t = some (.d (.s s), [.cells cs fl])) (hm : cs.length = m) (hf : (fl == fl') = true) :
  interp f (.call t fun o => unCons o.snd fun x l2 => unCells x fun c g => ift (c.length == m) (ift (g == fl') (unNil l2 (asD o.fst fun d => asS d fun y => K c y)))) = interp f (K cs s) := by
 rw [st_call h]
 show interp f (ift (cs.length == m) (ift (fl == fl') (K cs s))) = _
 rw [hm, beq_self_eq_true, st_ift, hf, st_ift]
abbrev pkc (zs : List Int) (n : Nat) : List V := [V.d (D.l false (ints .u8 zs)), V.d (D.i .i64 (n : Int))]
abbrev pk (zs : List Int) (n : Nat) : Ob := Ob.cells (pkc zs n) []
structure Pk (zs : List Int) (n : Nat) : Prop where
 w : ∀ z ∈ zs, 0 ≤ z ∧ z < 256
 l : zs.length ≤ 1000
 n : n ≤ zs.length
theorem num_s {zs : List Int} {n m : Nat} (h : Pk zs n) (M : Int) (hM : M = (m : Int)) (hm : 0 < m) (hm2 : m < 1000000) : ∃ k n' : Nat, k < m ∧ Pk zs n' ∧
  rk Tryz.prog polY (Task.call 24 [V.p 0 0, V.d (D.i .i64 M)] [pk zs n]) = some (.d (.i .i64 (k : Int)), [pk zs n']) := by
 subst hM
 have hlen : (ints .u8 zs).length = zs.length := ints_length _ _
 have hl := h.l
 have hn := h.n
 by_cases hc : n < zs.length
 ·have hz := h.w _ (List.getElem_mem hc)
  have hget : (ints .u8 zs)[n]? = some (.i .u8 zs[n]) := by simp [ints, List.getElem?_eq_getElem hc]
  refine ⟨zs[n].toNat % m, n + 1, Nat.mod_lt _ hm, ⟨h.w, h.l, hc⟩, ?_⟩
  have w1 : IntKind.i64.wrap ((n : Int) + 1) = ((n + 1 : Nat) : Int) := by rw [wrap_i64] <;> omega
  have w2 : IntKind.i64.wrap (((n + 1 : Nat) : Int) - 1) = (n : Int) := by rw [wrap_i64] <;> omega
  have w3 : IntKind.i64.wrap zs[n] = zs[n] := by rw [wrap_i64] <;> omega
  unfold pk pkc
  rw [y24, st_f (by rw [hlen]; omega), w1, w2, yl_I hget, st_if (by omega), w3]
  show some _ = some _
  have : (zs[n]).tmod (m : Int) = ((zs[n].toNat % m : Nat) : Int) := by
   conv => lhs; rw [← Int.toNat_of_nonneg hz.1]
   rfl
  rw [this]
 ·refine ⟨0, n, hm, h, ?_⟩
  unfold pk pkc
  rw [y24, st_t (by rw [hlen]; omega)]; rfl
theorem key_s {zs : List Int} {n : Nat} (h : Pk zs n) (s : List UInt8) (hs : s.length ≤ 100) : ∃ (t : List UInt8) (n' : Nat), t.length ≤ s.length + 6 ∧ Pk zs n' ∧
  rk Tryz.prog polY (Task.call 121 [V.p 0 0, V.d (D.s s)] [pk zs n]) = some (.d (.s t), [pk zs n']) := by
 obtain ⟨k, n', hk, h', hr⟩ := num_s h (m := 8) 8 rfl (by omega) (by omega)
 have hx : ∃ t : List UInt8, ([D.s [105, 51, 50], D.s [115, 116, 114, 105, 110, 103], D.s [98, 111, 111, 108], D.s (s ++ [69]), D.s [105, 54, 52], D.s [98, 105, 110, 97, 114, 121], D.s [100, 111, 117, 98, 108, 101], D.s [105, 56]] : List D)[k]? = some (.s t) ∧ t.length ≤ s.length + 6 := by
  rcases k with _ | _ | _ | _ | _ | _ | _ | _ | k
  all_goals first
   | exact ⟨_, rfl, by simp⟩
   | omega
 obtain ⟨t, ht, hl⟩ := hx
 refine ⟨t, n', hl, h', ?_⟩
 rw [y121, st_if (by omega), so_I (m := 2) (fl' := []) hr rfl rfl, yl_S ht]
 rfl
end Go.Dn.Dec
namespace Go.Dn.Dec
open Go.Proofs
set_option linter.unusedVariables false
set_option linter.unusedSimpArgs false
def TypOk (d B : Nat) : Prop := ∀ (zs : List Int) (n : Nat) (s : List UInt8), Pk zs n → s.length ≤ 100 → ∃ (t : List UInt8) (n' : Nat), t.length ≤ B ∧ Pk zs n' ∧
 rk Tryz.prog polY (Task.call 55 [V.p 0 0, V.d (D.s s), V.d (D.i .i64 (d : Int))] [pk zs n]) = some (.d (.s t), [pk zs n'])
theorem typ_leaf {k : Nat} (hk : k < 14) (s : List UInt8) (hs : s.length ≤ 100) (d : Int) (cs : List V) : ∃ t : List UInt8, t.length ≤ 106 ∧
    rk Tryz.prog polY (Task.at_ 55 1 [true, true, true] (sv 67 [(0, V.p 0 0), (1, V.d (D.s s)), (2, V.d (D.i .i64 d)), (7, V.d (D.i .i64 (k : Int)))]) [] [Ob.cells cs []]) = some (.d (.s t), [Ob.cells cs []]) := by
  have hx : ∃ t : List UInt8, ([D.s [105, 51, 50], D.s [115, 116, 114, 105, 110, 103], D.s [98, 111, 111, 108], D.s [105, 56], D.s [105, 49, 54], D.s [105, 54, 52], D.s [100, 111, 117, 98, 108, 101],
                D.s [98, 105, 110, 97, 114, 121], D.s (s ++ [69]), D.s (s ++ [84]), D.s [105, 51, 50], D.s [115, 116, 114, 105, 110, 103], D.s (s ++ [80]), D.s (s ++ [85])] : List D)[k]? = some (.s t) ∧ t.length ≤ 106 := by
    rcases k with _ | _ | _ | _ | _ | _ | _ | _ | _ | _ | _ | _ | _ | _ | k
    all_goals first
      | (refine ⟨_, rfl, ?_⟩; simp; done)
      | (refine ⟨_, rfl, ?_⟩; simp; omega)
      | omega
  obtain ⟨t, ht, hl⟩ := hx
  refine ⟨t, hl, ?_⟩
  rw [y55_at15, st_if (by omega), st_if (by omega), st_if (by omega), st_if (by omega), st_t (by omega), yl_S ht]
  rfl
theorem typ_3 : TypOk 3 106 := by
 intro zs n s h hs
 obtain ⟨k, n', hk, h', hr⟩ := num_s h (m := 18) 18 rfl (by omega) (by omega)
 obtain ⟨t, ht, hl⟩ := typ_leaf (k := k % 12) (by omega) s hs 3 (pkc zs n')
 refine ⟨t, n', ht, h', ?_⟩
 have e : ((k : Int)).tmod 12 = ((k % 12 : Nat) : Int) := rfl
 rw [y55, so_I (m := 2) (fl' := []) hr rfl rfl, st_t (by decide), e]
 exact st_ret hl
theorem typ_up {d B : Nat} (hd : d ≤ 2) (hB : B ≤ 1000) (hi : TypOk (d + 1) B) : TypOk d (B + 112) := by
 intro zs n s h hs
 obtain ⟨k, n', hk, h', hr⟩ := num_s h (m := 18) 18 rfl (by omega) (by omega)
 have w : IntKind.i64.wrap ((d : Int) + 1) = ((d + 1 : Nat) : Int) := by rw [wrap_i64] <;> omega
 have key : ∃ (t : List UInt8) (n2 : Nat), t.length ≤ B + 112 ∧ Pk zs n2 ∧ rk Tryz.prog polY (Task.at_ 55 1 [true, true, true] (sv 67 [(0, V.p 0 0), (1, V.d (D.s s)), (2, V.d (D.i .i64 (d : Int))), (7, V.d (D.i .i64 (k : Int)))]) [] [Ob.cells (pkc zs n') []]) = some (.d (.s t), [pk zs n2]) := by
  by_cases hk14 : k < 14
  ·obtain ⟨t, ht, hl⟩ := typ_leaf hk14 s hs d (pkc zs n')
   by_cases hB106 : B + 112 < 106
   ·omega
   ·exact ⟨t, n', by omega, h', hl⟩
  ·-- a list
   have hlist : ∃ (t : List UInt8) (n2 : Nat), t.length ≤ B + 112 ∧ Pk zs n2 ∧ ∀ k2 : Int, rk Tryz.prog polY (Task.at_ 55 1 [true, true, true, false, false, true, true, true, true] (sv 67 [(0, V.p 0 0), (1, V.d (D.s s)), (2, V.d (D.i .i64 (d : Int))), (7, V.d (D.i .i64 k2)), (33, V.d (D.b true))]) [] [Ob.cells (pkc zs n') []]) = some (.d (.s t), [pk zs n2]) := by
    obtain ⟨t, n2, ht, h2, hr2⟩ := hi zs n' s h' hs
    refine ⟨[108, 105, 115, 116, 60] ++ t ++ [62], n2, by simp; omega, h2, fun k2 => ?_⟩
    rw [y55_at975, st_T, w, so_S (m := (pkc zs n').length) (fl' := []) hr2 rfl rfl, st_if (by omega), st_if (by simp; omega)]
    rfl
   have hset : k = 16 → ∃ (t : List UInt8) (n2 : Nat), t.length ≤ B + 112 ∧ Pk zs n2 ∧ rk Tryz.prog polY (Task.at_ 55 1 [true, true, true, false, false, true, true, true, true] (sv 67 [(0, V.p 0 0), (1, V.d (D.s s)), (2, V.d (D.i .i64 (d : Int))), (7, V.d (D.i .i64 (k : Int))), (33, V.d (D.b false))]) [] [Ob.cells (pkc zs n') []]) = some (.d (.s t), [pk zs n2]) := by
    intro hk16
    obtain ⟨t, n2, ht, h2, hr2⟩ := key_s h' s hs
    refine ⟨[115, 101, 116, 60] ++ t ++ [62], n2, by simp; omega, h2, ?_⟩
    rw [y55_at975, st_F, st_eq (by omega), so_S (m := (pkc zs n').length) (fl' := []) hr2 rfl rfl, st_if (by omega), st_if (by simp; omega)]
    rfl
   have hmap : k ≠ 16 → ∃ (t : List UInt8) (n2 : Nat), t.length ≤ B + 112 ∧ Pk zs n2 ∧ rk Tryz.prog polY (Task.at_ 55 1 [true, true, true, false, false, true, true, true, true] (sv 67 [(0, V.p 0 0), (1, V.d (D.s s)), (2, V.d (D.i .i64 (d : Int))), (7, V.d (D.i .i64 (k : Int))), (33, V.d (D.b false))]) [] [Ob.cells (pkc zs n') []]) = some (.d (.s t), [pk zs n2]) := by
    intro hk16
    obtain ⟨t, n2, ht, h2, hr2⟩ := key_s h' s hs
    obtain ⟨u, n3, hu, h3, hr3⟩ := hi zs n2 s h2 hs
    refine ⟨[109, 97, 112, 60] ++ t ++ [44] ++ u ++ [62], n3, by simp; omega, h3, ?_⟩
    rw [y55_at975, st_F, st_ne (by omega), so_S (m := (pkc zs n').length) (fl' := []) hr2 rfl rfl, st_if (by omega), st_if (by simp; omega), w,
     so_S (m := (pkc zs n2).length) (fl' := []) hr3 rfl rfl, st_if (by simp; omega), st_if (by simp; omega)]
    rfl
   by_cases h14 : k = 14
   ·obtain ⟨t, n2, ht, h2, hr2⟩ := hlist
    refine ⟨t, n2, ht, h2, ?_⟩
    rw [y55_at15, st_if (by omega), st_if (by omega), st_if (by omega), st_if (by omega), st_f (by omega), st_eq (by omega)]
    exact st_ret (hr2 _)
   ·by_cases h15 : k = 15
    ·obtain ⟨t, n2, ht, h2, hr2⟩ := hlist
     refine ⟨t, n2, ht, h2, ?_⟩
     have e : ((k : Int) == 15) = true := by rw [h15]; rfl
     rw [y55_at15, st_if (by omega), st_if (by omega), st_if (by omega), st_if (by omega), st_f (by omega), st_ne (by omega), e]
     exact st_ret (hr2 _)
    ·have e : ((k : Int) == 15) = false := beq_eq_false_iff_ne.2 (by omega)
     have hx : ∃ (t : List UInt8) (n2 : Nat), t.length ≤ B + 112 ∧ Pk zs n2 ∧ rk Tryz.prog polY (Task.at_ 55 1 [true, true, true, false, false, true, true, true, true] (sv 67 [(0, V.p 0 0), (1, V.d (D.s s)), (2, V.d (D.i .i64 (d : Int))), (7, V.d (D.i .i64 (k : Int))), (33, V.d (D.b false))]) [] [Ob.cells (pkc zs n') []]) = some (.d (.s t), [pk zs n2]) := by
      by_cases h16 : k = 16
      ·exact hset h16
      ·exact hmap h16
     obtain ⟨t, n2, ht, h2, hr2⟩ := hx
     refine ⟨t, n2, ht, h2, ?_⟩
     rw [y55_at15, st_if (by omega), st_if (by omega), st_if (by omega), st_if (by omega), st_f (by omega), st_ne (by omega), e]
     exact st_ret hr2
 obtain ⟨t, n2, ht, h2, hr2⟩ := key
 refine ⟨t, n2, ht, h2, ?_⟩
 rw [y55, so_I (m := 2) (fl' := []) hr rfl rfl, st_f (by omega)]
 exact st_ret hr2
theorem typ_s : TypOk 0 442 := typ_up (by omega) (by omega) (typ_up (by omega) (by omega) (typ_up (by omega) (by omega) typ_3))
end Go.Dn.Dec
namespace Go.Dn.Dec
open Go.Proofs
set_option linter.unusedVariables false
set_option linter.unusedSimpArgs false
def Leaf (d : D) : Prop := ∃ (k n u : Int) (s : List UInt8), d = .g [.i .i64 k, .i .i64 n, .i .u64 u, .s s, .l true []] ∧ 1 ≤ k ∧ k ≤ 5 ∧ -1000 ≤ n ∧ n ≤ 1000 ∧ 0 ≤ u ∧ u < 18446744073709551616 ∧ s.length ≤ 103
theorem leaf_mk {k n u : Int} {s : List UInt8} (h1 : 1 ≤ k ∧ k ≤ 5) (h2 : -1000 ≤ n ∧ n ≤ 1000) (h3 : 0 ≤ u ∧ u < 18446744073709551616) (h4 : s.length ≤ 103) : Leaf (.g [.i .i64 k, .i .i64 n, .i .u64 u, .s s, .l true []]) :=
 ⟨k, n, u, s, rfl, h1.1, h1.2, h2.1, h2.2, h3.1, h3.2, h4⟩
theorem u64_wrapY (n : Int) : IntKind.u64.wrap n = n % 18446744073709551616 := by
 have e : ((2 : Int) ^ IntKind.u64.bits) = 18446744073709551616 := by decide
 simp [IntKind.wrap, IntKind.signed, e]
theorem u64_range (n : Int) : 0 ≤ IntKind.u64.wrap n ∧ IntKind.u64.wrap n < 18446744073709551616 := by
 rw [u64_wrapY]; omega
theorem y120_c {zs : List Int} {n : Nat} (h : Pk zs n) (s t : List UInt8) (hs : s.length ≤ 100) (b : Bool) (hb : b = false → t ≠ [100, 111, 117, 98, 108, 101]) (n3 n4 n5 : Int) (l6 : List UInt8) (b7 : Bool) (l8 : List D) :
  ∃ (d : D) (n' : Nat), Leaf d ∧ Pk zs n' ∧ rk Tryz.prog polY (Task.at_ 120 1 [true, true, true, true, true, false, true, false, true] (sv 61 [(0, V.p 0 0), (2, V.d (D.s s)), (6, V.p 1 0), (7, V.d (D.s t)), (29, V.d (D.b b))]) []
   [Ob.cells [V.d (D.i IntKind.i64 n3), V.d (D.i IntKind.i64 n4), V.d (D.i IntKind.u64 n5), V.d (D.s l6), V.d (D.l b7 l8)] [], pk zs n]) = some (.d d, [pk zs n']) := by
 cases b with
 | true =>
  obtain ⟨k, n', hk, h', hr⟩ := num_s h (m := 4) 4 rfl (by omega) (by omega)
  have hx : ∃ u : List UInt8, ([D.s [], D.s [97], D.s [120, 32, 121], D.s [105, 116, 39, 115]] : List D)[k]? = some (.s u) ∧ u.length ≤ 103 := by
   rcases k with _ | _ | _ | _ | k
   all_goals first
    | (refine ⟨_, rfl, ?_⟩; simp; done)
    | omega
  obtain ⟨u, hu, hl⟩ := hx
  refine ⟨_, n', leaf_mk (k := 3) (n := 0) (u := 0) (by omega) (by omega) (by omega) hl, h', ?_⟩
  rw [y120_at1013, st_T, so_I (m := 2) (fl' := []) hr rfl rfl, yl_S hu]; rfl
 | false =>
  by_cases hbool : t = [98, 111, 111, 108]
  ·obtain ⟨k, n', hk, h', hr⟩ := num_s h (m := 2) 2 rfl (by omega) (by omega)
   have hx : ∃ u : List UInt8, ([D.s [116, 114, 117, 101], D.s [102, 97, 108, 115, 101]] : List D)[k]? = some (.s u) ∧ u.length ≤ 103 := by
    rcases k with _ | _ | k
    all_goals first
     | (refine ⟨_, rfl, ?_⟩; simp; done)
     | omega
   obtain ⟨u, hu, hl⟩ := hx
   refine ⟨_, n', leaf_mk (k := 4) (n := 0) (u := 0) (by omega) (by omega) (by omega) hl, h', ?_⟩
   rw [y120_at1013, st_F, st_bt (by rw [hbool]; rfl), so_I (m := 2) (fl' := []) hr rfl rfl, yl_S hu]; rfl
  ·by_cases hE : t = s ++ [69]
   ·refine ⟨_, n, leaf_mk (k := 4) (n := 0) (u := 0) (s := s ++ [69, 46, 65]) (by omega) (by omega) (by omega) (by simp; omega), h, ?_⟩
    rw [y120_at1013, st_F, st_bf (beq_eq_false_iff_ne.2 hbool), st_if (by omega), st_bt (beq_iff_eq.2 hE), st_if (by omega)]; rfl
   ·by_cases hT : t = s ++ [84]
    ·refine ⟨_, n, leaf_mk (k := 4) (n := 0) (u := 0) (s := s ++ [67]) (by omega) (by omega) (by omega) (by simp; omega), h, ?_⟩
     rw [y120_at1013, st_F, st_bf (beq_eq_false_iff_ne.2 hbool), st_if (by omega), st_bf (beq_eq_false_iff_ne.2 hE), st_if (by omega), st_bt (beq_iff_eq.2 hT), st_if (by omega)]; rfl
    ·refine ⟨_, n, leaf_mk (k := 5) (n := 0) (u := 0) (s := []) (by omega) (by omega) (by omega) (by simp), h, ?_⟩
     rw [y120_at1013, st_F, st_bf (beq_eq_false_iff_ne.2 hbool), st_if (by omega), st_bf (beq_eq_false_iff_ne.2 hE), st_if (by omega), st_bf (beq_eq_false_iff_ne.2 hT)]; rfl
theorem y120_b {zs : List Int} {n : Nat} (h : Pk zs n) (s t : List UInt8) (hs : s.length ≤ 100) (b : Bool) (n3 n4 n5 : Int) (l6 : List UInt8) (b7 : Bool) (l8 : List D) :
  ∃ (d : D) (n' : Nat), Leaf d ∧ Pk zs n' ∧ rk Tryz.prog polY (Task.at_ 120 1 [true, false, true, false, true] (sv 61 [(0, V.p 0 0), (2, V.d (D.s s)), (6, V.p 1 0), (7, V.d (D.s t)), (8, V.d (D.b b))]) []
   [Ob.cells [V.d (D.i IntKind.i64 n3), V.d (D.i IntKind.i64 n4), V.d (D.i IntKind.u64 n5), V.d (D.s l6), V.d (D.l b7 l8)] [], pk zs n]) = some (.d d, [pk zs n']) := by
 cases b with
 | true =>
  obtain ⟨k, n', hk, h', hr⟩ := num_s h (m := 200) 200 rfl (by omega) (by omega)
  have w : IntKind.i64.wrap ((k : Int) - 72) = (k : Int) - 72 := by rw [wrap_i64] <;> omega
  refine ⟨_, n', leaf_mk (k := 1) (n := (k : Int) - 72) (u := 0) (s := []) (by omega) (by omega) (by omega) (by simp), h', ?_⟩
  rw [y120_at53, st_T, so_I (m := 2) (fl' := []) hr rfl rfl, w]; rfl
 | false =>
  by_cases hd : t = [100, 111, 117, 98, 108, 101]
  ·obtain ⟨k, n', hk, h', hr⟩ := num_s h (m := 255) 255 rfl (by omega) (by omega)
   obtain ⟨k2, n2, hk2, h2, hr2⟩ := num_s h' (m := 255) 255 rfl (by omega) (by omega)
   refine ⟨_, n2, leaf_mk (k := 2) (n := 0) (u := IntKind.u64.wrap ((BitVec.ofInt IntKind.u64.bits (IntKind.u64.wrap (IntKind.u64.wrap (k : Int) * 36028797018963968)) ||| BitVec.ofInt IntKind.u64.bits (IntKind.u64.wrap (IntKind.u64.wrap (k2 : Int) * 1099511627776))).toNat : Int)) (s := []) (by omega) (by omega) (u64_range _) (by simp), h2, ?_⟩
   rw [y120_at53, st_F, st_bt (by rw [hd]; rfl), so_I (m := 2) (fl' := []) hr rfl rfl, so_I (m := (pkc zs n').length) (fl' := []) hr2 rfl rfl]; rfl
  ·by_cases hstr : t = [115, 116, 114, 105, 110, 103]
   ·obtain ⟨d, n', hL, h', hr⟩ := y120_c h s t hs true (fun e => by cases e) n3 n4 n5 l6 b7 l8
    refine ⟨d, n', hL, h', ?_⟩
    have e : (t == [115, 116, 114, 105, 110, 103]) = true := beq_iff_eq.2 hstr
    rw [y120_at53, st_F, st_bf (beq_eq_false_iff_ne.2 hd), e]
    exact st_ret hr
   ·obtain ⟨d, n', hL, h', hr⟩ := y120_c h s t hs (t == [98, 105, 110, 97, 114, 121]) (fun _ => hd) n3 n4 n5 l6 b7 l8
    refine ⟨d, n', hL, h', ?_⟩
    rw [y120_at53, st_F, st_bf (beq_eq_false_iff_ne.2 hd), st_bf (beq_eq_false_iff_ne.2 hstr)]
    exact st_ret hr
theorem init_s {zs : List Int} {n : Nat} (h : Pk zs n) (t s : List UInt8) (hs : s.length ≤ 100) : ∃ (d : D) (n' : Nat), Leaf d ∧ Pk zs n' ∧
  rk Tryz.prog polY (Task.call 120 [V.p 0 0, V.d (D.s t), V.d (D.s s)] [pk zs n]) = some (.d d, [pk zs n']) := by
 have key : ∀ b : Bool, _ := fun b => y120_b h s t hs b 0 0 0 [] true []
 by_cases h1 : t = [105, 51, 50]
 ·obtain ⟨d, n', hL, h', hr⟩ := key (t == [105, 51, 50])
  refine ⟨d, n', hL, h', ?_⟩
  rw [y120, st_bt (beq_iff_eq.2 h1)]; exact st_ret hr
 ·by_cases h2 : t = [105, 54, 52]
  ·obtain ⟨d, n', hL, h', hr⟩ := key (t == [105, 54, 52])
   refine ⟨d, n', hL, h', ?_⟩
   rw [y120, st_bf (beq_eq_false_iff_ne.2 h1), st_bt (beq_iff_eq.2 h2)]; exact st_ret hr
  ·by_cases h3 : t = [105, 49, 54]
   ·obtain ⟨d, n', hL, h', hr⟩ := key (t == [105, 49, 54])
    refine ⟨d, n', hL, h', ?_⟩
    rw [y120, st_bf (beq_eq_false_iff_ne.2 h1), st_bf (beq_eq_false_iff_ne.2 h2), st_bt (beq_iff_eq.2 h3)]; exact st_ret hr
   ·obtain ⟨d, n', hL, h', hr⟩ := key (t == [105, 56])
    refine ⟨d, n', hL, h', ?_⟩
    rw [y120, st_bf (beq_eq_false_iff_ne.2 h1), st_bf (beq_eq_false_iff_ne.2 h2), st_bf (beq_eq_false_iff_ne.2 h3)]; exact st_ret hr
end Go.Dn.Dec
namespace Go.Dn.Dec
open Go.Proofs
theorem y54 (f : Bool) (l : List D) (n : Int) (s : List UInt8) : rk Tryz.prog polY (.call 54 [.p 0 0, vs s] [.cells [vl f l, vi n] []]) = interp (rk Tryz.prog polY) (c1 (.call 24 [.p 0 0, vi 3] [.cells [vl f l, vi n] []]) 2 [] fun a b => aI a fun c => .call (.at_ 54 1 [false, true, false, true, true] (sv 31 [(0, .p 0 0), (1, vs s), (5, vl true []), (6, vi 0), (7, vi c)]) [(5, 11)] [.cells b []]) .ret) :=
 rk_of (by kernel_rfl)
theorem y53 (f : Bool) (l : List D) (n m : Int) (s : List UInt8) (u : Bool) : rk Tryz.prog polY (.call 53 [.p 0 0, vi m, vs s, vb u] [.cells [vl f l, vi n] []]) = interp (rk Tryz.prog polY) (c1 (.call 24 [.p 0 0, vi (IntKind.i64.wrap (m + 1))] [.cells [vl f l, vi n] []]) 2 [] fun a c => aI a fun e => .call (.at_ 53 1 [false, true, false, true, true] (sv 100 [(0, .p 0 0), (2, vs s), (3, vb u), (9, vl true []), (10, vi 0), (11, vi e)]) [(9, 11)] [.cells c []]) .ret) :=
 rk_of (by kernel_rfl)
theorem y54_at43 (l_0 : List UInt8) (b_1 : Bool) (l_2 : List D) (n_3 n_4 : Int) (l_5 : List V) : rk Tryz.prog polY (.at_ 54 1 [false, true, false, true, true] (sv 31 [(0, .p 0 0), (1, vs l_0), (5, vl b_1 l_2), (6, vi n_3), (7, vi n_4)]) [(5, 11)] [.cells l_5 []]) = interp (rk Tryz.prog polY) (brB (decide (n_3 < n_4)) (c1 (.call 55 [.p 0 0, vs l_0, vi 0] [.cells l_5 []]) l_5.length [] fun a c => aS a fun e => ift (headOk 11 l_2) (ift (b_1 || true) (ift (decide (l_2.length + 1 ≤ 4294967296)) (.call (.at_ 54 1 [false, true, false, true, true] (sv 31 [(0, .p 0 0), (1, vs l_0), (5, vl (b_1 && false) (l_2 ++ [.g [.b true, .i .i64 (IntKind.i64.wrap (n_3 + 1)), .i .i64 0, .s e, .s ([97] ++ [UInt8.ofNat (IntKind.u8.wrap (IntKind.i64.wrap (48 + n_3))).toNat]), .b false, .i .i64 0, .i .i64 0, .i .u64 0, .s [], .l true []]])), (6, vi (IntKind.i64.wrap (n_3 + 1))), (7, vi n_4)]) [(5, 11)] [.cells c []]) .ret)))) (.ret (vl b_1 l_2, [.cells l_5 []]))) :=
 rk_of (by kernel_rfl)
theorem y53_at43 (l_0 : List UInt8) (b_1 b_2 : Bool) (l_3 : List D) (n_4 n_5 : Int) (l_6 : List V) : rk Tryz.prog polY (.at_ 53 1 [false, true, false, true, true] (sv 100 [(0, .p 0 0), (2, vs l_0), (3, vb b_1), (9, vl b_2 l_3), (10, vi n_4), (11, vi n_5)]) [(9, 11)] [.cells l_6 []]) = interp (rk Tryz.prog polY) (brB (decide (n_4 < n_5)) (.call (.at_ 53 1 [true, false, false, false, true, false, true, true] (sv 100 [(0, .p 0 0), (2, vs l_0), (3, vb b_1), (9, vl b_2 l_3), (10, vi n_4), (11, vi n_5), (26, vb true)]) [(9, 11)] [.cells l_6 []]) .ret) (brB b_1 (.call (.at_ 53 1 [true, false, false, false, true, false, true, true] (sv 100 [(0, .p 0 0), (2, vs l_0), (3, vb b_1), (9, vl b_2 l_3), (10, vi n_4), (11, vi n_5), (26, vb (n_4 == 0))]) [(9, 11)] [.cells l_6 []]) .ret) (.call (.at_ 53 1 [true, false, false, false, true, false, true, true] (sv 100 [(0, .p 0 0), (2, vs l_0), (3, vb b_1), (9, vl b_2 l_3), (10, vi n_4), (11, vi n_5), (26, vb false)]) [(9, 11)] [.cells l_6 []]) .ret))) :=
 rk_of (by kernel_rfl)
theorem y53_at395 (l_0 : List UInt8) (b_1 b_2 : Bool) (l_3 : List D) (n_4 n_5 : Int) (b_6 : Bool) (l_7 : List V) : rk Tryz.prog polY (.at_ 53 1 [true, false, false, false, true, false, true, true] (sv 100 [(0, .p 0 0), (2, vs l_0), (3, vb b_1), (9, vl b_2 l_3), (10, vi n_4), (11, vi n_5), (26, vb b_6)]) [(9, 11)] [.cells l_7 []]) = interp (rk Tryz.prog polY) (brB b_6 (c1 (.call 24 [.p 0 0, vi 6] [.cells l_7 []]) l_7.length [] fun a c => aI a fun e => c1 (.call 24 [.p 0 0, vi 3] [.cells c []]) c.length [] fun f g => aI f fun h => c1 (.call 55 [.p 0 0, vs l_0, vi 0] [.cells g []]) g.length [] fun j k => aS j fun m => brB (!decide (e > 0)) (.call (.at_ 53 1 [true, true, false, false, true, false, false, true, false, true, true] (sv 100 [(0, .p 0 0), (2, vs l_0), (3, vb b_1), (9, vl b_2 l_3), (10, vi n_4), (11, vi n_5), (12, .p 1 0)]) [(9, 11)] [.cells [vb (decide (e > 0)), vi 0, vi 0, vs m, vs ([102] ++ [UInt8.ofNat (IntKind.u8.wrap (IntKind.i64.wrap (97 + n_4))).toNat]), vb false, vi 0, vi 0, vu 0, vs [], vl true []] [], .cells k []]) .ret) (.call (.at_ 53 1 [true, true, false, false, true, false, false, true, false, true, true] (sv 100 [(0, .p 0 0), (2, vs l_0), (3, vb b_1), (9, vl b_2 l_3), (10, vi n_4), (11, vi n_5), (12, .p 1 0)]) [(9, 11)] [.cells [vb (decide (e > 0)), vi (IntKind.i64.wrap (IntKind.i64.wrap (1 + n_4) + IntKind.i64.wrap (IntKind.i64.wrap (n_4 * h) * 8))), vi 0, vs m, vs ([102] ++ [UInt8.ofNat (IntKind.u8.wrap (IntKind.i64.wrap (97 + n_4))).toNat]), vb false, vi 0, vi 0, vu 0, vs [], vl true []] [], .cells k []]) .ret)) (.ret (vl b_2 l_3, [.cells l_7 []]))) :=
 rk_of (by kernel_rfl)
theorem y53_at3659 (l_0 : List UInt8) (b_1 b_2 : Bool) (l_3 : List D) (n_4 n_5 : Int) (b_6 : Bool) (n_7 n_8 : Int) (l_9 l_10 : List UInt8) (b_11 : Bool) (n_12 n_13 n_14 : Int) (l_15 : List UInt8) (b_16 : Bool) (l_17 : List D) (l_18 : List V) : rk Tryz.prog polY (.at_ 53 1 [true, true, false, false, true, false, false, true, false, true, true] (sv 100 [(0, .p 0 0), (2, vs l_0), (3, vb b_1), (9, vl b_2 l_3), (10, vi n_4), (11, vi n_5), (12, .p 1 0)]) [(9, 11)] [.cells [vb b_6, vi n_7, vi n_8, vs l_9, vs l_10, vb b_11, vi n_12, vi n_13, vu n_14, vs l_15, vl b_16 l_17] [], .cells l_18 []]) = interp (rk Tryz.prog polY) (brB (!b_1) (c1 (.call 24 [.p 0 0, vi 4] [.cells l_18 []]) l_18.length [] fun a c => aI a fun e => eC [.i .i64 0, .i .i64 0, .i .i64 1, .i .i64 2] e 1 0 fun f => asI .i64 f fun g => brB (g == 1) (ift (decide (l_0.length + 1 < 4611686018427387904)) (brB (l_9 == l_0 ++ [80]) (c1 (.call 24 [.p 0 0, vi 4] [.cells c []]) c.length [] fun h j => aI h fun k => .call (.at_ 53 1 [true, false, true, false, true, false, true, true, false, false, true, false, false, true, false, true, true] (sv 100 [(0, .p 0 0), (2, vs l_0), (3, vb b_1), (9, vl b_2 l_3), (10, vi n_4), (11, vi n_5), (12, .p 1 0), (83, vb (decide (k > 0)))]) [(9, 11)] [.cells [vb b_6, vi n_7, vi g, vs l_9, vs l_10, vb b_11, vi n_12, vi n_13, vu n_14, vs l_15, vl b_16 l_17] [], .cells j []]) .ret) (ift (decide (l_0.length + 1 < 4611686018427387904)) (brB (l_9 == l_0 ++ [85]) (c1 (.call 24 [.p 0 0, vi 4] [.cells c []]) c.length [] fun m n => aI m fun o => .call (.at_ 53 1 [true, false, true, false, true, false, true, true, false, false, true, false, false, true, false, true, true] (sv 100 [(0, .p 0 0), (2, vs l_0), (3, vb b_1), (9, vl b_2 l_3), (10, vi n_4), (11, vi n_5), (12, .p 1 0), (83, vb (decide (o > 0)))]) [(9, 11)] [.cells [vb b_6, vi n_7, vi g, vs l_9, vs l_10, vb b_11, vi n_12, vi n_13, vu n_14, vs l_15, vl b_16 l_17] [], .cells n []]) .ret) (.call (.at_ 53 1 [true, false, true, false, true, false, true, true, false, false, true, false, false, true, false, true, true] (sv 100 [(0, .p 0 0), (2, vs l_0), (3, vb b_1), (9, vl b_2 l_3), (10, vi n_4), (11, vi n_5), (12, .p 1 0), (83, vb false)]) [(9, 11)] [.cells [vb b_6, vi n_7, vi g, vs l_9, vs l_10, vb b_11, vi n_12, vi n_13, vu n_14, vs l_15, vl b_16 l_17] [], .cells c []]) .ret))))) (.call (.at_ 53 1 [true, false, true, false, true, false, true, true, false, false, true, false, false, true, false, true, true] (sv 100 [(0, .p 0 0), (2, vs l_0), (3, vb b_1), (9, vl b_2 l_3), (10, vi n_4), (11, vi n_5), (12, .p 1 0), (83, vb false)]) [(9, 11)] [.cells [vb b_6, vi n_7, vi g, vs l_9, vs l_10, vb b_11, vi n_12, vi n_13, vu n_14, vs l_15, vl b_16 l_17] [], .cells c []]) .ret)) (.call (.at_ 53 1 [true, true, true, false, false, true, false, false, true, false, true, true] (sv 100 [(0, .p 0 0), (2, vs l_0), (3, vb b_1), (9, vl b_2 l_3), (10, vi n_4), (11, vi n_5), (12, .p 1 0)]) [(9, 11)] [.cells [vb b_6, vi n_7, vi n_8, vs l_9, vs l_10, vb b_11, vi n_12, vi n_13, vu n_14, vs l_15, vl b_16 l_17] [], .cells l_18 []]) .ret)) :=
 rk_of (by kernel_rfl)
theorem y53_at218699 (l_0 : List UInt8) (b_1 b_2 : Bool) (l_3 : List D) (n_4 n_5 : Int) (b_6 b_7 : Bool) (n_8 n_9 : Int) (l_10 l_11 : List UInt8) (b_12 : Bool) (n_13 n_14 n_15 : Int) (l_16 : List UInt8) (b_17 : Bool) (l_18 : List D) (l_19 : List V) : rk Tryz.prog polY (.at_ 53 1 [true, false, true, false, true, false, true, true, false, false, true, false, false, true, false, true, true] (sv 100 [(0, .p 0 0), (2, vs l_0), (3, vb b_1), (9, vl b_2 l_3), (10, vi n_4), (11, vi n_5), (12, .p 1 0), (83, vb b_6)]) [(9, 11)] [.cells [vb b_7, vi n_8, vi n_9, vs l_10, vs l_11, vb b_12, vi n_13, vi n_14, vu n_15, vs l_16, vl b_17 l_18] [], .cells l_19 []]) = interp (rk Tryz.prog polY) (brB b_6 (c1 (.call 24 [.p 0 0, vi 6] [.cells l_19 []]) l_19.length [] fun a c => aI a fun e => brB (e == 0) (c1 (.call 120 [.p 0 0, vs l_10, vs l_0] [.cells c []]) c.length [] fun f g => asD f fun h => asG 5 h fun j => ift ([.d (j.getD 0 (.b false)), .d (j.getD 1 (.b false)), .d (j.getD 2 (.b false)), .d (j.getD 3 (.b false)), .d (j.getD 4 (.b false))].all V.one) (.call (.at_ 53 1 [true, true, true, false, false, true, false, false, true, false, true, true] (sv 100 [(0, .p 0 0), (2, vs l_0), (3, vb b_1), (9, vl b_2 l_3), (10, vi n_4), (11, vi n_5), (12, .p 1 0)]) [(9, 11)] [.cells [vb b_7, vi n_8, vi 0, vs l_10, vs l_11, vb true, .d (j.getD 0 (.b false)), .d (j.getD 1 (.b false)), .d (j.getD 2 (.b false)), .d (j.getD 3 (.b false)), .d (j.getD 4 (.b false))] [], .cells g []]) .ret)) (.call (.at_ 53 1 [true, true, true, false, false, true, false, false, true, false, true, true] (sv 100 [(0, .p 0 0), (2, vs l_0), (3, vb b_1), (9, vl b_2 l_3), (10, vi n_4), (11, vi n_5), (12, .p 1 0)]) [(9, 11)] [.cells [vb b_7, vi n_8, vi 0, vs l_10, vs l_11, vb b_12, vi n_13, vi n_14, vu n_15, vs l_16, vl b_17 l_18] [], .cells c []]) .ret)) (c1 (.call 24 [.p 0 0, vi 6] [.cells l_19 []]) l_19.length [] fun k m => aI k fun n => brB (n == 0) (c1 (.call 120 [.p 0 0, vs l_10, vs l_0] [.cells m []]) m.length [] fun o q => asD o fun r => asG 5 r fun t => ift ([.d (t.getD 0 (.b false)), .d (t.getD 1 (.b false)), .d (t.getD 2 (.b false)), .d (t.getD 3 (.b false)), .d (t.getD 4 (.b false))].all V.one) (.call (.at_ 53 1 [true, true, true, false, false, true, false, false, true, false, true, true] (sv 100 [(0, .p 0 0), (2, vs l_0), (3, vb b_1), (9, vl b_2 l_3), (10, vi n_4), (11, vi n_5), (12, .p 1 0)]) [(9, 11)] [.cells [vb b_7, vi n_8, vi n_9, vs l_10, vs l_11, vb true, .d (t.getD 0 (.b false)), .d (t.getD 1 (.b false)), .d (t.getD 2 (.b false)), .d (t.getD 3 (.b false)), .d (t.getD 4 (.b false))] [], .cells q []]) .ret)) (.call (.at_ 53 1 [true, true, true, false, false, true, false, false, true, false, true, true] (sv 100 [(0, .p 0 0), (2, vs l_0), (3, vb b_1), (9, vl b_2 l_3), (10, vi n_4), (11, vi n_5), (12, .p 1 0)]) [(9, 11)] [.cells [vb b_7, vi n_8, vi n_9, vs l_10, vs l_11, vb b_12, vi n_13, vi n_14, vu n_15, vs l_16, vl b_17 l_18] [], .cells m []]) .ret))) :=
 rk_of (by kernel_rfl)
theorem y53_at7755 (l_0 : List UInt8) (b_1 b_2 : Bool) (l_3 : List D) (n_4 n_5 : Int) (b_6 : Bool) (n_7 n_8 : Int) (l_9 l_10 : List UInt8) (b_11 : Bool) (n_12 n_13 n_14 : Int) (l_15 : List UInt8) (b_16 : Bool) (l_17 : List D) (l_18 : List V) : rk Tryz.prog polY (.at_ 53 1 [true, true, true, false, false, true, false, false, true, false, true, true] (sv 100 [(0, .p 0 0), (2, vs l_0), (3, vb b_1), (9, vl b_2 l_3), (10, vi n_4), (11, vi n_5), (12, .p 1 0)]) [(9, 11)] [.cells [vb b_6, vi n_7, vi n_8, vs l_9, vs l_10, vb b_11, vi n_12, vi n_13, vu n_14, vs l_15, vl b_16 l_17] [], .cells l_18 []]) = interp (rk Tryz.prog polY) (ift (headOk 11 l_3) (ift (b_2 || true) (ift (decide (l_3.length + 1 ≤ 4294967296)) (.call (.at_ 53 1 [false, true, false, true, true] (sv 100 [(0, .p 0 0), (2, vs l_0), (3, vb b_1), (9, vl (b_2 && false) (l_3 ++ [.g [.b b_6, .i .i64 n_7, .i .i64 n_8, .s l_9, .s l_10, .b b_11, .i .i64 n_12, .i .i64 n_13, .i .u64 n_14, .s l_15, .l b_16 l_17]])), (10, vi (IntKind.i64.wrap (n_4 + 1))), (11, vi n_5)]) [(9, 11)] [.cells l_18 []]) .ret)))) :=
 rk_of (by kernel_rfl)
end Go.Dn.Dec
namespace Go.Dn.Dec
open Go.Proofs
set_option linter.unusedVariables false
set_option linter.unusedSimpArgs false
def MField (d : D) : Prop := ∃ (h : Bool) (id r : Int) (t nm : List UInt8) (hi : Bool) (k n u : Int) (s : List UInt8),
 d = .g [.b h, .i .i64 id, .i .i64 r, .s t, .s nm, .b hi, .i .i64 k, .i .i64 n, .i .u64 u, .s s, .l true []] ∧ 0 ≤ id ∧ id ≤ 1000 ∧ 0 ≤ r ∧ r ≤ 2 ∧ t.length ≤ 442 ∧ nm.length ≤ 2 ∧
  (hi = true → 1 ≤ k) ∧ 0 ≤ k ∧ k ≤ 5 ∧ -1000 ≤ n ∧ n ≤ 1000 ∧ 0 ≤ u ∧ u < 18446744073709551616 ∧ s.length ≤ 103
theorem MField.width {d : D} (h : MField d) : d.width = 11 := by
 obtain ⟨_, _, _, _, _, _, _, _, _, _, rfl, _⟩ := h; rfl
theorem mfields_head {l : List D} (h : ∀ x ∈ l, MField x) : headOk 11 l = true := by
 cases l with
 | nil => rfl
 | cons x l =>
  have := (h x (by simp)).width
  simp [headOk, this]
theorem typ_0 {zs : List Int} {n : Nat} (h : Pk zs n) (s : List UInt8) (hs : s.length ≤ 100) : ∃ (t : List UInt8) (n' : Nat), t.length ≤ 442 ∧ Pk zs n' ∧
  rk Tryz.prog polY (Task.call 55 [V.p 0 0, V.d (D.s s), V.d (D.i .i64 0)] [pk zs n]) = some (.d (.s t), [pk zs n']) := typ_s zs n s h hs
theorem args_loop (zs : List Int) (s : List UInt8) (hs : s.length ≤ 100) (N : Nat) (hN : N ≤ 2) : ∀ (m i n : Nat) (b : Bool) (l : List D), i + m = N → Pk zs n → l.length = i → (∀ x ∈ l, MField x) →
  ∃ (b' : Bool) (l' : List D) (n' : Nat), l'.length ≤ 2 ∧ (∀ x ∈ l', MField x) ∧ Pk zs n' ∧
   rk Tryz.prog polY (Task.at_ 54 1 [false, true, false, true, true] (sv 31 [(0, V.p 0 0), (1, V.d (D.s s)), (5, V.d (D.l b l)), (6, V.d (D.i .i64 (i : Int))), (7, V.d (D.i .i64 (N : Int)))]) [(5, 11)] [Ob.cells (pkc zs n) []]) = some (.d (.l b' l'), [pk zs n'])
 | 0, i, n, b, l, e, h, hl, hf => by
  refine ⟨b, l, n, by omega, hf, h, ?_⟩
  rw [y54_at43, st_f (by omega)]; rfl
 | m + 1, i, n, b, l, e, h, hl, hf => by
  obtain ⟨t, n2, ht, h2, hr⟩ := typ_0 h s hs
  have w1 : IntKind.i64.wrap ((i : Int) + 1) = ((i + 1 : Nat) : Int) := by rw [wrap_i64] <;> omega
  have hf' : ∀ x ∈ l ++ [D.g [D.b true, D.i .i64 ((i + 1 : Nat) : Int), D.i .i64 0, D.s t, D.s ([97] ++ [UInt8.ofNat (IntKind.u8.wrap (IntKind.i64.wrap (48 + (i : Int)))).toNat]), D.b false, D.i .i64 0, D.i .i64 0, D.i .u64 0, D.s [], D.l true []]], MField x := by
   intro x hx
   rcases List.mem_append.1 hx with hx | hx
   ·exact hf x hx
   ·simp only [List.mem_singleton] at hx
    subst hx
    exact ⟨_, _, _, _, _, _, _, _, _, _, rfl, by omega, by omega, by omega, by omega, ht, by simp, by simp, by omega, by omega, by omega, by omega, by omega, by omega, by simp⟩
  obtain ⟨b', l', n', q1, q2, q3, q4⟩ := args_loop zs s hs N hN m (i + 1) n2 (b && false) _ (by omega) h2 (by simp [hl]) hf'
  refine ⟨b', l', n', q1, q2, q3, ?_⟩
  rw [y54_at43, st_t (by omega), so_S (m := (pkc zs n).length) (fl' := []) hr rfl rfl, mfields_head hf, st_ift, Bool.or_true, st_ift, st_if (by omega), w1]
  exact st_ret q4
theorem args_s {zs : List Int} {n : Nat} (h : Pk zs n) (s : List UInt8) (hs : s.length ≤ 100) : ∃ (b : Bool) (l : List D) (n' : Nat), l.length ≤ 2 ∧ (∀ x ∈ l, MField x) ∧ Pk zs n' ∧
  rk Tryz.prog polY (Task.call 54 [V.p 0 0, V.d (D.s s)] [pk zs n]) = some (.d (.l b l), [pk zs n']) := by
 obtain ⟨k, n1, hk, h1, hr⟩ := num_s h (m := 3) 3 rfl (by omega) (by omega)
 obtain ⟨b, l, n', q1, q2, q3, q4⟩ := args_loop zs s hs k (by omega) k 0 n1 true [] (by omega) h1 rfl (by simp)
 refine ⟨b, l, n', q1, q2, q3, ?_⟩
 rw [y54, so_I (m := 2) (fl' := []) hr rfl rfl]
 exact st_ret q4
end Go.Dn.Dec
namespace Go.Dn.Dec
open Go.Proofs
set_option linter.unusedVariables false
set_option linter.unusedSectionVars false
set_option linter.unusedSimpArgs false
theorem so_G {f : Task → Option Out} {t : Task} {gs : List D} {cs : List V} {fl fl' : Fl} {m w : Nat} {K : List V → List D → Tr} (h : f t = some (.d (.g gs), [.cells cs fl])) (hm : cs.length = m) (hf : (fl == fl') = true) (hw : gs.length = w) :
  interp f (.call t fun o => unCons o.snd fun x l2 => unCells x fun c g => ift (c.length == m) (ift (g == fl') (unNil l2 (asD o.fst fun d => asG w d fun y => K c y)))) = interp f (K cs gs) := by
 rw [st_call h]
 show interp f (ift (cs.length == m) (ift (fl == fl') (asG w (.g gs) fun y => K cs y))) = _
 rw [hm, beq_self_eq_true, st_ift, hf, st_ift, interp_asG, if_pos hw]
def GoodF5 (zs : List Int) (t : Task) : Prop := ∃ (b' : Bool) (l' : List D) (n' : Nat), l'.length ≤ 5 ∧ (∀ x ∈ l', MField x) ∧ Pk zs n' ∧ rk Tryz.prog polY t = some (.d (.l b' l'), [pk zs n'])
abbrev fc (h : Bool) (id r : Int) (t nm : List UInt8) (hi : Bool) (k n u : Int) (s : List UInt8) : Ob :=
 Ob.cells [V.d (D.b h), V.d (D.i .i64 id), V.d (D.i .i64 r), V.d (D.s t), V.d (D.s nm), V.d (D.b hi), V.d (D.i .i64 k), V.d (D.i .i64 n), V.d (D.i .u64 u), V.d (D.s s), V.d (D.l true [])] []
abbrev tz43 (s : List UInt8) (u b : Bool) (l : List D) (i N : Int) (o : Ob) : Task :=
 Task.at_ 53 1 [false, true, false, true, true] (sv 100 [(0, V.p 0 0), (2, V.d (D.s s)), (3, V.d (D.b u)), (9, V.d (D.l b l)), (10, V.d (D.i .i64 i)), (11, V.d (D.i .i64 N))]) [(9, 11)] [o]
abbrev tz77 (s : List UInt8) (u b : Bool) (l : List D) (i N : Int) (f o : Ob) : Task :=
 Task.at_ 53 1 [true, true, true, false, false, true, false, false, true, false, true, true] (sv 100 [(0, V.p 0 0), (2, V.d (D.s s)), (3, V.d (D.b u)), (9, V.d (D.l b l)), (10, V.d (D.i .i64 i)), (11, V.d (D.i .i64 N)), (12, V.p 1 0)]) [(9, 11)] [f, o]
abbrev tz21 (s : List UInt8) (u b : Bool) (l : List D) (i N : Int) (c : Bool) (f o : Ob) : Task :=
 Task.at_ 53 1 [true, false, true, false, true, false, true, true, false, false, true, false, false, true, false, true, true] (sv 100 [(0, V.p 0 0), (2, V.d (D.s s)), (3, V.d (D.b u)), (9, V.d (D.l b l)), (10, V.d (D.i .i64 i)), (11, V.d (D.i .i64 N)), (12, V.p 1 0), (83, V.d (D.b c))]) [(9, 11)] [f, o]
abbrev tz36 (s : List UInt8) (u b : Bool) (l : List D) (i N : Int) (f o : Ob) : Task :=
 Task.at_ 53 1 [true, true, false, false, true, false, false, true, false, true, true] (sv 100 [(0, V.p 0 0), (2, V.d (D.s s)), (3, V.d (D.b u)), (9, V.d (D.l b l)), (10, V.d (D.i .i64 i)), (11, V.d (D.i .i64 N)), (12, V.p 1 0)]) [(9, 11)] [f, o]
abbrev tz39 (s : List UInt8) (u b : Bool) (l : List D) (i N : Int) (c : Bool) (o : Ob) : Task :=
 Task.at_ 53 1 [true, false, false, false, true, false, true, true] (sv 100 [(0, V.p 0 0), (2, V.d (D.s s)), (3, V.d (D.b u)), (9, V.d (D.l b l)), (10, V.d (D.i .i64 i)), (11, V.d (D.i .i64 N)), (26, V.d (D.b c))]) [(9, 11)] [o]
theorem GoodF5.of_eq {zs : List Int} {t t2 : Task} (h : GoodF5 zs t2) (e : rk Tryz.prog polY t = interp (rk Tryz.prog polY) (Tr.call t2 Tr.ret)) : GoodF5 zs t := by
 obtain ⟨b, l, n, h1, h2, h3, h4⟩ := h
 exact ⟨b, l, n, h1, h2, h3, by rw [e]; exact st_ret h4⟩
section
variable {zs : List Int} {s : List UInt8} (hs : s.length ≤ 100) {u b : Bool} {l : List D} {i N : Nat} (hl : l.length = i) (hi5 : i < 5) (hf : ∀ x ∈ l, MField x)
include hs hl hi5 hf
theorem ff77 {h : Bool} {id r : Int} {t nm : List UInt8} {hi : Bool} {k n u' : Int} {s' : List UInt8} {m : Nat}
  (hg : GoodF5 zs (tz43 s u (b && false) (l ++ [D.g [.b h, .i .i64 id, .i .i64 r, .s t, .s nm, .b hi, .i .i64 k, .i .i64 n, .i .u64 u', .s s', .l true []]]) ((i + 1 : Nat) : Int) (N : Int) (pk zs m))) :
  GoodF5 zs (tz77 s u b l (i : Int) (N : Int) (fc h id r t nm hi k n u' s') (pk zs m)) := by
 refine hg.of_eq ?_
 have w1 : IntKind.i64.wrap ((i : Int) + 1) = ((i + 1 : Nat) : Int) := by rw [wrap_i64] <;> omega
 rw [y53_at7755, mfields_head hf, st_ift, Bool.or_true, st_ift, st_if (by omega), w1]
def Nxt (zs : List Int) (s : List UInt8) (u b : Bool) (l : List D) (i N : Nat) : Prop := ∀ (x : D) (m : Nat), MField x → Pk zs m → GoodF5 zs (tz43 s u (b && false) (l ++ [x]) ((i + 1 : Nat) : Int) (N : Int) (pk zs m))
theorem ff21 (hN : Nxt zs s u b l i N) {c h : Bool} {id r : Int} {t nm : List UInt8} {m : Nat} (hp : Pk zs m) (hid : 0 ≤ id ∧ id ≤ 1000) (hr : 0 ≤ r ∧ r ≤ 2) (ht : t.length ≤ 442) (hnm : nm.length ≤ 2) :
  GoodF5 zs (tz21 s u b l (i : Int) (N : Int) c (fc h id r t nm false 0 0 0 []) (pk zs m)) := by
 obtain ⟨k, m2, hk, h2, hr2⟩ := num_s hp (m := 6) 6 rfl (by omega) (by omega)
 obtain ⟨d, m3, ⟨ck, cn, cu, cs, rfl, q1, q2, q3, q4, q5, q6, q7⟩, h3, hr3⟩ := init_s h2 t s hs
 have plain : ∀ r' : Int, 0 ≤ r' ∧ r' ≤ 2 → GoodF5 zs (tz77 s u b l (i : Int) (N : Int) (fc h id r' t nm false 0 0 0 []) (pk zs m2)) := fun r' hr' =>
  ff77 hs hl hi5 hf (hN _ _ ⟨_, _, _, _, _, _, _, _, _, _, rfl, hid.1, hid.2, hr'.1, hr'.2, ht, hnm, by simp, by omega, by omega, by omega, by omega, by omega, by omega, by simp⟩ h2)
 have made : ∀ r' : Int, 0 ≤ r' ∧ r' ≤ 2 → GoodF5 zs (tz77 s u b l (i : Int) (N : Int) (fc h id r' t nm true ck cn cu cs) (pk zs m3)) := fun r' hr' =>
  ff77 hs hl hi5 hf (hN _ _ ⟨_, _, _, _, _, _, _, _, _, _, rfl, hid.1, hid.2, hr'.1, hr'.2, ht, hnm, fun _ => q1, by omega, q2, q3, q4, q5, q6, q7⟩ h3)
 cases c with
 | true =>
  by_cases hk0 : k = 0
  ·refine (made 0 (by omega)).of_eq ?_
   rw [y53_at218699, st_T, so_I (m := (pkc zs m).length) (fl' := []) hr2 rfl rfl, st_eq (by omega), so_G (m := (pkc zs m2).length) (fl' := []) (w := 5) hr3 rfl rfl rfl]
   rfl
  ·refine (plain 0 (by omega)).of_eq ?_
   rw [y53_at218699, st_T, so_I (m := (pkc zs m).length) (fl' := []) hr2 rfl rfl, st_ne (by omega)]
 | false =>
  by_cases hk0 : k = 0
  ·refine (made r hr).of_eq ?_
   rw [y53_at218699, st_F, so_I (m := (pkc zs m).length) (fl' := []) hr2 rfl rfl, st_eq (by omega), so_G (m := (pkc zs m2).length) (fl' := []) (w := 5) hr3 rfl rfl rfl]
   rfl
  ·refine (plain r hr).of_eq ?_
   rw [y53_at218699, st_F, so_I (m := (pkc zs m).length) (fl' := []) hr2 rfl rfl, st_ne (by omega)]
theorem ff36 (hN : Nxt zs s u b l i N) {h : Bool} {id : Int} {t nm : List UInt8} {m : Nat} (hp : Pk zs m) (hid : 0 ≤ id ∧ id ≤ 1000) (ht : t.length ≤ 442) (hnm : nm.length ≤ 2) :
  GoodF5 zs (tz36 s u b l (i : Int) (N : Int) (fc h id 0 t nm false 0 0 0 []) (pk zs m)) := by
 cases hu : u with
 | true =>
  subst hu
  refine (ff77 hs hl hi5 hf (hN _ _ ⟨h, id, 0, t, nm, false, 0, 0, 0, [], rfl, hid.1, hid.2, by omega, by omega, ht, hnm, by simp, by omega, by omega, by omega, by omega, by omega, by omega, by simp⟩ hp)).of_eq ?_
  rw [y53_at3659, st_nt]
 | false =>
  subst hu
  obtain ⟨k, m2, hk, h2, hr2⟩ := num_s hp (m := 4) 4 rfl (by omega) (by omega)
  have hx : ∃ r : Int, ([D.i IntKind.i64 0, D.i IntKind.i64 0, D.i IntKind.i64 1, D.i IntKind.i64 2] : List D)[k]? = some (.i .i64 r) ∧ 0 ≤ r ∧ r ≤ 2 := by
   rcases k with _ | _ | _ | _ | k
   all_goals first
    | (refine ⟨_, rfl, ?_, ?_⟩ <;> omega)
    | omega
  obtain ⟨r, hr, hr0⟩ := hx
  obtain ⟨k3, m3, hk3, h3, hr3⟩ := num_s h2 (m := 4) 4 rfl (by omega) (by omega)
  have g : ∀ (c : Bool) (m' : Nat), Pk zs m' → GoodF5 zs (tz21 s false b l (i : Int) (N : Int) c (fc h id r t nm false 0 0 0 []) (pk zs m')) := fun c m' hm' => ff21 hs hl hi5 hf hN hm' hid hr0 ht hnm
  by_cases hr1 : r = 1
  ·by_cases hP : t = s ++ [80]
   ·refine (g (decide ((k3 : Int) > 0)) m3 h3).of_eq ?_
    rw [y53_at3659, st_nf, so_I (m := (pkc zs m).length) (fl' := []) hr2 rfl rfl, yl_I hr, st_eq hr1, st_if (by omega), st_bt (beq_iff_eq.2 hP), so_I (m := (pkc zs m2).length) (fl' := []) hr3 rfl rfl]
   ·by_cases hU : t = s ++ [85]
    ·refine (g (decide ((k3 : Int) > 0)) m3 h3).of_eq ?_
     rw [y53_at3659, st_nf, so_I (m := (pkc zs m).length) (fl' := []) hr2 rfl rfl, yl_I hr, st_eq hr1, st_if (by omega), st_bf (beq_eq_false_iff_ne.2 hP), st_if (by omega), st_bt (beq_iff_eq.2 hU), so_I (m := (pkc zs m2).length) (fl' := []) hr3 rfl rfl]
    ·refine (g false m2 h2).of_eq ?_
     rw [y53_at3659, st_nf, so_I (m := (pkc zs m).length) (fl' := []) hr2 rfl rfl, yl_I hr, st_eq hr1, st_if (by omega), st_bf (beq_eq_false_iff_ne.2 hP), st_if (by omega), st_bf (beq_eq_false_iff_ne.2 hU)]
  ·refine (g false m2 h2).of_eq ?_
   rw [y53_at3659, st_nf, so_I (m := (pkc zs m).length) (fl' := []) hr2 rfl rfl, yl_I hr, st_ne hr1]
theorem ff39 (hN : Nxt zs s u b l i N) {m : Nat} (hp : Pk zs m) : GoodF5 zs (tz39 s u b l (i : Int) (N : Int) true (pk zs m)) := by
 obtain ⟨k, m2, hk, h2, hr2⟩ := num_s hp (m := 6) 6 rfl (by omega) (by omega)
 obtain ⟨k3, m3, hk3, h3, hr3⟩ := num_s h2 (m := 3) 3 rfl (by omega) (by omega)
 obtain ⟨t, m4, ht, h4, hr4⟩ := typ_0 h3 s hs
 have w1 : IntKind.i64.wrap (1 + (i : Int)) = 1 + (i : Int) := by rw [wrap_i64] <;> omega
 have hik : (0 : Int) ≤ (i : Int) * (k3 : Int) ∧ (i : Int) * (k3 : Int) ≤ 12 := by
  have h1 : (i : Int) * (k3 : Int) = ((i * k3 : Nat) : Int) := by push_cast; rfl
  have h2 : i * k3 ≤ 4 * 3 := Nat.mul_le_mul (by omega) (by omega)
  omega
 have w2 : IntKind.i64.wrap ((i : Int) * (k3 : Int)) = (i : Int) * (k3 : Int) := by rw [wrap_i64] <;> omega
 have w3 : IntKind.i64.wrap ((i : Int) * (k3 : Int) * 8) = (i : Int) * (k3 : Int) * 8 := by rw [wrap_i64] <;> omega
 have w4 : IntKind.i64.wrap (1 + (i : Int) + (i : Int) * (k3 : Int) * 8) = 1 + (i : Int) + (i : Int) * (k3 : Int) * 8 := by rw [wrap_i64] <;> omega
 by_cases hk0 : (k : Int) > 0
 ·refine (ff36 hs hl hi5 hf hN (h := decide ((k : Int) > 0)) (id := 1 + (i : Int) + (i : Int) * (k3 : Int) * 8) (t := t) (nm := [102] ++ [UInt8.ofNat (IntKind.u8.wrap (IntKind.i64.wrap (97 + (i : Int)))).toNat]) h4 (by omega) ht (by simp)).of_eq ?_
  rw [y53_at395, st_T, so_I (m := (pkc zs m).length) (fl' := []) hr2 rfl rfl, so_I (m := (pkc zs m2).length) (fl' := []) hr3 rfl rfl, so_S (m := (pkc zs m3).length) (fl' := []) hr4 rfl rfl, st_bf (by simpa using hk0), w1, w2, w3, w4]
 ·refine (ff36 hs hl hi5 hf hN (h := decide ((k : Int) > 0)) (id := 0) (t := t) (nm := [102] ++ [UInt8.ofNat (IntKind.u8.wrap (IntKind.i64.wrap (97 + (i : Int)))).toNat]) h4 (by omega) ht (by simp)).of_eq ?_
  rw [y53_at395, st_T, so_I (m := (pkc zs m).length) (fl' := []) hr2 rfl rfl, so_I (m := (pkc zs m2).length) (fl' := []) hr3 rfl rfl, so_S (m := (pkc zs m3).length) (fl' := []) hr4 rfl rfl, st_bt (by simpa using hk0)]
end
theorem ff39_end {zs : List Int} {s : List UInt8} {u b : Bool} {l : List D} {i N : Int} (hl : l.length ≤ 5) (hf : ∀ x ∈ l, MField x) {m : Nat} (hp : Pk zs m) : GoodF5 zs (tz39 s u b l i N false (pk zs m)) :=
 ⟨b, l, m, hl, hf, hp, by rw [y53_at395, st_F]; rfl⟩
theorem ff43 {zs : List Int} {s : List UInt8} (hs : s.length ≤ 100) (u : Bool) {N : Nat} (hN : N ≤ 5) : ∀ (j i : Nat) (b : Bool) (l : List D) (m : Nat), i + j = max N 1 → l.length = i → (∀ x ∈ l, MField x) → Pk zs m →
  GoodF5 zs (tz43 s u b l (i : Int) (N : Int) (pk zs m))
 | 0, i, b, l, m, e, hl, hf, hp => by
  have hend : GoodF5 zs (tz39 s u b l (i : Int) (N : Int) false (pk zs m)) := ff39_end (by omega) hf hp
  refine hend.of_eq ?_
  cases u with
  | true =>
   have e0 : ((i : Int) == 0) = false := beq_eq_false_iff_ne.2 (by omega)
   rw [y53_at43, st_f (by omega), st_T, e0]
  | false => rw [y53_at43, st_f (by omega), st_F]
 | j + 1, i, b, l, m, e, hl, hf, hp => by
  have nx : Nxt zs s u b l i N := fun x m' hx hm' => ff43 hs u hN j (i + 1) (b && false) (l ++ [x]) m' (by omega) (by simp [hl]) (fun y hy => by
   rcases List.mem_append.1 hy with hy | hy
   ·exact hf y hy
   ·simp only [List.mem_singleton] at hy; subst hy; exact hx) hm'
  have good : GoodF5 zs (tz39 s u b l (i : Int) (N : Int) true (pk zs m)) := ff39 hs hl (by omega) hf nx hp
  by_cases hi : i < N
  ·refine good.of_eq ?_
   rw [y53_at43, st_t (by omega)]
  ·cases u with
   | true =>
    refine good.of_eq ?_
    have e0 : ((i : Int) == 0) = true := beq_iff_eq.2 (by omega)
    rw [y53_at43, st_f (by omega), st_T, e0]
   | false =>
    refine (ff39_end (u := false) (s := s) (b := b) (i := (i : Int)) (N := (N : Int)) (by omega) hf hp).of_eq ?_
    rw [y53_at43, st_f (by omega), st_F]
theorem fields_s {zs : List Int} {n : Nat} (h : Pk zs n) (M : Int) {most : Nat} (hM : M = (most : Int)) (hm : most ≤ 5) (s : List UInt8) (hs : s.length ≤ 100) (u : Bool) : ∃ (b : Bool) (l : List D) (n' : Nat), l.length ≤ 5 ∧ (∀ x ∈ l, MField x) ∧ Pk zs n' ∧
  rk Tryz.prog polY (Task.call 53 [V.p 0 0, V.d (D.i .i64 M), V.d (D.s s), V.d (D.b u)] [pk zs n]) = some (.d (.l b l), [pk zs n']) := by
 subst hM
 have w1 : IntKind.i64.wrap ((most : Int) + 1) = ((most + 1 : Nat) : Int) := by rw [wrap_i64] <;> omega
 obtain ⟨k, n1, hk, h1, hr⟩ := num_s h (m := most + 1) _ rfl (by omega) (by omega)
 obtain ⟨b, l, n', q1, q2, q3, q4⟩ := ff43 hs u (N := k) (by omega) (max k 1) 0 true [] n1 (by omega) rfl (by simp) h1
 refine ⟨b, l, n', q1, q2, q3, ?_⟩
 rw [y53, w1, so_I (m := 2) (fl' := []) hr rfl rfl]
 exact st_ret q4
end Go.Dn.Dec
namespace Go.Dn.Dec
open Go.Proofs
theorem y26 (f : Bool) (l : List D) (n : Int) : rk Tryz.prog polY (.call 26 [.p 0 0] [.cells [vl f l, vi n] []]) = interp (rk Tryz.prog polY) (c1 (.call 24 [.p 0 0, vi 3] [.cells [vl f l, vi n] []]) 2 [] fun a c => aI a fun e => .call (.at_ 26 1 [false, true, false, true, true] (sv 83 [(0, .p 0 0), (3, .p 1 0), (4, vi 0), (5, vi e)]) [] [.cells [vi 2, vs [69], vs [], vi 0, vi 0, vu 0, vs [], vl true [], vl true [], vl true [.g [.s [65], .b false, .i .i64 0]], vs [], vl true []] [(9, 3)], .cells c []]) .ret) :=
 rk_of (by kernel_rfl)
theorem y25 (f : Bool) (l : List D) (n : Int) (s : List UInt8) : rk Tryz.prog polY (.call 25 [.p 0 0, vs s] [.cells [vl f l, vi n] []]) = interp (rk Tryz.prog polY) (c1 (.call 53 [.p 0 0, vi 5, vs s, vb false] [.cells [vl f l, vi n] []]) 2 [] fun a c => aL a fun e g => c1 (.call 53 [.p 0 0, vi 2, vs s, vb false] [.cells c []]) c.length [] fun h j => aL h fun k m => c1 (.call 24 [.p 0 0, vi 4] [.cells j []]) j.length [] fun o q => aI o fun r => .call (.at_ 25 1 [false, true, false, true, true, true, true] (sv 72 [(0, .p 0 0), (1, vs s), (5, .p 1 0), (6, .p 2 0), (7, .p 3 0), (8, vi 0), (9, vi r)]) [] [.cells [vi 7, vs [86], vs [], vi 0, vi 0, vu 0, vs [], vl true [], vl true [], vl true [], vs [], vl true []] [(11, 5)], .cells [vi 6, vs [88], vs [], vi 0, vi 0, vu 0, vs [], vl true [], vl k m, vl true [], vs [], vl true []] [], .cells [vi 4, vs [81], vs [], vi 0, vi 0, vu 0, vs [], vl true [], vl e g, vl true [], vs [], vl true []] [], .cells q []]) .ret) :=
 rk_of (by kernel_rfl)
theorem y11 (f : Bool) (l : List D) (n : Int) : rk Tryz.prog polY (.call 11 [.p 0 0] [.cells [vl f l, vi n] []]) = interp (rk Tryz.prog polY) (c1 (.call 24 [.p 0 0, vi 3] [.cells [vl f l, vi n] []]) 2 [] fun a b => aI a fun c => brB (c == 0) (c1 (.call 25 [.p 0 0, vs [98, 97, 115, 101, 46]] [.cells b []]) b.length [] fun e h => aL e fun j k => c1 (.call 26 [.p 0 0] [.cells h []]) h.length [] fun m o => aL m fun q r => .ret (vl true [.g [.l true [.s [98, 97, 115, 101]], .l true [.g [.s [103, 111], .s [97, 46, 98]]], .l j k], .g [.l true [], .l true [], .l q r]], [.cells o []])) (c1 (.call 26 [.p 0 0] [.cells b []]) b.length [] fun t zu => aL t fun v w => c1 (.call 25 [.p 0 0, vs []] [.cells zu []]) zu.length [] fun x y => aL x fun z a0 => ift v (ift (headOk 12 w) (ift (headOk 12 a0) (ift (v || oneAll a0) (ift (decide (w.length + a0.length ≤ 4294967296)) (.ret (vl true [.g [.l true [], .l true [], .l (v && a0.isEmpty) (w ++ a0)]], [.cells y []])))))))) :=
 rk_of (by kernel_rfl)
theorem y26_at43 (n_0 n_1 n_2 : Int) (l_3 l_4 : List UInt8) (n_5 n_6 n_7 : Int) (l_8 : List UInt8) (b_9 : Bool) (l_10 : List D) (b_11 : Bool) (l_12 : List D) (b_13 : Bool) (l_14 : List D) (l_15 : List UInt8) (b_16 : Bool) (l_17 : List D) (l_18 : List V) : rk Tryz.prog polY (.at_ 26 1 [false, true, false, true, true] (sv 83 [(0, .p 0 0), (3, .p 1 0), (4, vi n_0), (5, vi n_1)]) [] [.cells [vi n_2, vs l_3, vs l_4, vi n_5, vi n_6, vu n_7, vs l_8, vl b_9 l_10, vl b_11 l_12, vl b_13 l_14, vs l_15, vl b_16 l_17] [(9, 3)], .cells l_18 []]) = interp (rk Tryz.prog polY) (brB (decide (n_0 < n_1)) (c1 (.call 24 [.p 0 0, vi 2] [.cells l_18 []]) l_18.length [] fun a c => aI a fun e => brB (e == 0) (c1 (.call 24 [.p 0 0, vi 9] [.cells c []]) c.length [] fun f h => aI f fun j => .call (.at_ 26 1 [true, true, false, false, true, false, false, true, false, true, true] (sv 83 [(0, .p 0 0), (3, .p 1 0), (4, vi n_0), (5, vi n_1), (6, .p 2 0)]) [] [.cells [vs [UInt8.ofNat (IntKind.u8.wrap (IntKind.i64.wrap (66 + n_0))).toNat], vb true, vi (IntKind.i64.wrap (IntKind.i64.wrap (5 + IntKind.i64.wrap (10 * n_0)) + j))] [], .cells [vi n_2, vs l_3, vs l_4, vi n_5, vi n_6, vu n_7, vs l_8, vl b_9 l_10, vl b_11 l_12, vl b_13 l_14, vs l_15, vl b_16 l_17] [(9, 3)], .cells h []]) .ret) (.call (.at_ 26 1 [true, true, false, false, true, false, false, true, false, true, true] (sv 83 [(0, .p 0 0), (3, .p 1 0), (4, vi n_0), (5, vi n_1), (6, .p 2 0)]) [] [.cells [vs [UInt8.ofNat (IntKind.u8.wrap (IntKind.i64.wrap (66 + n_0))).toNat], vb false, vi 0] [], .cells [vi n_2, vs l_3, vs l_4, vi n_5, vi n_6, vu n_7, vs l_8, vl b_9 l_10, vl b_11 l_12, vl b_13 l_14, vs l_15, vl b_16 l_17] [(9, 3)], .cells c []]) .ret)) (c1 (.call 24 [.p 0 0, vi 4] [.cells l_18 []]) l_18.length [] fun k m => aI k fun n => eC [.s [105, 51, 50], .s [108, 105, 115, 116, 60, 69, 62], .s [115, 116, 114, 105, 110, 103], .s [109, 97, 112, 60, 115, 116, 114, 105, 110, 103, 44, 105, 54, 52, 62]] n 1 0 fun o => asS o fun q => brB (q == [105, 51, 50]) (c1 (.call 24 [.p 0 0, vi 99] [.cells m []]) m.length [] fun r t => aI r fun zu => .call (.at_ 26 1 [true, true, true, true, true, true] (sv 83 [(0, .p 0 0), (3, .p 1 0), (7, .p 2 0), (8, .p 3 0)]) [] [.cells [vi 3, vs [67], vs [84], vi 1, vi zu, vu 0, vs [], vl true [], vl true [], vl true [], vs [], vl true []] [], .cells [vi 1, vs [84], vs q, vi 0, vi 0, vu 0, vs [], vl true [], vl true [], vl true [], vs [], vl true []] [], .cells [vi n_2, vs l_3, vs l_4, vi n_5, vi n_6, vu n_7, vs l_8, vl b_9 l_10, vl b_11 l_12, vl b_13 l_14, vs l_15, vl b_16 l_17] [(9, 3)], .cells t []]) .ret) (brB (q == [108, 105, 115, 116, 60, 69, 62]) (.call (.at_ 26 1 [true, true, true, true, true, true] (sv 83 [(0, .p 0 0), (3, .p 1 0), (7, .p 2 0), (8, .p 3 0)]) [] [.cells [vi 3, vs [67], vs [84], vi 5, vi 0, vu 0, vs [], vl true [.g [.i .i64 4, .i .i64 0, .i .u64 0, .s [69, 46, 65], .l true []], .g [.i .i64 1, .i .i64 0, .i .u64 0, .s [], .l true []]], vl true [], vl true [], vs [], vl true []] [], .cells [vi 1, vs [84], vs q, vi 0, vi 0, vu 0, vs [], vl true [], vl true [], vl true [], vs [], vl true []] [], .cells [vi n_2, vs l_3, vs l_4, vi n_5, vi n_6, vu n_7, vs l_8, vl b_9 l_10, vl b_11 l_12, vl b_13 l_14, vs l_15, vl b_16 l_17] [(9, 3)], .cells m []]) .ret) (brB (q == [115, 116, 114, 105, 110, 103]) (.call (.at_ 26 1 [true, true, true, true, true, true] (sv 83 [(0, .p 0 0), (3, .p 1 0), (7, .p 2 0), (8, .p 3 0)]) [] [.cells [vi 3, vs [67], vs [84], vi 3, vi 0, vu 0, vs [99], vl true [], vl true [], vl true [], vs [], vl true []] [], .cells [vi 1, vs [84], vs q, vi 0, vi 0, vu 0, vs [], vl true [], vl true [], vl true [], vs [], vl true []] [], .cells [vi n_2, vs l_3, vs l_4, vi n_5, vi n_6, vu n_7, vs l_8, vl b_9 l_10, vl b_11 l_12, vl b_13 l_14, vs l_15, vl b_16 l_17] [(9, 3)], .cells m []]) .ret) (.call (.at_ 26 1 [true, true, true, true, true, true] (sv 83 [(0, .p 0 0), (3, .p 1 0), (7, .p 2 0), (8, .p 3 0)]) [] [.cells [vi 3, vs [67], vs [84], vi 5, vi 0, vu 0, vs [], vl true [], vl true [], vl true [], vs [], vl true []] [], .cells [vi 1, vs [84], vs q, vi 0, vi 0, vu 0, vs [], vl true [], vl true [], vl true [], vs [], vl true []] [], .cells [vi n_2, vs l_3, vs l_4, vi n_5, vi n_6, vu n_7, vs l_8, vl b_9 l_10, vl b_11 l_12, vl b_13 l_14, vs l_15, vl b_16 l_17] [(9, 3)], .cells m []]) .ret))))) :=
 rk_of (by kernel_rfl)
theorem y25_at175 (l_0 : List UInt8) (n_1 n_2 n_3 : Int) (l_4 l_5 : List UInt8) (n_6 n_7 n_8 : Int) (l_9 : List UInt8) (b_10 : Bool) (l_11 : List D) (b_12 : Bool) (l_13 : List D) (b_14 : Bool) (l_15 : List D) (l_16 : List UInt8) (b_17 : Bool) (l_18 : List D) (n_19 : Int) (l_20 l_21 : List UInt8) (n_22 n_23 n_24 : Int) (l_25 : List UInt8) (b_26 : Bool) (l_27 : List D) (b_28 : Bool) (l_29 : List D) (b_30 : Bool) (l_31 : List D) (l_32 : List UInt8) (b_33 : Bool) (l_34 : List D) (n_35 : Int) (l_36 l_37 : List UInt8) (n_38 n_39 n_40 : Int) (l_41 : List UInt8) (b_42 : Bool) (l_43 : List D) (b_44 : Bool) (l_45 : List D) (b_46 : Bool) (l_47 : List D) (l_48 : List UInt8) (b_49 : Bool) (l_50 : List D) (l_51 : List V) : rk Tryz.prog polY (.at_ 25 1 [false, true, false, true, true, true, true] (sv 72 [(0, .p 0 0), (1, vs l_0), (5, .p 1 0), (6, .p 2 0), (7, .p 3 0), (8, vi n_1), (9, vi n_2)]) [] [.cells [vi n_3, vs l_4, vs l_5, vi n_6, vi n_7, vu n_8, vs l_9, vl b_10 l_11, vl b_12 l_13, vl b_14 l_15, vs l_16, vl b_17 l_18] [(11, 5)], .cells [vi n_19, vs l_20, vs l_21, vi n_22, vi n_23, vu n_24, vs l_25, vl b_26 l_27, vl b_28 l_29, vl b_30 l_31, vs l_32, vl b_33 l_34] [], .cells [vi n_35, vs l_36, vs l_37, vi n_38, vi n_39, vu n_40, vs l_41, vl b_42 l_43, vl b_44 l_45, vl b_46 l_47, vs l_48, vl b_49 l_50] [], .cells l_51 []]) = interp (rk Tryz.prog polY) (brB (decide (n_1 < n_2)) (c1 (.call 54 [.p 0 0, vs l_0] [.cells l_51 []]) l_51.length [] fun a c => aL a fun e f => c1 (.call 24 [.p 0 0, vi 4] [.cells c []]) c.length [] fun h j => aI h fun k => brB (k == 0) (.call (.at_ 25 1 [true, true, false, false, true, false, false, true, false, true, true, true, true] (sv 72 [(0, .p 0 0), (1, vs l_0), (5, .p 1 0), (6, .p 2 0), (7, .p 3 0), (8, vi n_1), (9, vi n_2), (10, .p 4 0)]) [] [.cells [vs ([109] ++ [UInt8.ofNat (IntKind.u8.wrap (IntKind.i64.wrap (48 + n_1))).toNat]), vb true, vs [118, 111, 105, 100], vl e f, vl true []] [], .cells [vi n_3, vs l_4, vs l_5, vi n_6, vi n_7, vu n_8, vs l_9, vl b_10 l_11, vl b_12 l_13, vl b_14 l_15, vs l_16, vl b_17 l_18] [(11, 5)], .cells [vi n_19, vs l_20, vs l_21, vi n_22, vi n_23, vu n_24, vs l_25, vl b_26 l_27, vl b_28 l_29, vl b_30 l_31, vs l_32, vl b_33 l_34] [], .cells [vi n_35, vs l_36, vs l_37, vi n_38, vi n_39, vu n_40, vs l_41, vl b_42 l_43, vl b_44 l_45, vl b_46 l_47, vs l_48, vl b_49 l_50] [], .cells j []]) .ret) (brB (k == 1) (.call (.at_ 25 1 [true, true, false, false, true, false, false, true, false, true, true, true, true] (sv 72 [(0, .p 0 0), (1, vs l_0), (5, .p 1 0), (6, .p 2 0), (7, .p 3 0), (8, vi n_1), (9, vi n_2), (10, .p 4 0)]) [] [.cells [vs ([109] ++ [UInt8.ofNat (IntKind.u8.wrap (IntKind.i64.wrap (48 + n_1))).toNat]), vb false, vs [118, 111, 105, 100], vl e f, vl true [.g [.b true, .i .i64 1, .i .i64 0, .s [88], .s [120], .b false, .i .i64 0, .i .i64 0, .i .u64 0, .s [], .l true []]]] [], .cells [vi n_3, vs l_4, vs l_5, vi n_6, vi n_7, vu n_8, vs l_9, vl b_10 l_11, vl b_12 l_13, vl b_14 l_15, vs l_16, vl b_17 l_18] [(11, 5)], .cells [vi n_19, vs l_20, vs l_21, vi n_22, vi n_23, vu n_24, vs l_25, vl b_26 l_27, vl b_28 l_29, vl b_30 l_31, vs l_32, vl b_33 l_34] [], .cells [vi n_35, vs l_36, vs l_37, vi n_38, vi n_39, vu n_40, vs l_41, vl b_42 l_43, vl b_44 l_45, vl b_46 l_47, vs l_48, vl b_49 l_50] [], .cells j []]) .ret) (c1 (.call 55 [.p 0 0, vs l_0, vi 0] [.cells j []]) j.length [] fun m n => aS m fun o => c1 (.call 24 [.p 0 0, vi 2] [.cells n []]) n.length [] fun q r => aI q fun t => brB (t == 0) (.call (.at_ 25 1 [true, true, false, false, true, false, false, true, false, true, true, true, true] (sv 72 [(0, .p 0 0), (1, vs l_0), (5, .p 1 0), (6, .p 2 0), (7, .p 3 0), (8, vi n_1), (9, vi n_2), (10, .p 4 0)]) [] [.cells [vs ([109] ++ [UInt8.ofNat (IntKind.u8.wrap (IntKind.i64.wrap (48 + n_1))).toNat]), vb false, vs o, vl e f, vl true [.g [.b true, .i .i64 1, .i .i64 0, .s [88], .s [120], .b false, .i .i64 0, .i .i64 0, .i .u64 0, .s [], .l true []]]] [], .cells [vi n_3, vs l_4, vs l_5, vi n_6, vi n_7, vu n_8, vs l_9, vl b_10 l_11, vl b_12 l_13, vl b_14 l_15, vs l_16, vl b_17 l_18] [(11, 5)], .cells [vi n_19, vs l_20, vs l_21, vi n_22, vi n_23, vu n_24, vs l_25, vl b_26 l_27, vl b_28 l_29, vl b_30 l_31, vs l_32, vl b_33 l_34] [], .cells [vi n_35, vs l_36, vs l_37, vi n_38, vi n_39, vu n_40, vs l_41, vl b_42 l_43, vl b_44 l_45, vl b_46 l_47, vs l_48, vl b_49 l_50] [], .cells r []]) .ret) (.call (.at_ 25 1 [true, true, false, false, true, false, false, true, false, true, true, true, true] (sv 72 [(0, .p 0 0), (1, vs l_0), (5, .p 1 0), (6, .p 2 0), (7, .p 3 0), (8, vi n_1), (9, vi n_2), (10, .p 4 0)]) [] [.cells [vs ([109] ++ [UInt8.ofNat (IntKind.u8.wrap (IntKind.i64.wrap (48 + n_1))).toNat]), vb false, vs o, vl e f, vl true []] [], .cells [vi n_3, vs l_4, vs l_5, vi n_6, vi n_7, vu n_8, vs l_9, vl b_10 l_11, vl b_12 l_13, vl b_14 l_15, vs l_16, vl b_17 l_18] [(11, 5)], .cells [vi n_19, vs l_20, vs l_21, vi n_22, vi n_23, vu n_24, vs l_25, vl b_26 l_27, vl b_28 l_29, vl b_30 l_31, vs l_32, vl b_33 l_34] [], .cells [vi n_35, vs l_36, vs l_37, vi n_38, vi n_39, vu n_40, vs l_41, vl b_42 l_43, vl b_44 l_45, vl b_46 l_47, vs l_48, vl b_49 l_50] [], .cells r []]) .ret)))) (.ret (vl true [.g [.i .i64 n_35, .s l_36, .s l_37, .i .i64 n_38, .i .i64 n_39, .i .u64 n_40, .s l_41, .l b_42 l_43, .l b_44 l_45, .l b_46 l_47, .s l_48, .l b_49 l_50], .g [.i .i64 n_19, .s l_20, .s l_21, .i .i64 n_22, .i .i64 n_23, .i .u64 n_24, .s l_25, .l b_26 l_27, .l b_28 l_29, .l b_30 l_31, .s l_32, .l b_33 l_34], .g [.i .i64 n_3, .s l_4, .s l_5, .i .i64 n_6, .i .i64 n_7, .i .u64 n_8, .s l_9, .l b_10 l_11, .l b_12 l_13, .l b_14 l_15, .s l_16, .l b_17 l_18], .g [.i .i64 7, .s [87], .s [], .i .i64 0, .i .i64 0, .i .u64 0, .s [], .l true [], .l true [], .l true [], .s [86], .l true [.g [.s [111, 119, 110], .b false, .s [105, 51, 50], .l true [], .l true []]]]], [.cells l_51 []]))) :=
 rk_of (by kernel_rfl)
theorem y26_at3659 (n_0 n_1 : Int) (l_2 : List UInt8) (b_3 : Bool) (n_4 n_5 : Int) (l_6 l_7 : List UInt8) (n_8 n_9 n_10 : Int) (l_11 : List UInt8) (b_12 : Bool) (l_13 : List D) (b_14 : Bool) (l_15 : List D) (b_16 : Bool) (l_17 : List D) (l_18 : List UInt8) (b_19 : Bool) (l_20 : List D) (l_21 : List V) : rk Tryz.prog polY (.at_ 26 1 [true, true, false, false, true, false, false, true, false, true, true] (sv 83 [(0, .p 0 0), (3, .p 1 0), (4, vi n_0), (5, vi n_1), (6, .p 2 0)]) [] [.cells [vs l_2, vb b_3, vi n_4] [], .cells [vi n_5, vs l_6, vs l_7, vi n_8, vi n_9, vu n_10, vs l_11, vl b_12 l_13, vl b_14 l_15, vl b_16 l_17, vs l_18, vl b_19 l_20] [(9, 3)], .cells l_21 []]) = interp (rk Tryz.prog polY) (ift (headOk 3 l_17) (ift (b_16 || true) (ift (decide (l_17.length + 1 ≤ 4294967296)) (.call (.at_ 26 1 [false, true, false, true, true] (sv 83 [(0, .p 0 0), (3, .p 1 0), (4, vi (IntKind.i64.wrap (n_0 + 1))), (5, vi n_1)]) [] [.cells [vi n_5, vs l_6, vs l_7, vi n_8, vi n_9, vu n_10, vs l_11, vl b_12 l_13, vl b_14 l_15, vl (b_16 && false) (l_17 ++ [.g [.s l_2, .b b_3, .i .i64 n_4]]), vs l_18, vl b_19 l_20] [(9, 3)], .cells l_21 []]) .ret)))) :=
 rk_of (by kernel_rfl)
theorem y26_at127 (n_0 : Int) (l_1 l_2 : List UInt8) (n_3 n_4 n_5 : Int) (l_6 : List UInt8) (b_7 : Bool) (l_8 : List D) (b_9 : Bool) (l_10 : List D) (b_11 : Bool) (l_12 : List D) (l_13 : List UInt8) (b_14 : Bool) (l_15 : List D) (n_16 : Int) (l_17 l_18 : List UInt8) (n_19 n_20 n_21 : Int) (l_22 : List UInt8) (b_23 : Bool) (l_24 : List D) (b_25 : Bool) (l_26 : List D) (b_27 : Bool) (l_28 : List D) (l_29 : List UInt8) (b_30 : Bool) (l_31 : List D) (n_32 : Int) (l_33 l_34 : List UInt8) (n_35 n_36 n_37 : Int) (l_38 : List UInt8) (b_39 : Bool) (l_40 : List D) (b_41 : Bool) (l_42 : List D) (b_43 : Bool) (l_44 : List D) (l_45 : List UInt8) (b_46 : Bool) (l_47 : List D) (l_48 : List V) : rk Tryz.prog polY (.at_ 26 1 [true, true, true, true, true, true] (sv 83 [(0, .p 0 0), (3, .p 1 0), (7, .p 2 0), (8, .p 3 0)]) [] [.cells [vi n_0, vs l_1, vs l_2, vi n_3, vi n_4, vu n_5, vs l_6, vl b_7 l_8, vl b_9 l_10, vl b_11 l_12, vs l_13, vl b_14 l_15] [], .cells [vi n_16, vs l_17, vs l_18, vi n_19, vi n_20, vu n_21, vs l_22, vl b_23 l_24, vl b_25 l_26, vl b_27 l_28, vs l_29, vl b_30 l_31] [], .cells [vi n_32, vs l_33, vs l_34, vi n_35, vi n_36, vu n_37, vs l_38, vl b_39 l_40, vl b_41 l_42, vl b_43 l_44, vs l_45, vl b_46 l_47] [(9, 3)], .cells l_48 []]) = interp (rk Tryz.prog polY) (c1 (.call 53 [.p 0 0, vi 4, vs [], vb false] [.cells l_48 []]) l_48.length [] fun a c => aL a fun e f => c1 (.call 53 [.p 0 0, vi 3, vs [], vb true] [.cells c []]) c.length [] fun h j => aL h fun k m => .ret (vl true [.g [.i .i64 n_32, .s l_33, .s l_34, .i .i64 n_35, .i .i64 n_36, .i .u64 n_37, .s l_38, .l b_39 l_40, .l b_41 l_42, .l b_43 l_44, .s l_45, .l b_46 l_47], .g [.i .i64 n_16, .s l_17, .s l_18, .i .i64 n_19, .i .i64 n_20, .i .u64 n_21, .s l_22, .l b_23 l_24, .l b_25 l_26, .l b_27 l_28, .s l_29, .l b_30 l_31], .g [.i .i64 n_0, .s l_1, .s l_2, .i .i64 n_3, .i .i64 n_4, .i .u64 n_5, .s l_6, .l b_7 l_8, .l b_9 l_10, .l b_11 l_12, .s l_13, .l b_14 l_15], .g [.i .i64 4, .s [80], .s [], .i .i64 0, .i .i64 0, .i .u64 0, .s [], .l true [], .l e f, .l true [], .s [], .l true []], .g [.i .i64 5, .s [85], .s [], .i .i64 0, .i .i64 0, .i .u64 0, .s [], .l true [], .l k m, .l true [], .s [], .l true []]], [.cells j []])) :=
 rk_of (by kernel_rfl)
theorem y25_at14639 (l_0 : List UInt8) (n_1 n_2 : Int) (l_3 : List UInt8) (b_4 : Bool) (l_5 : List UInt8) (b_6 : Bool) (l_7 : List D) (b_8 : Bool) (l_9 : List D) (n_10 : Int) (l_11 l_12 : List UInt8) (n_13 n_14 n_15 : Int) (l_16 : List UInt8) (b_17 : Bool) (l_18 : List D) (b_19 : Bool) (l_20 : List D) (b_21 : Bool) (l_22 : List D) (l_23 : List UInt8) (b_24 : Bool) (l_25 : List D) (n_26 : Int) (l_27 l_28 : List UInt8) (n_29 n_30 n_31 : Int) (l_32 : List UInt8) (b_33 : Bool) (l_34 : List D) (b_35 : Bool) (l_36 : List D) (b_37 : Bool) (l_38 : List D) (l_39 : List UInt8) (b_40 : Bool) (l_41 : List D) (n_42 : Int) (l_43 l_44 : List UInt8) (n_45 n_46 n_47 : Int) (l_48 : List UInt8) (b_49 : Bool) (l_50 : List D) (b_51 : Bool) (l_52 : List D) (b_53 : Bool) (l_54 : List D) (l_55 : List UInt8) (b_56 : Bool) (l_57 : List D) (l_58 : List V) : rk Tryz.prog polY (.at_ 25 1 [true, true, false, false, true, false, false, true, false, true, true, true, true] (sv 72 [(0, .p 0 0), (1, vs l_0), (5, .p 1 0), (6, .p 2 0), (7, .p 3 0), (8, vi n_1), (9, vi n_2), (10, .p 4 0)]) [] [.cells [vs l_3, vb b_4, vs l_5, vl b_6 l_7, vl b_8 l_9] [], .cells [vi n_10, vs l_11, vs l_12, vi n_13, vi n_14, vu n_15, vs l_16, vl b_17 l_18, vl b_19 l_20, vl b_21 l_22, vs l_23, vl b_24 l_25] [(11, 5)], .cells [vi n_26, vs l_27, vs l_28, vi n_29, vi n_30, vu n_31, vs l_32, vl b_33 l_34, vl b_35 l_36, vl b_37 l_38, vs l_39, vl b_40 l_41] [], .cells [vi n_42, vs l_43, vs l_44, vi n_45, vi n_46, vu n_47, vs l_48, vl b_49 l_50, vl b_51 l_52, vl b_53 l_54, vs l_55, vl b_56 l_57] [], .cells l_58 []]) = interp (rk Tryz.prog polY) (ift (headOk 5 l_25) (ift (b_24 || true) (ift (decide (l_25.length + 1 ≤ 4294967296)) (.call (.at_ 25 1 [false, true, false, true, true, true, true] (sv 72 [(0, .p 0 0), (1, vs l_0), (5, .p 1 0), (6, .p 2 0), (7, .p 3 0), (8, vi (IntKind.i64.wrap (n_1 + 1))), (9, vi n_2)]) [] [.cells [vi n_10, vs l_11, vs l_12, vi n_13, vi n_14, vu n_15, vs l_16, vl b_17 l_18, vl b_19 l_20, vl b_21 l_22, vs l_23, vl (b_24 && false) (l_25 ++ [.g [.s l_3, .b b_4, .s l_5, .l b_6 l_7, .l b_8 l_9]])] [(11, 5)], .cells [vi n_26, vs l_27, vs l_28, vi n_29, vi n_30, vu n_31, vs l_32, vl b_33 l_34, vl b_35 l_36, vl b_37 l_38, vs l_39, vl b_40 l_41] [], .cells [vi n_42, vs l_43, vs l_44, vi n_45, vi n_46, vu n_47, vs l_48, vl b_49 l_50, vl b_51 l_52, vl b_53 l_54, vs l_55, vl b_56 l_57] [], .cells l_58 []]) .ret)))) :=
 rk_of (by kernel_rfl)
end Go.Dn.Dec
namespace Go.Dn.Dec
open Go.Proofs
set_option linter.unusedVariables false
set_option linter.unusedSimpArgs false
set_option linter.unusedSectionVars false
theorem so_L {f : Task → Option Out} {t : Task} {b : Bool} {l : List D} {cs : List V} {fl fl' : Fl} {m : Nat} {K : List V → Bool → List D → Tr} (h : f t = some (.d (.l b l), [.cells cs fl])) (hm : cs.length = m) (hf : (fl == fl') = true) :
  interp f (.call t fun o => unCons o.snd fun x l2 => unCells x fun c g => ift (c.length == m) (ift (g == fl') (unNil l2 (asD o.fst fun d => asL d fun y z => K c y z)))) = interp f (K cs b l) := by
 rw [st_call h]
 show interp f (ift (cs.length == m) (ift (fl == fl') (K cs b l))) = _
 rw [hm, beq_self_eq_true, st_ift, hf, st_ift]
def MMember (x : D) : Prop := ∃ (nm : List UInt8) (h : Bool) (n : Int), x = .g [.s nm, .b h, .i .i64 n] ∧ nm.length ≤ 1 ∧ 0 ≤ n ∧ n ≤ 1000
def MMethod (x : D) : Prop := ∃ (nm : List UInt8) (ow : Bool) (ret : List UInt8) (ab : Bool) (al : List D) (tb : Bool) (tl : List D), x = .g [.s nm, .b ow, .s ret, .l ab al, .l tb tl] ∧ nm.length ≤ 3 ∧ ret.length ≤ 442 ∧ al.length ≤ 2 ∧ tl.length ≤ 1 ∧ (∀ y ∈ al, MField y) ∧ ∀ y ∈ tl, MField y
def MDef (x : D) : Prop := ∃ (kd : Int) (nm ty : List UInt8) (ck cn cu : Int) (cs : List UInt8) (cb : Bool) (cl : List D) (fb : Bool) (fl : List D) (mb : Bool) (ml : List D) (ex : List UInt8) (tb : Bool) (tl : List D),
 x = .g [.i .i64 kd, .s nm, .s ty, .i .i64 ck, .i .i64 cn, .i .u64 cu, .s cs, .l cb cl, .l fb fl, .l mb ml, .s ex, .l tb tl] ∧ 1 ≤ kd ∧ kd ≤ 7 ∧ nm.length ≤ 1 ∧ ty.length ≤ 15 ∧
  0 ≤ ck ∧ ck ≤ 5 ∧ (kd = 3 → 1 ≤ ck) ∧ -1000 ≤ cn ∧ cn ≤ 1000 ∧ 0 ≤ cu ∧ cu < 18446744073709551616 ∧ cs.length ≤ 1 ∧ cl.length ≤ 2 ∧ (∀ y ∈ cl, Leaf y) ∧
  fl.length ≤ 5 ∧ (∀ y ∈ fl, MField y) ∧ ml.length ≤ 3 ∧ (∀ y ∈ ml, MMember y) ∧ ex.length ≤ 1 ∧ tl.length ≤ 3 ∧ (∀ y ∈ tl, MMethod y) ∧
  (kd = 2 → fl = [] ∧ tl = [] ∧ ex = []) ∧ (4 ≤ kd ∧ kd ≤ 6 → ml = [] ∧ tl = [] ∧ ex = []) ∧ (kd = 7 → fl = [] ∧ ml = [])
abbrev ec (b : Bool) (ml : List D) : Ob := .cells [V.d (D.i .i64 2), V.d (D.s [69]), V.d (D.s []), V.d (D.i .i64 0), V.d (D.i .i64 0), V.d (D.i .u64 0), V.d (D.s []), V.d (D.l true []), V.d (D.l true []), V.d (D.l b ml), V.d (D.s []), V.d (D.l true [])] [(9, 3)]
abbrev tyc (ty : List UInt8) : Ob := .cells [V.d (D.i .i64 1), V.d (D.s [84]), V.d (D.s ty), V.d (D.i .i64 0), V.d (D.i .i64 0), V.d (D.i .u64 0), V.d (D.s []), V.d (D.l true []), V.d (D.l true []), V.d (D.l true []), V.d (D.s []), V.d (D.l true [])] []
abbrev coc (ck cn : Int) (cs : List UInt8) (cl : List D) : Ob := .cells [V.d (D.i .i64 3), V.d (D.s [67]), V.d (D.s [84]), V.d (D.i .i64 ck), V.d (D.i .i64 cn), V.d (D.i .u64 0), V.d (D.s cs), V.d (D.l true cl), V.d (D.l true []), V.d (D.l true []), V.d (D.s []), V.d (D.l true [])] []
def GoodB (zs : List Int) (t : Task) : Prop := ∃ (l : List D) (n' : Nat), l.length = 5 ∧ (∀ x ∈ l, MDef x) ∧ Pk zs n' ∧ rk Tryz.prog polY t = some (.d (.l true l), [pk zs n'])
theorem GoodB.of_eq {zs : List Int} {t t2 : Task} (h : GoodB zs t2) (e : rk Tryz.prog polY t = interp (rk Tryz.prog polY) (Tr.call t2 Tr.ret)) : GoodB zs t := by
 obtain ⟨l, n, h1, h2, h3, h4⟩ := h
 exact ⟨l, n, h1, h2, h3, by rw [e]; exact st_ret h4⟩
theorem b127 {zs : List Int} {m : Nat} (hp : Pk zs m) {ck cn : Int} {cs ty : List UInt8} {cl : List D} {b : Bool} {ml : List D} (h1 : 1 ≤ ck ∧ ck ≤ 5) (h2 : -1000 ≤ cn ∧ cn ≤ 1000) (h3 : cs.length ≤ 1) (h4 : cl.length ≤ 2) (h5 : ∀ y ∈ cl, Leaf y) (h6 : ty.length ≤ 15) (h7 : ml.length ≤ 3) (h8 : ∀ y ∈ ml, MMember y) :
  GoodB zs (Task.at_ 26 1 [true, true, true, true, true, true] (sv 83 [(0, V.p 0 0), (3, V.p 1 0), (7, V.p 2 0), (8, V.p 3 0)]) [] [coc ck cn cs cl, tyc ty, ec b ml, pk zs m]) := by
 obtain ⟨b1, l1, m1, p1, p2, p3, p4⟩ := fields_s hp 4 (most := 4) rfl (by omega) [] (by simp) false
 obtain ⟨b2, l2, m2, q1, q2, q3, q4⟩ := fields_s p3 3 (most := 3) rfl (by omega) [] (by simp) true
 refine ⟨_, m2, rfl, ?_, q3, by rw [y26_at127, so_L (m := (pkc zs m).length) (fl' := []) p4 rfl rfl, so_L (m := (pkc zs m1).length) (fl' := []) q4 rfl rfl]; rfl⟩
 intro x hx
 simp only [List.mem_cons, List.not_mem_nil, or_false] at hx
 rcases hx with rfl | rfl | rfl | rfl | rfl
 ·exact ⟨2, _, _, 0, 0, 0, _, _, _, _, _, _, _, _, _, _, rfl, by omega, by omega, by simp, by simp, by omega, by omega, by omega, by omega, by omega, by omega, by omega, by simp, by simp, by simp, by simp, by simp, h7, h8, by simp, by simp, by simp, fun _ => ⟨rfl, rfl, rfl⟩, fun h => by omega, fun h => by omega⟩
 ·exact ⟨1, _, _, 0, 0, 0, _, _, _, _, _, _, _, _, _, _, rfl, by omega, by omega, by simp, h6, by omega, by omega, by omega, by omega, by omega, by omega, by omega, by simp, by simp, by simp, by simp, by simp, by simp, by simp, by simp, by simp, by simp, fun h => by omega, fun h => by omega, fun h => by omega⟩
 ·exact ⟨3, _, _, ck, cn, 0, _, _, _, _, _, _, _, _, _, _, rfl, by omega, by omega, by simp, by simp, by omega, by omega, fun _ => h1.1, by omega, by omega, by omega, by omega, h3, h4, h5, by simp, by simp, by simp, by simp, by simp, by simp, by simp, fun h => by omega, fun h => by omega, fun h => by omega⟩
 ·exact ⟨4, _, _, 0, 0, 0, _, _, _, _, _, _, _, _, _, _, rfl, by omega, by omega, by simp, by simp, by omega, by omega, by omega, by omega, by omega, by omega, by omega, by simp, by simp, by simp, p1, p2, by simp, by simp, by simp, by simp, by simp, fun h => by omega, fun _ => ⟨rfl, rfl, rfl⟩, fun h => by omega⟩
 ·exact ⟨5, _, _, 0, 0, 0, _, _, _, _, _, _, _, _, _, _, rfl, by omega, by omega, by simp, by simp, by omega, by omega, by omega, by omega, by omega, by omega, by omega, by simp, by simp, by simp, q1, q2, by simp, by simp, by simp, by simp, by simp, fun h => by omega, fun _ => ⟨rfl, rfl, rfl⟩, fun h => by omega⟩
abbrev tz26 (i N : Int) (o1 o2 : Ob) : Task := Task.at_ 26 1 [false, true, false, true, true] (sv 83 [(0, V.p 0 0), (3, V.p 1 0), (4, V.d (D.i .i64 i)), (5, V.d (D.i .i64 N))]) [] [o1, o2]
theorem mmem_head {l : List D} (h : ∀ x ∈ l, MMember x) : headOk 3 l = true := by
 cases l with
 | nil => rfl
 | cons x l =>
  obtain ⟨_, _, _, rfl, _⟩ := h x (by simp)
  rfl
theorem b365 {zs : List Int} {m : Nat} {nm : List UInt8} {h : Bool} {n : Int} {b : Bool} {ml : List D} {i N : Nat} (hi : i ≤ 5) (hl : ml.length ≤ 5) (hm : ∀ y ∈ ml, MMember y)
  (hg : GoodB zs (tz26 ((i + 1 : Nat) : Int) (N : Int) (ec (b && false) (ml ++ [D.g [.s nm, .b h, .i .i64 n]])) (pk zs m))) :
  GoodB zs (Task.at_ 26 1 [true, true, false, false, true, false, false, true, false, true, true] (sv 83 [(0, V.p 0 0), (3, V.p 1 0), (4, V.d (D.i .i64 (i : Int))), (5, V.d (D.i .i64 (N : Int))), (6, V.p 2 0)]) []
   [Ob.cells [V.d (D.s nm), V.d (D.b h), V.d (D.i .i64 n)] [], ec b ml, pk zs m]) := by
 refine hg.of_eq ?_
 have w1 : IntKind.i64.wrap ((i : Int) + 1) = ((i + 1 : Nat) : Int) := by rw [wrap_i64] <;> omega
 rw [y26_at3659, mmem_head hm, st_ift, Bool.or_true, st_ift, st_if (by omega), w1]
theorem b43 {zs : List Int} {N : Nat} (hN : N ≤ 2) : ∀ (j i : Nat) (b : Bool) (ml : List D) (m : Nat), i + j = N → ml.length = i + 1 → (∀ y ∈ ml, MMember y) → Pk zs m → GoodB zs (tz26 (i : Int) (N : Int) (ec b ml) (pk zs m))
 | 0, i, b, ml, m, e, hl, hm, hp => by
  obtain ⟨k, m2, hk, h2, hr2⟩ := num_s hp (m := 4) 4 rfl (by omega) (by omega)
  have hx : ∃ ty : List UInt8, ([D.s [105, 51, 50], D.s [108, 105, 115, 116, 60, 69, 62], D.s [115, 116, 114, 105, 110, 103], D.s [109, 97, 112, 60, 115, 116, 114, 105, 110, 103, 44, 105, 54, 52, 62]] : List D)[k]? = some (.s ty) ∧ ty.length ≤ 15 := by
   rcases k with _ | _ | _ | _ | k
   all_goals first
    | (refine ⟨_, rfl, ?_⟩; simp; done)
    | omega
  obtain ⟨ty, hty, hlen⟩ := hx
  obtain ⟨k3, m3, hk3, h3, hr3⟩ := num_s h2 (m := 99) 99 rfl (by omega) (by omega)
  by_cases e1 : ty = [105, 51, 50]
  ·refine (b127 h3 (ck := 1) (cn := (k3 : Int)) (cs := []) (ty := ty) (cl := []) (b := b) (ml := ml) (by omega) (by omega) (by simp) (by simp) (by simp) hlen (by omega) hm).of_eq ?_
   rw [y26_at43, st_f (by omega), so_I (m := (pkc zs m).length) (fl' := []) hr2 rfl rfl, yl_S hty, st_bt (beq_iff_eq.2 e1), so_I (m := (pkc zs m2).length) (fl' := []) hr3 rfl rfl]
  ·by_cases e2 : ty = [108, 105, 115, 116, 60, 69, 62]
   ·refine (b127 h2 (ck := 5) (cn := 0) (cs := []) (ty := ty) (cl := [D.g [D.i .i64 4, D.i .i64 0, D.i .u64 0, D.s [69, 46, 65], D.l true []], D.g [D.i .i64 1, D.i .i64 0, D.i .u64 0, D.s [], D.l true []]]) (b := b) (ml := ml) (by omega) (by omega) (by simp) (by simp) (fun y hy => ?_) hlen (by omega) hm).of_eq ?_
    ·simp only [List.mem_cons, List.not_mem_nil, or_false] at hy
     rcases hy with rfl | rfl
     ·exact leaf_mk (by omega) (by omega) (by omega) (by simp)
     ·exact leaf_mk (by omega) (by omega) (by omega) (by simp)
    ·rw [y26_at43, st_f (by omega), so_I (m := (pkc zs m).length) (fl' := []) hr2 rfl rfl, yl_S hty, st_bf (beq_eq_false_iff_ne.2 e1), st_bt (beq_iff_eq.2 e2)]
   ·by_cases e3 : ty = [115, 116, 114, 105, 110, 103]
    ·refine (b127 h2 (ck := 3) (cn := 0) (cs := [99]) (ty := ty) (cl := []) (b := b) (ml := ml) (by omega) (by omega) (by simp) (by simp) (by simp) hlen (by omega) hm).of_eq ?_
     rw [y26_at43, st_f (by omega), so_I (m := (pkc zs m).length) (fl' := []) hr2 rfl rfl, yl_S hty, st_bf (beq_eq_false_iff_ne.2 e1), st_bf (beq_eq_false_iff_ne.2 e2), st_bt (beq_iff_eq.2 e3)]
    ·refine (b127 h2 (ck := 5) (cn := 0) (cs := []) (ty := ty) (cl := []) (b := b) (ml := ml) (by omega) (by omega) (by simp) (by simp) (by simp) hlen (by omega) hm).of_eq ?_
     rw [y26_at43, st_f (by omega), so_I (m := (pkc zs m).length) (fl' := []) hr2 rfl rfl, yl_S hty, st_bf (beq_eq_false_iff_ne.2 e1), st_bf (beq_eq_false_iff_ne.2 e2), st_bf (beq_eq_false_iff_ne.2 e3)]
 | j + 1, i, b, ml, m, e, hl, hm, hp => by
  obtain ⟨k, m2, hk, h2, hr2⟩ := num_s hp (m := 2) 2 rfl (by omega) (by omega)
  obtain ⟨k3, m3, hk3, h3, hr3⟩ := num_s h2 (m := 9) 9 rfl (by omega) (by omega)
  have w1 : IntKind.i64.wrap (10 * (i : Int)) = 10 * (i : Int) := by rw [wrap_i64] <;> omega
  have w2 : IntKind.i64.wrap (5 + 10 * (i : Int)) = 5 + 10 * (i : Int) := by rw [wrap_i64] <;> omega
  have w3 : IntKind.i64.wrap (5 + 10 * (i : Int) + (k3 : Int)) = 5 + 10 * (i : Int) + (k3 : Int) := by rw [wrap_i64] <;> omega
  have nx : ∀ (nm : List UInt8) (h : Bool) (n : Int) (m' : Nat), nm.length ≤ 1 → 0 ≤ n → n ≤ 1000 → Pk zs m' → GoodB zs (tz26 ((i + 1 : Nat) : Int) (N : Int) (ec (b && false) (ml ++ [D.g [.s nm, .b h, .i .i64 n]])) (pk zs m')) := fun nm h n m' a1 a2 a3 hm' =>
   b43 hN j (i + 1) (b && false) _ m' (by omega) (by simp [hl]) (fun y hy => by
    rcases List.mem_append.1 hy with hy | hy
    ·exact hm y hy
    ·simp only [List.mem_singleton] at hy; subst hy; exact ⟨_, _, _, rfl, a1, a2, a3⟩) hm'
  by_cases hk0 : k = 0
  ·refine (b365 (b := b) (ml := ml) (by omega) (by omega) hm (nx [UInt8.ofNat (IntKind.u8.wrap (IntKind.i64.wrap (66 + (i : Int)))).toNat] true (5 + 10 * (i : Int) + (k3 : Int)) m3 (by simp) (by omega) (by omega) h3)).of_eq ?_
   rw [y26_at43, st_t (by omega), so_I (m := (pkc zs m).length) (fl' := []) hr2 rfl rfl, st_eq (by omega), so_I (m := (pkc zs m2).length) (fl' := []) hr3 rfl rfl, w1, w2, w3]
  ·refine (b365 (b := b) (ml := ml) (by omega) (by omega) hm (nx [UInt8.ofNat (IntKind.u8.wrap (IntKind.i64.wrap (66 + (i : Int)))).toNat] false 0 m2 (by simp) (by omega) (by omega) h2)).of_eq ?_
   rw [y26_at43, st_t (by omega), so_I (m := (pkc zs m).length) (fl' := []) hr2 rfl rfl, st_ne (by omega)]
theorem base_s {zs : List Int} {n : Nat} (h : Pk zs n) : GoodB zs (Task.call 26 [V.p 0 0] [pk zs n]) := by
 obtain ⟨k, n1, hk, h1, hr⟩ := num_s h (m := 3) 3 rfl (by omega) (by omega)
 refine (b43 (N := k) (by omega) k 0 true [D.g [D.s [65], D.b false, D.i .i64 0]] n1 (by omega) rfl (fun y hy => ?_) h1).of_eq ?_
 ·simp only [List.mem_singleton] at hy; subst hy; exact ⟨_, _, _, rfl, by simp, by omega, by omega⟩
 ·rw [y26, so_I (m := 2) (fl' := []) hr rfl rfl]; rfl
end Go.Dn.Dec
namespace Go.Dn.Dec
open Go.Proofs
set_option linter.unusedVariables false
set_option linter.unusedSimpArgs false
set_option linter.unusedSectionVars false
abbrev vc (b : Bool) (l : List D) : Ob := .cells [V.d (D.i .i64 7), V.d (D.s [86]), V.d (D.s []), V.d (D.i .i64 0), V.d (D.i .i64 0), V.d (D.i .u64 0), V.d (D.s []), V.d (D.l true []), V.d (D.l true []), V.d (D.l true []), V.d (D.s []), V.d (D.l b l)] [(11, 5)]
abbrev xc (b : Bool) (l : List D) : Ob := .cells [V.d (D.i .i64 6), V.d (D.s [88]), V.d (D.s []), V.d (D.i .i64 0), V.d (D.i .i64 0), V.d (D.i .u64 0), V.d (D.s []), V.d (D.l true []), V.d (D.l b l), V.d (D.l true []), V.d (D.s []), V.d (D.l true [])] []
abbrev qc (b : Bool) (l : List D) : Ob := .cells [V.d (D.i .i64 4), V.d (D.s [81]), V.d (D.s []), V.d (D.i .i64 0), V.d (D.i .i64 0), V.d (D.i .u64 0), V.d (D.s []), V.d (D.l true []), V.d (D.l b l), V.d (D.l true []), V.d (D.s []), V.d (D.l true [])] []
abbrev mc (nm : List UInt8) (ow : Bool) (ret : List UInt8) (ab : Bool) (al : List D) (tl : List D) : Ob := .cells [V.d (D.s nm), V.d (D.b ow), V.d (D.s ret), V.d (D.l ab al), V.d (D.l true tl)] []
def GoodR (zs : List Int) (t : Task) : Prop := ∃ (l : List D) (n' : Nat), l.length = 4 ∧ (∀ x ∈ l, MDef x) ∧ Pk zs n' ∧ rk Tryz.prog polY t = some (.d (.l true l), [pk zs n'])
theorem GoodR.of_eq {zs : List Int} {t t2 : Task} (h : GoodR zs t2) (e : rk Tryz.prog polY t = interp (rk Tryz.prog polY) (Tr.call t2 Tr.ret)) : GoodR zs t := by
 obtain ⟨l, n, h1, h2, h3, h4⟩ := h
 exact ⟨l, n, h1, h2, h3, by rw [e]; exact st_ret h4⟩
abbrev tz25 (s : List UInt8) (i N : Int) (v x q o : Ob) : Task := Task.at_ 25 1 [false, true, false, true, true, true, true] (sv 72 [(0, V.p 0 0), (1, V.d (D.s s)), (5, V.p 1 0), (6, V.p 2 0), (7, V.p 3 0), (8, V.d (D.i .i64 i)), (9, V.d (D.i .i64 N))]) [] [v, x, q, o]
abbrev tz14 (s : List UInt8) (i N : Int) (m v x q o : Ob) : Task := Task.at_ 25 1 [true, true, false, false, true, false, false, true, false, true, true, true, true] (sv 72 [(0, V.p 0 0), (1, V.d (D.s s)), (5, V.p 1 0), (6, V.p 2 0), (7, V.p 3 0), (8, V.d (D.i .i64 i)), (9, V.d (D.i .i64 N)), (10, V.p 4 0)]) [] [m, v, x, q, o]
theorem mmeth_head {l : List D} (h : ∀ x ∈ l, MMethod x) : headOk 5 l = true := by
 cases l with
 | nil => rfl
 | cons x l =>
  obtain ⟨_, _, _, _, _, _, _, rfl, _⟩ := h x (by simp)
  rfl
def exF : D := D.g [D.b true, D.i .i64 1, D.i .i64 0, D.s [88], D.s [120], D.b false, D.i .i64 0, D.i .i64 0, D.i .u64 0, D.s [], D.l true []]
theorem exF_m : MField exF := ⟨true, 1, 0, [88], [120], false, 0, 0, 0, [], rfl, by omega, by omega, by omega, by omega, by simp, by simp, by simp, by omega, by omega, by omega, by omega, by omega, by omega, by simp⟩
theorem r14 {zs : List Int} {s : List UInt8} {b bx bq : Bool} {l lx lq : List D} {i N m : Nat} (hi : i ≤ 5) (hl : l.length ≤ 5) (hm : ∀ y ∈ l, MMethod y) {nm ret : List UInt8} {ow ab : Bool} {al tl : List D}
  (hg : GoodR zs (tz25 s ((i + 1 : Nat) : Int) (N : Int) (vc (b && false) (l ++ [D.g [.s nm, .b ow, .s ret, .l ab al, .l true tl]])) (xc bx lx) (qc bq lq) (pk zs m))) :
  GoodR zs (tz14 s (i : Int) (N : Int) (mc nm ow ret ab al tl) (vc b l) (xc bx lx) (qc bq lq) (pk zs m)) := by
 refine hg.of_eq ?_
 have w1 : IntKind.i64.wrap ((i : Int) + 1) = ((i + 1 : Nat) : Int) := by rw [wrap_i64] <;> omega
 rw [y25_at14639, mmeth_head hm, st_ift, Bool.or_true, st_ift, st_if (by omega), w1]
theorem r175 {zs : List Int} {s : List UInt8} (hs : s.length ≤ 100) {bx bq : Bool} {lx lq : List D} (hx : lx.length ≤ 5 ∧ ∀ y ∈ lx, MField y) (hq : lq.length ≤ 5 ∧ ∀ y ∈ lq, MField y) {N : Nat} (hN : N ≤ 3) :
  ∀ (j i : Nat) (b : Bool) (l : List D) (m : Nat), i + j = N → l.length = i → (∀ y ∈ l, MMethod y) → Pk zs m → GoodR zs (tz25 s (i : Int) (N : Int) (vc b l) (xc bx lx) (qc bq lq) (pk zs m))
 | 0, i, b, l, m, e, hl, hm, hp => by
  refine ⟨_, m, rfl, ?_, hp, by rw [y25_at175, st_f (by omega)]; rfl⟩
  intro x hx'
  simp only [List.mem_cons, List.not_mem_nil, or_false] at hx'
  rcases hx' with rfl | rfl | rfl | rfl
  ·exact ⟨4, _, _, 0, 0, 0, _, _, _, _, _, _, _, _, _, _, rfl, by omega, by omega, by simp, by simp, by omega, by omega, by omega, by omega, by omega, by omega, by omega, by simp, by simp, by simp, hq.1, hq.2, by simp, by simp, by simp, by simp, by simp, fun h => by omega, fun _ => ⟨rfl, rfl, rfl⟩, fun h => by omega⟩
  ·exact ⟨6, _, _, 0, 0, 0, _, _, _, _, _, _, _, _, _, _, rfl, by omega, by omega, by simp, by simp, by omega, by omega, by omega, by omega, by omega, by omega, by omega, by simp, by simp, by simp, hx.1, hx.2, by simp, by simp, by simp, by simp, by simp, fun h => by omega, fun _ => ⟨rfl, rfl, rfl⟩, fun h => by omega⟩
  ·exact ⟨7, _, _, 0, 0, 0, _, _, _, _, _, _, _, _, _, _, rfl, by omega, by omega, by simp, by simp, by omega, by omega, by omega, by omega, by omega, by omega, by omega, by simp, by simp, by simp, by simp, by simp, by simp, by simp, by simp, by omega, hm, fun h => by omega, fun h => by omega, fun _ => ⟨rfl, rfl⟩⟩
  ·exact ⟨7, _, _, 0, 0, 0, _, _, _, _, _, _, _, _, _, _, rfl, by omega, by omega, by simp, by simp, by omega, by omega, by omega, by omega, by omega, by omega, by omega, by simp, by simp, by simp, by simp, by simp, by simp, by simp, by simp, by simp, fun y hy => by
    simp only [List.mem_singleton] at hy; subst hy
    exact ⟨_, _, _, _, _, _, _, rfl, by simp, by simp, by simp, by simp, by simp, by simp⟩, fun h => by omega, fun h => by omega, fun _ => ⟨rfl, rfl⟩⟩
 | j + 1, i, b, l, m, e, hl, hm, hp => by
  obtain ⟨ab, al, m1, a1, a2, h1, hr1⟩ := args_s hp s hs
  obtain ⟨k, m2, hk, h2, hr2⟩ := num_s h1 (m := 4) 4 rfl (by omega) (by omega)
  obtain ⟨t, m3, ht, h3, hr3⟩ := typ_0 h2 s hs
  obtain ⟨k4, m4, hk4, h4, hr4⟩ := num_s h3 (m := 2) 2 rfl (by omega) (by omega)
  have nx : ∀ (nm : List UInt8) (ow : Bool) (ret : List UInt8) (tl : List D) (m' : Nat), nm.length ≤ 3 → ret.length ≤ 442 → tl.length ≤ 1 → (∀ y ∈ tl, MField y) → Pk zs m' →
    GoodR zs (tz14 s (i : Int) (N : Int) (mc nm ow ret ab al tl) (vc b l) (xc bx lx) (qc bq lq) (pk zs m')) := fun nm ow ret tl m' q1 q2 q3 q4 hm' =>
   r14 (by omega) (by omega) hm (r175 hs hx hq hN j (i + 1) (b && false) _ m' (by omega) (by simp [hl]) (fun y hy => by
    rcases List.mem_append.1 hy with hy | hy
    ·exact hm y hy
    ·simp only [List.mem_singleton] at hy; subst hy; exact ⟨_, _, _, _, _, _, _, rfl, q1, q2, a1, q3, a2, q4⟩) hm')
  have hex : ∀ y ∈ [exF], MField y := fun y hy => by simp only [List.mem_singleton] at hy; subst hy; exact exF_m
  by_cases e0 : k = 0
  ·refine (nx ([109] ++ [UInt8.ofNat (IntKind.u8.wrap (IntKind.i64.wrap (48 + (i : Int)))).toNat]) true [118, 111, 105, 100] [] m2 (by simp) (by simp) (by simp) (by simp) h2).of_eq ?_
   rw [y25_at175, st_t (by omega), so_L (m := (pkc zs m).length) (fl' := []) hr1 rfl rfl, so_I (m := (pkc zs m1).length) (fl' := []) hr2 rfl rfl, st_eq (by omega)]
  ·by_cases e1 : k = 1
   ·refine (nx ([109] ++ [UInt8.ofNat (IntKind.u8.wrap (IntKind.i64.wrap (48 + (i : Int)))).toNat]) false [118, 111, 105, 100] [exF] m2 (by simp) (by simp) (by simp) hex h2).of_eq ?_
    rw [y25_at175, st_t (by omega), so_L (m := (pkc zs m).length) (fl' := []) hr1 rfl rfl, so_I (m := (pkc zs m1).length) (fl' := []) hr2 rfl rfl, st_ne (by omega), st_eq (by omega)]
    rfl
   ·by_cases e4 : k4 = 0
    ·refine (nx ([109] ++ [UInt8.ofNat (IntKind.u8.wrap (IntKind.i64.wrap (48 + (i : Int)))).toNat]) false t [exF] m4 (by simp) ht (by simp) hex h4).of_eq ?_
     rw [y25_at175, st_t (by omega), so_L (m := (pkc zs m).length) (fl' := []) hr1 rfl rfl, so_I (m := (pkc zs m1).length) (fl' := []) hr2 rfl rfl, st_ne (by omega), st_ne (by omega), so_S (m := (pkc zs m2).length) (fl' := []) hr3 rfl rfl, so_I (m := (pkc zs m3).length) (fl' := []) hr4 rfl rfl, st_eq (by omega)]
     rfl
    ·refine (nx ([109] ++ [UInt8.ofNat (IntKind.u8.wrap (IntKind.i64.wrap (48 + (i : Int)))).toNat]) false t [] m4 (by simp) ht (by simp) (by simp) h4).of_eq ?_
     rw [y25_at175, st_t (by omega), so_L (m := (pkc zs m).length) (fl' := []) hr1 rfl rfl, so_I (m := (pkc zs m1).length) (fl' := []) hr2 rfl rfl, st_ne (by omega), st_ne (by omega), so_S (m := (pkc zs m2).length) (fl' := []) hr3 rfl rfl, so_I (m := (pkc zs m3).length) (fl' := []) hr4 rfl rfl, st_ne (by omega)]
theorem rest_s {zs : List Int} {n : Nat} (h : Pk zs n) (s : List UInt8) (hs : s.length ≤ 100) : GoodR zs (Task.call 25 [V.p 0 0, V.d (D.s s)] [pk zs n]) := by
 obtain ⟨b1, l1, m1, p1, p2, h1, hr1⟩ := fields_s h 5 (most := 5) rfl (by omega) s hs false
 obtain ⟨b2, l2, m2, q1, q2, h2, hr2⟩ := fields_s h1 2 (most := 2) rfl (by omega) s hs false
 obtain ⟨k, m3, hk, h3, hr3⟩ := num_s h2 (m := 4) 4 rfl (by omega) (by omega)
 refine (r175 hs (bx := b2) (bq := b1) ⟨q1, q2⟩ ⟨p1, p2⟩ (N := k) (by omega) k 0 true [] m3 (by omega) rfl (by simp) h3).of_eq ?_
 rw [y25, so_L (m := 2) (fl' := []) hr1 rfl rfl, so_L (m := (pkc zs m1).length) (fl' := []) hr2 rfl rfl, so_I (m := (pkc zs m2).length) (fl' := []) hr3 rfl rfl]
 rfl
def MFile (x : D) : Prop := ∃ (il sl : List D) (b : Bool) (l : List D), x = .g [.l true il, .l true sl, .l b l] ∧ (il = [] ∧ sl = [] ∨ il = [.s [98, 97, 115, 101]] ∧ sl = [.g [.s [103, 111], .s [97, 46, 98]]]) ∧ 1 ≤ l.length ∧ l.length ≤ 9 ∧ ∀ y ∈ l, MDef y
theorem mdef_head {l : List D} (h : ∀ x ∈ l, MDef x) : headOk 12 l = true := by
 cases l with
 | nil => rfl
 | cons x l =>
  obtain ⟨_, _, _, _, _, _, _, _, _, _, _, _, _, _, _, _, rfl, _⟩ := h x (by simp)
  rfl
theorem files_s {zs : List Int} {n : Nat} (h : Pk zs n) : ∃ (x : D) (r : List D) (n' : Nat), MFile x ∧ (∀ y ∈ r, MFile y) ∧ r.length ≤ 1 ∧ Pk zs n' ∧ rk Tryz.prog polY (Task.call 11 [V.p 0 0] [pk zs n]) = some (.d (.l true (x :: r)), [pk zs n']) := by
 obtain ⟨k, m, hk, h1, hr⟩ := num_s h (m := 3) 3 rfl (by omega) (by omega)
 by_cases e0 : k = 0
 ·obtain ⟨l1, m1, p1, p2, h2, hr2⟩ := rest_s h1 [98, 97, 115, 101, 46] (by simp)
  obtain ⟨l2, m2, q1, q2, h3, hr3⟩ := base_s h2
  refine ⟨_, _, m2, ⟨_, _, true, l1, rfl, .inr ⟨rfl, rfl⟩, by omega, by omega, p2⟩, fun y hy => ?_, ?_, h3, by rw [y11, so_I (m := 2) (fl' := []) hr rfl rfl, st_eq (by omega), so_L (m := (pkc zs m).length) (fl' := []) hr2 rfl rfl, so_L (m := (pkc zs m1).length) (fl' := []) hr3 rfl rfl]; rfl⟩
  ·simp only [List.mem_singleton] at hy; subst hy
   exact ⟨_, _, true, l2, rfl, .inl ⟨rfl, rfl⟩, by omega, by omega, q2⟩
  ·simp
 ·obtain ⟨l1, m1, p1, p2, h2, hr2⟩ := base_s h1
  obtain ⟨l2, m2, q1, q2, h3, hr3⟩ := rest_s h2 [] (by simp)
  refine ⟨D.g [D.l true [], D.l true [], D.l (true && l2.isEmpty) (l1 ++ l2)], [], m2, ⟨_, _, _, l1 ++ l2, rfl, .inl ⟨rfl, rfl⟩, by simp; omega, by simp; omega, fun y hy => ?_⟩, by simp, by simp, h3, ?_⟩
  ·rcases List.mem_append.1 hy with hy | hy
   ·exact p2 y hy
   ·exact q2 y hy
  ·rw [y11, so_I (m := 2) (fl' := []) hr rfl rfl, st_ne (by omega), so_L (m := (pkc zs m).length) (fl' := []) hr2 rfl rfl, so_L (m := (pkc zs m1).length) (fl' := []) hr3 rfl rfl, st_ift, mdef_head p2, st_ift, mdef_head q2, st_ift, Bool.true_or, st_ift, st_if (by omega)]
   rfl
end Go.Dn.Dec
namespace Go.Dn.Dec
set_option exponentiation.threshold 5000000
def gr (v : Nat) : Nat := if v < 2 ^ 52 then v else (v % 2 ^ 52 + 2 ^ 52) * 2 ^ (v / 2 ^ 52 - 1)
def mid (v : Nat) : Nat := gr v + gr (v + 1)
theorem nearN_up (x y : Nat) (hy : 0 < y) : 2 * x < (2 * nearN x y + 1) * y ∨ (2 * x = (2 * nearN x y + 1) * y ∧ nearN x y % 2 = 0) := by
 have hd := Nat.div_add_mod x y
 have hr : x % y < y := Nat.mod_lt _ hy
 unfold nearN
 generalize x / y = q at *
 generalize x % y = r at *
 have e1 : (2 * (q + 1) + 1) * y = 2 * (y * q) + 3 * y := by rw [Nat.add_mul, Nat.mul_assoc, Nat.add_mul, Nat.mul_comm q y]; omega
 have e2 : (2 * q + 1) * y = 2 * (y * q) + y := by rw [Nat.add_mul, Nat.mul_assoc, Nat.mul_comm q y]; omega
 split
 ·rw [e1]; omega
 ·rw [e2]; omega
theorem nearN_low (x y : Nat) (hy : 0 < y) : 2 * nearN x y * y < 2 * x + y ∨ (2 * nearN x y * y = 2 * x + y ∧ nearN x y % 2 = 0) := by
 have hd := Nat.div_add_mod x y
 have hr : x % y < y := Nat.mod_lt _ hy
 unfold nearN
 generalize x / y = q at *
 generalize x % y = r at *
 have e1 : 2 * (q + 1) * y = 2 * (y * q) + 2 * y := by rw [Nat.mul_assoc, Nat.add_mul, Nat.mul_comm q y]; omega
 have e2 : 2 * q * y = 2 * (y * q) := by rw [Nat.mul_assoc, Nat.mul_comm q y]
 split
 ·rw [e1]; omega
 ·rw [e2]; omega
end Go.Dn.Dec
namespace Go.Dn.Dec
open Go.Proofs
theorem f46 (n : Int) : rk Tryz.prog pol (Task.call 100 [V.d (D.i .u64 n)] []) = interp (rk Tryz.prog pol) ( Tr.call (Task.at_ 100 0 [false, true, true] (sv 17 [(0, V.d (D.i .u64 n)), (3, V.d (D.s []))]) [] []) Tr.ret) :=
 rk_of (by kernel_rfl)
theorem f19 (n : Int) : rk Tryz.prog pol (Task.call 47 [V.d (D.i .i64 n)] []) = interp (rk Tryz.prog pol) ( brB (decide (n < 0)) (Tr.call (Task.call 100 [V.d (D.i .u64 (IntKind.u64.wrap (IntKind.u64.wrap (IntKind.i64.wrap (0 - IntKind.i64.wrap (n + 1))) + 1)))] []) fun o_0 => ift o_0.snd.isEmpty (asD o_0.fst fun d_1 => asS d_1 fun l_2 => ift (decide (1 + l_2.length < 4611686018427387904)) (Tr.ret (V.d (D.s ([45] ++ l_2)), [])))) (Tr.call (Task.call 100 [V.d (D.i .u64 (IntKind.u64.wrap n))] []) fun o_3 => ift o_3.snd.isEmpty (asD o_3.fst fun d_4 => asS d_4 fun l_5 => Tr.ret (V.d (D.s l_5), [])))) :=
 rk_of (by kernel_rfl)
theorem f46_at11 (n_0 : Int) (l_1 : List UInt8) : rk Tryz.prog pol (Task.at_ 100 0 [false, true, true] (sv 17 [(0, V.d (D.i .u64 n_0)), (3, V.d (D.s l_1))]) [] []) = interp (rk Tryz.prog pol) ( ift (decide (1 + l_1.length < 4611686018427387904)) (brB (IntKind.u64.wrap (n_0.tdiv 10) == 0) (Tr.ret (V.d (D.s ([UInt8.ofNat (IntKind.u8.wrap (IntKind.u64.wrap (48 + n_0.tmod 10))).toNat] ++ l_1)), [])) (Tr.call (Task.at_ 100 0 [false, true, true] (sv 17 [(0, V.d (D.i .u64 (IntKind.u64.wrap (n_0.tdiv 10)))), (3, V.d (D.s ([UInt8.ofNat (IntKind.u8.wrap (IntKind.u64.wrap (48 + n_0.tmod 10))).toNat] ++ l_1)))]) [] []) Tr.ret))) :=
 rk_of (by kernel_rfl)
end Go.Dn.Dec
namespace Go.Dn.Dec
set_option exponentiation.threshold 5000000
def NoDig (t : List UInt8) : Prop := t = [] ∨ ∃ c r, t = c :: r ∧ isDig c = false
theorem NoDig.take {t : List UInt8} (h : NoDig t) : t.takeWhile isDig = [] := by
 rcases h with rfl | ⟨c, r, rfl, h⟩
 ·rfl
 ·rw [List.takeWhile_cons, h]; simp
theorem NoDig.drop {t : List UInt8} (h : NoDig t) : t.dropWhile isDig = t := by
 rcases h with rfl | ⟨c, r, rfl, h⟩
 ·rfl
 ·rw [List.dropWhile_cons, h]; simp
end Go.Dn.Dec
namespace Go.Dn.Dec
open Go.Proofs
set_option exponentiation.threshold 5000000
theorem tent_loop : ∀ (k n : Nat) (l : List UInt8), n < 10 ^ (k + 1) → n < 18446744073709551616 → l.length + k ≤ 1000 →
  rk Tryz.prog pol (Task.at_ 100 0 [false, true, true] (sv 17 [(0, V.d (D.i IntKind.u64 (n : Int))), (3, V.d (D.s l))]) [] []) = some (.d (.s (decN n ++ l)), [])
 | k, n, l, h, h64, hl => by
  rw [f46_at11]
  have e1 : (n : Int).tdiv 10 = ((n / 10 : Nat) : Int) := tdiv_nat n 10
  have e2 : (n : Int).tmod 10 = ((n % 10 : Nat) : Int) := tmod_nat n 10
  have w1 : IntKind.u64.wrap ((n / 10 : Nat) : Int) = ((n / 10 : Nat) : Int) := by rw [u64_wrap]; omega
  have w2 : IntKind.u64.wrap (48 + ((n % 10 : Nat) : Int)) = ((48 + n % 10 : Nat) : Int) := by rw [u64_wrap]; omega
  have w3 : IntKind.u8.wrap ((48 + n % 10 : Nat) : Int) = ((48 + n % 10 : Nat) : Int) := by rw [wrap_u8] <;> omega
  have hl1 : 1 + l.length < 4611686018427387904 := by omega
  simp only [e1, e2, w1, w2, w3, Int.toNat_natCast, interp_ift', decide_eq_true hl1, if_true, interp_brB, interp_ret, interp_call_ret]
  by_cases h9 : n < 10
  ·have : ((n / 10 : Nat) : Int) == 0 := by rw [beq_iff_eq]; omega
   rw [if_pos this, decN_eq n, if_pos h9, Nat.mod_eq_of_lt h9]
  ·have : ¬ (((n / 10 : Nat) : Int) == 0) = true := by rw [beq_iff_eq]; omega
   rw [if_neg this]
   cases k with
   | zero => simp at h; omega
   | succ k =>
    rw [tent_loop k (n / 10) _ (by rw [Nat.pow_succ] at h; omega) (by omega) (by simp; omega)]
    rw [decN_eq n, if_neg h9, List.append_assoc]
theorem tent_s (n : Nat) (h : n < 18446744073709551616) : rk Tryz.prog pol (Task.call 100 [V.d (D.i IntKind.u64 (n : Int))] []) = some (.d (.s (decN n)), []) := by
 rw [f46]
 have := tent_loop 20 n [] (Nat.lt_trans h (by decide)) h (by decide)
 rw [List.append_nil] at this
 simp only [interp_call_ret, this]
theorem ten_s (n : Int) (h1 : -9223372036854775808 ≤ n) (h2 : n ≤ 9223372036854775807) : rk Tryz.prog pol (Task.call 47 [V.d (D.i IntKind.i64 n)] []) = some (.d (.s (decI n)), []) := by
 rw [f19]
 by_cases h : n < 0
 ·have w1 : IntKind.i64.wrap (n + 1) = n + 1 := by rw [wrap_i64] <;> omega
  have w2 : IntKind.i64.wrap (0 - (n + 1)) = 0 - (n + 1) := by rw [wrap_i64] <;> omega
  have w : IntKind.u64.wrap (IntKind.u64.wrap (IntKind.i64.wrap (0 - IntKind.i64.wrap (n + 1))) + 1) = (n.natAbs : Int) := by
   rw [w1, w2, u64_wrap, u64_wrap]; omega
  have ht := tent_s n.natAbs (by omega)
  have hl := decN_len 20 n.natAbs (by decide) (by simp; omega)
  have hl1 : 1 + (decN n.natAbs).length < 4611686018427387904 := by omega
  simp only [interp_brB, decide_eq_true h, if_true, w, interp_call', ht, Option.bind_some, List.isEmpty_nil, interp_ift', asD_d, asS_s, decide_eq_true hl1, interp_ret]
  unfold decI
  rw [if_pos h]; rfl
 ·have w : IntKind.u64.wrap n = (n.toNat : Int) := by rw [u64_wrap]; omega
  have ht := tent_s n.toNat (by omega)
  simp only [interp_brB, decide_eq_false h, Bool.false_eq_true, if_false, w, interp_call', ht, Option.bind_some, List.isEmpty_nil, interp_ift', if_true, asD_d, asS_s, interp_ret]
  unfold decI
  rw [if_neg h]
end Go.Dn.Dec
namespace Go.Dn.Dec
open Go.Proofs
set_option exponentiation.threshold 5000000
end Go.Dn.Dec
namespace Go.Dn.Dec
open Go.Proofs
set_option exponentiation.threshold 5000000
end Go.Dn.Dec
namespace Go.Dn.Dec
open Go.Proofs
set_option exponentiation.threshold 5000000
theorem downN_spec (x y : Nat) (h0 : belowN x y (-400) = false) : ∀ k : Nat, belowN x y (downN x y k) = false ∧ -400 ≤ downN x y k ∧ downN x y k ≤ (k : Int) - 400 ∧ (downN x y k = (k : Int) - 400 ∨ belowN x y (downN x y k + 1) = true)
 | 0 => ⟨h0, by simp [downN], by simp [downN], Or.inl (by simp [downN])⟩
 | k + 1 => by
  rw [downN]
  split
  ·rename_i h
   obtain ⟨h1, h2, h3, h4⟩ := downN_spec x y h0 k
   refine ⟨h1, h2, by omega, Or.inr ?_⟩
   rcases h4 with h4 | h4
   ·rw [h4, show (k : Int) - 400 + 1 = ((k + 1 : Nat) : Int) - 400 by omega]; exact h
   ·exact h4
  ·rename_i h
   exact ⟨by simpa using h, by omega, by omega, Or.inl rfl⟩
theorem chk_up : ((List.range 1101).all fun d => decide (2 ^ (d + 1) ≤ 10 ^ (d * 30103 / 100000 + 2))) = true := by decide +kernel
theorem chk_dn : ((List.range 1101).all fun d => decide (10 ^ (d * 30103 / 100000) * 2 ≤ 2 ^ d * 100)) = true := by decide +kernel
theorem start_high (x y : Nat) (hy0 : 0 < y) (hx : Sml x) (hy : Sml y) : belowN x y ((((blen x : Int) - blen y) * 30103).tdiv 100000 + 2) = true := by
 have lx := hx.blen
 have ly := hy.blen
 have bx := lt_blen x
 have by_ := blen_le y (by omega)
 have py := blen_pos (n := y) (by omega)
 rcases Int.le_total 0 ((blen x : Int) - blen y) with h | h
 ·obtain ⟨d, hd⟩ : ∃ d : Nat, (blen x : Int) - blen y = d := ⟨((blen x : Int) - blen y).toNat, by omega⟩
  rw [hd]
  have e : ((d : Int) * 30103).tdiv 100000 + 2 = ((d * 30103 / 100000 + 2 : Nat) : Int) := by
   have : ((d : Int) * 30103).tdiv 100000 = ((d * 30103 / 100000 : Nat) : Int) := tdiv_nat (d * 30103) 100000
   rw [this]; omega
  have hc := List.all_eq_true.1 chk_up d (List.mem_range.2 (by omega))
  rw [decide_eq_true_eq] at hc
  rw [e]
  unfold belowN
  rw [if_neg (by omega), Int.toNat_natCast]
  generalize d * 30103 / 100000 + 2 = t at hc
  have e2 : 2 ^ blen x = 2 ^ (blen y - 1) * 2 ^ (d + 1) := by rw [← Nat.pow_add]; congr 1; omega
  have h3 := Nat.mul_le_mul by_ hc
  exact decide_eq_true (by omega)
 ·obtain ⟨d, hd⟩ : ∃ d : Nat, (blen x : Int) - blen y = -(d : Int) := ⟨((blen y : Int) - blen x).toNat, by omega⟩
  rw [hd]
  have e : (-(d : Int) * 30103).tdiv 100000 + 2 = 2 - ((d * 30103 / 100000 : Nat) : Int) := by
   have : ((d : Int) * 30103).tdiv 100000 = ((d * 30103 / 100000 : Nat) : Int) := tdiv_nat (d * 30103) 100000
   rw [Int.neg_mul, Int.neg_tdiv, this]; omega
  rw [e]
  have hc := List.all_eq_true.1 chk_dn d (List.mem_range.2 (by omega))
  rw [decide_eq_true_eq] at hc
  generalize d * 30103 / 100000 = t at hc
  -- x * 2^d < 2 * y
  have e2 : 2 ^ blen x * 2 ^ d = 2 * 2 ^ (blen y - 1) := by rw [← Nat.pow_add, Nat.mul_comm 2, ← Nat.pow_succ]; congr 1; omega
  have h3 : x * 2 ^ d < 2 * y := by
   have := Nat.mul_lt_mul_of_pos_right bx (show 0 < 2 ^ d from Nat.pow_pos (by decide))
   omega
  have h4 : x * (10 ^ t * 2) ≤ x * (2 ^ d * 100) := Nat.mul_le_mul_left _ hc
  have h5 : x * (2 ^ d * 100) = x * 2 ^ d * 100 := by rw [Nat.mul_assoc]
  have h6 : x * (10 ^ t * 2) = x * 10 ^ t * 2 := by rw [Nat.mul_assoc]
  unfold belowN
  by_cases ht : 2 - (t : Int) < 0
  ·rw [if_pos ht, show (-(2 - (t : Int))).toNat = t - 2 by omega]
   have e3 : 10 ^ t = 10 ^ (t - 2) * 100 := by rw [show (100 : Nat) = 10 ^ 2 from rfl, ← Nat.pow_add]; congr 1; omega
   have e4 : x * 10 ^ t = x * 10 ^ (t - 2) * 100 := by rw [e3, Nat.mul_assoc]
   exact decide_eq_true (by omega)
  ·rw [if_neg ht]
   have ht2 : t ≤ 2 := by omega
   have e3 : 100 = 10 ^ (2 - (t : Int)).toNat * 10 ^ t := by rw [← Nat.pow_add, show (2 - (t : Int)).toNat + t = 2 by omega]
   have e4 : y * 10 ^ (2 - (t : Int)).toNat * 10 ^ t = y * 100 := by rw [Nat.mul_assoc, ← e3]
   have hp : 0 < 10 ^ t := Nat.pow_pos (by decide)
   refine decide_eq_true (Nat.lt_of_mul_lt_mul_right (a := 10 ^ t) ?_)
   omega
theorem down_found (x y : Nat) (hx0 : 0 < x) (hy0 : 0 < y) (hx : Sml x) (hy : Sml y) : ∃ n : Int, downN x y ((((blen x : Int) - blen y) * 30103).tdiv 100000 + 401).toNat = n ∧ belowN x y n = false ∧ belowN x y (n + 1) = true ∧ -400 ≤ n ∧ n ≤ 350 := by
 have lx := hx.blen
 have ly := hy.blen
 have hb := tdiv_bounds ((blen x : Int) - blen y) (by omega) (by omega)
 have hs := start_high x y hy0 hx hy
 obtain ⟨h1, h2, h3, h4⟩ := downN_spec x y (low400 hx0 hy) ((((blen x : Int) - blen y) * 30103).tdiv 100000 + 401).toNat
 generalize (((blen x : Int) - blen y) * 30103).tdiv 100000 = z at *
 refine ⟨_, rfl, h1, ?_, h2, by omega⟩
 rcases h4 with h4 | h4
 ·rw [h4, show (((z + 401).toNat : Nat) : Int) - 400 + 1 = z + 2 by omega]; exact hs
 ·exact h4
def upP (n : Int) : Nat := 10 ^ n.toNat
def upQ (n : Int) : Nat := 10 ^ (-n).toNat
theorem upP_pos (n : Int) : 0 < upP n := Nat.pow_pos (by decide)
theorem upQ_pos (n : Int) : 0 < upQ n := Nat.pow_pos (by decide)
theorem scaledN_eq (x y : Nat) (n : Int) : scaledN x y n = nearN (x * upQ n) (y * upP n) := by
 unfold scaledN upP upQ
 split
 ·rename_i h; rw [show n.toNat = 0 by omega, Nat.pow_zero, Nat.mul_one]
 ·rename_i h; rw [show (-n).toNat = 0 by omega, Nat.pow_zero, Nat.mul_one]
theorem belowN_eq (x y : Nat) (n : Int) : belowN x y n = decide (x * upQ n < y * upP n) := by
 unfold belowN upP upQ
 split
 ·rename_i h; rw [show n.toNat = 0 by omega, Nat.pow_zero, Nat.mul_one]
 ·rename_i h; rw [show (-n).toNat = 0 by omega, Nat.pow_zero, Nat.mul_one]
theorem up_shift (n m : Int) (k : Nat) (h : n = m + k) : upP n * upQ m = 10 ^ k * (upP m * upQ n) := by
 unfold upP upQ
 rw [← Nat.pow_add, ← Nat.pow_add, ← Nat.pow_add]; congr 1; omega
theorem below_shift (x y : Nat) (n m : Int) (k : Nat) (h : n = m + k) : belowN x y n = decide (x * upQ m < y * upP m * 10 ^ k) := by
 rw [belowN_eq]
 have e := up_shift n m k h
 congr 1
 apply propext
 have a1 : x * upQ n * (upP m * upQ m) = x * upQ m * (upP m * upQ n) := by ac_rfl
 have a2 : y * upP n * (upP m * upQ m) = y * upP m * 10 ^ k * (upP m * upQ n) := by
  have : y * upP n * (upP m * upQ m) = y * upP m * (upP n * upQ m) := by ac_rfl
  rw [this, e, Nat.mul_assoc (y * upP m)]
 have p1 : 0 < upP m * upQ m := Nat.mul_pos (upP_pos _) (upQ_pos _)
 have p2 : 0 < upP m * upQ n := Nat.mul_pos (upP_pos _) (upQ_pos _)
 constructor
 ·intro h
  have := Nat.mul_lt_mul_of_pos_right h p1
  rw [a1, a2] at this
  exact Nat.lt_of_mul_lt_mul_right this
 ·intro h
  have := Nat.mul_lt_mul_of_pos_right h p2
  rw [← a1, ← a2] at this
  exact Nat.lt_of_mul_lt_mul_right this
end Go.Dn.Dec
namespace Go.Dn.Dec
open Go.Proofs
set_option exponentiation.threshold 5000000
theorem decN_len_eq : ∀ (k n : Nat), 10 ^ k ≤ n → n < 10 ^ (k + 1) → (decN n).length = k + 1
 | 0, n, _, h => by rw [decN_eq, if_pos (by simpa using h)]; rfl
 | k + 1, n, h1, h2 => by
  have h9 : ¬ n < 10 := by
   have : 10 ^ 1 ≤ 10 ^ (k + 1) := Nat.pow_le_pow_right (by decide) (by omega)
   omega
  rw [decN_eq, if_neg h9, List.length_append, decN_len_eq k (n / 10) (by rw [Nat.pow_succ] at h1; omega) (by rw [Nat.pow_succ] at h2; omega)]
  rfl
theorem shown_bounds {A B q : Nat} (hB : 0 < B) (hq : nearN A B = q) (h1 : 10 ^ 16 * B ≤ A) (h2 : A < 10 ^ 17 * B) : 10 ^ 16 ≤ q ∧ q ≤ 10 ^ 17 ∧ 2 * q * B ≤ 2 * A + B ∧ 2 * A ≤ 2 * q * B + B := by
 have hu := nearN_up A B hB
 have hl := nearN_low A B hB
 rw [hq] at hu hl
 have e1 : (2 * q + 1) * B = 2 * q * B + B := by rw [Nat.add_mul, Nat.one_mul]
 rw [e1] at hu
 refine ⟨?_, ?_, by omega, by omega⟩
 ·rcases Nat.lt_or_ge q (10 ^ 16) with h | h
  ·exfalso
   have : (2 * q + 1) * B ≤ (2 * 10 ^ 16 - 1) * B := Nat.mul_le_mul_right _ (by omega)
   have e2 : (2 * 10 ^ 16 - 1) * B + B = 2 * (10 ^ 16 * B) := by rw [← Nat.succ_mul, ← Nat.mul_assoc]
   omega
  ·exact h
 ·rcases Nat.lt_or_ge (10 ^ 17) q with h | h
  ·exfalso
   have : 2 * (10 ^ 17 + 1) * B ≤ 2 * q * B := Nat.mul_le_mul_right _ (by omega)
   have e2 : 2 * (10 ^ 17 + 1) * B = 2 * (10 ^ 17 * B) + 2 * B := by rw [Nat.mul_assoc, Nat.add_mul, Nat.one_mul, Nat.mul_add]
   omega
  ·exact h
theorem lit2 (a b x s : Nat) : a * (b * x) * s = a * (b * (x * s)) := by rw [Nat.mul_assoc, Nat.mul_assoc]
theorem lit1 (a x s : Nat) : a * x * s = a * (x * s) := Nat.mul_assoc _ _ _
theorem lit3 (a x b s : Nat) : a * x * (b * s) = a * (x * b * s) := by rw [Nat.mul_assoc, Nat.mul_assoc]
theorem shown_next {A B A' B' s s' : Nat} (hB : 0 < B') (hs : 0 < s) (hs' : 0 < s') (ha : A * s' = A' * s) (hb : B' * s = B * 10 * s') (h1 : 2 * 10 ^ 17 * B ≤ 2 * A + B) (h2 : A < 10 ^ 17 * B) : nearN A' B' = 10 ^ 16 := by
 have hu := nearN_up A' B' hB
 have hl := nearN_low A' B' hB
 have e1 : (2 * nearN A' B' + 1) * B' = 2 * nearN A' B' * B' + B' := by rw [Nat.add_mul, Nat.one_mul]
 rw [e1] at hu
 generalize nearN A' B' = q at *
 have k1 : 10 * (2 * 10 ^ 16 * B') ≤ 10 * (2 * A') + B' := by
  have := Nat.mul_le_mul_right (10 * s') h1
  have a1 : 2 * 10 ^ 17 * B * (10 * s') = 10 * (2 * 10 ^ 16 * B') * s := by
   rw [lit2, hb, lit3]
   generalize B * 10 * s' = z
   omega
  have a2 : (2 * A + B) * (10 * s') = (10 * (2 * A') + B') * s := by
   rw [Nat.add_mul, Nat.add_mul, lit2, hb, lit3, ← Nat.mul_assoc B, ← ha, Nat.mul_right_comm A 10 s']
   generalize B * 10 * s' = z
   generalize A * s' = w
   omega
  rw [a1, a2] at this
  exact Nat.le_of_mul_le_mul_right this hs
 have k2 : A' < 10 ^ 16 * B' := by
  have := Nat.mul_lt_mul_of_pos_right h2 hs'
  have a1 : 10 ^ 17 * B * s' = 10 ^ 16 * B' * s := by
   rw [lit1, lit1, hb, Nat.mul_right_comm B 10 s']
   generalize B * s' = z
   omega
  rw [a1, ha] at this
  exact Nat.lt_of_mul_lt_mul_right this
 refine Nat.le_antisymm ?_ ?_
 ·rcases Nat.lt_or_ge (10 ^ 16) q with h | h
  ·exfalso
   have : 2 * (10 ^ 16 + 1) * B' ≤ 2 * q * B' := Nat.mul_le_mul_right _ (by omega)
   have e2 : 2 * (10 ^ 16 + 1) * B' = 2 * (10 ^ 16 * B') + 2 * B' := by rw [Nat.mul_assoc, Nat.add_mul, Nat.one_mul, Nat.mul_add]
   omega
  ·exact h
 ·rcases Nat.lt_or_ge q (10 ^ 16) with h | h
  ·exfalso
   have : 2 * q * B' ≤ 2 * (10 ^ 16 - 1) * B' := Nat.mul_le_mul_right _ (by omega)
   have e2 : 2 * (10 ^ 16 - 1) * B' + 2 * B' = 2 * 10 ^ 16 * B' := by rw [← Nat.add_mul]
   omega
  ·exact h
theorem showB_len (b : Nat) (hb : b < 2 ^ 64) : (showB b).length ≤ 1000 := by
 have put : ∀ (out : List UInt8) (q : Nat) (n : Int), out.length ≤ 1 → -1000000 < n → n < 1000000 → (putN out (tensN q) n).length ≤ 1000 := by
  intro out q n ho h1 h2
  have ht := tens_len q
  have hd := decI_len h1 h2
  have hr : (restN (tensN q)).length ≤ 20 := by
   unfold restN
   split
   ·decide
   ·have := trimR_len 48 ((tensN q).drop 1)
    rw [List.length_drop] at this
    omega
  unfold putN
  simp only [List.length_append, List.length_take, List.length_singleton]
  omega
 unfold showB
 split
 ·decide
 ·rename_i hk
  have ho : (if 2 ^ 63 ≤ b then [45] else ([] : List UInt8)).length ≤ 1 := by split <;> decide
  simp only
  split
  ·rw [List.length_append]
   have h5 : ([48, 46, 48, 101, 48] : List UInt8).length = 5 := rfl
   omega
  ·rename_i h0
   obtain ⟨s1, s2, s3⟩ := ratN_sml (b % 2 ^ 63) (by omega) (by omega)
   obtain ⟨n, hn, -, -, n1, n2⟩ := down_found (ratN (b % 2 ^ 63)).1 (ratN (b % 2 ^ 63)).2 (ratN_pos _ h0) s3 s1 s2
   unfold showN
   simp only [hn]
   split
   ·exact put _ _ _ ho (by omega) (by omega)
   ·exact put _ _ _ ho (by omega) (by omega)
end Go.Dn.Dec
namespace Go.Dn.Dec
set_option linter.unusedVariables false
set_option linter.unusedSimpArgs false
theorem flat_len {α : Type} {l : List α} {f : α → List UInt8} {B : Nat} (h : ∀ x ∈ l, (f x).length ≤ B) : (l.map f).flatten.length ≤ l.length * B := by
 induction l with
 | nil => simp
 | cons x l ih =>
  have h1 := h x (by simp)
  have h2 := ih fun y hy => h y (by simp [hy])
  simp only [List.map_cons, List.flatten_cons, List.length_append, List.length_cons, Nat.add_mul, Nat.one_mul]
  omega
theorem join_len {l : List (List UInt8)} {B : Nat} (h : ∀ x ∈ l, x.length ≤ B) : (Lib.join l [44, 32]).length ≤ l.length * (B + 2) := by
 cases l with
 | nil => simp [Lib.join_nil]
 | cons x r =>
  rw [Lib.join_cons]
  have h1 := h x (by simp)
  have h2 : (Lib.joinTail [44, 32] r).length ≤ r.length * (B + 2) := by
   unfold Lib.joinTail
   refine flat_len fun y hy => ?_
   have := h y (by simp [hy])
   simp only [List.length_append, List.length_cons, List.length_nil]; omega
  rw [List.length_append, List.length_cons, Nat.add_mul, Nat.one_mul]
  omega
theorem quote_len (s : List UInt8) : (quoteB s).length = s.length + 2 := by
 unfold quoteB
 split <;> simp
theorem cst_wc {k n u : Int} {s : List UInt8} {d : Nat} (hn : -1000 ≤ n ∧ n ≤ 1000) (hu : 0 ≤ u ∧ u < 18446744073709551616) (hs : s.length ≤ 103) : WC (d + 1) (cD k n u s true []) :=
 ⟨k, n, u, s, true, [], rfl, ⟨by omega, by omega⟩, hu, by omega, by simp, .inr (.inr rfl), by simp⟩
theorem cst_len {k n u : Int} {s : List UInt8} (hn : -1000 ≤ n ∧ n ≤ 1000) (hu : 0 ≤ u ∧ u < 18446744073709551616) (hs : s.length ≤ 103) : (prC (D.g [D.i .i64 k, D.i .i64 n, D.i .u64 u, D.s s, D.l true []])).length ≤ 1010 := by
 simp only [prC]
 split
 ·have := decI_len (n := n) (by omega) (by omega); omega
 ·split
  ·have := showB_len u.toNat (by omega); omega
  ·split
   ·rw [quote_len]; omega
   ·split
    ·omega
    ·split <;> simp [prCs, pairsB, Lib.join_nil]
theorem leaf_wc {x : D} {d : Nat} (h : Leaf x) : WC (d + 1) x := by
 obtain ⟨k, n, u, s, rfl, _, _, h1, h2, h3, h4, h5⟩ := h
 exact cst_wc ⟨h1, h2⟩ ⟨h3, h4⟩ h5
theorem leaf_kn {x : D} (h : Leaf x) : Kn x := by
 obtain ⟨k, n, u, s, rfl, h0, _⟩ := h
 show k ≠ 0
 omega
theorem leaf_len {x : D} (h : Leaf x) : (prC x).length ≤ 1010 := by
 obtain ⟨k, n, u, s, rfl, _, _, h1, h2, h3, h4, h5⟩ := h
 exact cst_len ⟨h1, h2⟩ ⟨h3, h4⟩ h5
theorem mfield_w {x : D} (h : MField x) : WF x := by
 obtain ⟨h, id, r, t, nm, hi, k, n, u, s, rfl, a1, a2, a3, a4, a5, a6, a7, a8, a9, b1, b2, b3, b4, b5⟩ := h
 exact ⟨h, id, r, t, nm, hi, k, n, u, s, true, [], rfl, ⟨by omega, by omega⟩, by omega, by omega, fun h => by have := a7 h; omega, cst_wc ⟨b1, b2⟩ ⟨b3, b4⟩ b5⟩
theorem mfield_len {x : D} (h : MField x) : (prF x).length ≤ 1600 := by
 obtain ⟨h, id, r, t, nm, hi, k, n, u, s, rfl, a1, a2, a3, a4, a5, a6, a7, a8, a9, b1, b2, b3, b4, b5⟩ := h
 have h1 := decI_len (n := id) (by omega) (by omega)
 have h2 := cst_len (k := k) ⟨b1, b2⟩ ⟨b3, b4⟩ b5
 simp only [prF, List.length_append]
 have e1 : (if h = true then decI id ++ [58, 32] else []).length ≤ 10 := by split <;> simp; omega
 have e2 : (if r = 1 then [114, 101, 113, 117, 105, 114, 101, 100, 32] else if r = 2 then [111, 112, 116, 105, 111, 110, 97, 108, 32] else [] : List UInt8).length ≤ 9 := by
  split
  ·simp
  ·split <;> simp
 have e3 : (if hi = true then [32, 61, 32] ++ prC (.g [.i .i64 k, .i .i64 n, .i .u64 u, .s s, .l true []]) else [] : List UInt8).length ≤ 1013 := by
  split
  ·simp only [List.length_append, List.length_cons, List.length_nil]; omega
  ·simp
 simp only [List.length_append, List.length_cons, List.length_nil] at *
 omega
theorem mmember_w {x : D} (h : MMember x) : WM x := by
 obtain ⟨nm, h, n, rfl, a1, a2, a3⟩ := h
 exact ⟨nm, h, n, rfl, by omega, by omega, by omega⟩
theorem mmember_len {x : D} (h : MMember x) : (prM x).length ≤ 20 := by
 obtain ⟨nm, h, n, rfl, a1, a2, a3⟩ := h
 have h1 := decI_len (n := n) (by omega) (by omega)
 have e1 : (if h = true then [32, 61, 32] ++ decI n else [] : List UInt8).length ≤ 11 := by split <;> simp; omega
 simp only [prM, List.length_append, List.length_cons, List.length_nil] at *
 omega
theorem prFs_len {l : List D} {B : Nat} (h : ∀ x ∈ l, MField x) (hl : l.length ≤ B) : (prFs l).length ≤ B * 1602 := by
 have := join_len (l := l.map prF) (B := 1600) fun y hy => by
  obtain ⟨x, hx, rfl⟩ := List.mem_map.1 hy
  exact mfield_len (h x hx)
 rw [List.length_map] at this
 exact Nat.le_trans this (Nat.mul_le_mul_right _ hl)
theorem mmethod_w {x : D} (h : MMethod x) : WMe x := by
 obtain ⟨nm, ow, ret, ab, al, tb, tl, rfl, a1, a2, a3, a4, a5, a6⟩ := h
 exact ⟨nm, ow, ret, ab, al, tb, tl, rfl, by omega, by omega, by omega, by omega, fun y hy => mfield_w (a5 y hy), fun y hy => mfield_w (a6 y hy)⟩
theorem mmethod_len {x : D} (h : MMethod x) : (prMe x).length ≤ 6000 := by
 obtain ⟨nm, ow, ret, ab, al, tb, tl, rfl, a1, a2, a3, a4, a5, a6⟩ := h
 have h1 := prFs_len a5 a3
 have h2 := prFs_len a6 a4
 have e1 : (if ow = true then [111, 110, 101, 119, 97, 121, 32] else [] : List UInt8).length ≤ 7 := by split <;> simp
 have e2 : (if tl = [] then [] else [32, 116, 104, 114, 111, 119, 115, 32, 40] ++ prFs tl ++ [41] : List UInt8).length ≤ 1700 := by
  split
  ·simp
  ·simp only [List.length_append, List.length_cons, List.length_nil]; omega
 simp only [prMe, List.length_append, List.length_cons, List.length_nil] at *
 omega
theorem mdef_w {x : D} (h : MDef x) : WD x := by
 obtain ⟨kd, nm, ty, ck, cn, cu, cs, cb, cl, fb, fl, mb, ml, ex, tb, tl, rfl, a1, a2, a3, a4, a5, a6, a7, a8, a9, b1, b2, b3, b4, b5, b6, b7, b8, b9, c1, c2, c3, c4, c5, c6⟩ := h
 exact ⟨kd, nm, ty, ck, cn, cu, cs, cb, cl, fb, fl, mb, ml, ex, tb, tl, rfl, a1, a2, by omega, by omega, fun h => by have := a7 h; omega, ⟨ck, cn, cu, cs, cb, cl, rfl, ⟨by omega, by omega⟩, ⟨b1, b2⟩, by omega, by omega, by omega, fun y hy => ⟨leaf_wc (b5 y hy), leaf_kn (b5 y hy)⟩⟩,
  by omega, fun y hy => mfield_w (b7 y hy), by omega, fun y hy => mmember_w (b9 y hy), by omega, by omega, fun y hy => mmethod_w (c3 y hy), c4, c5, c6⟩
theorem mdef_len {x : D} (h : MDef x) : (prD x).length ≤ 20000 := by
 obtain ⟨kd, nm, ty, ck, cn, cu, cs, cb, cl, fb, fl, mb, ml, ex, tb, tl, rfl, a1, a2, a3, a4, a5, a6, a7, a8, a9, b1, b2, b3, b4, b5, b6, b7, b8, b9, c1, c2, c3, c4, c5, c6⟩ := h
 have hf : (fl.map prL).flatten.length ≤ 5 * 1604 := Nat.le_trans (flat_len (B := 1604) fun y hy => by
  have := mfield_len (b7 y hy)
  simp only [prL, List.length_append, List.length_cons, List.length_nil]; omega) (Nat.mul_le_mul_right _ b6)
 have hm : (ml.map prM).flatten.length ≤ 3 * 20 := Nat.le_trans (flat_len (B := 20) fun y hy => mmember_len (b9 y hy)) (Nat.mul_le_mul_right _ b8)
 have ht : (tl.map prMe).flatten.length ≤ 3 * 6000 := Nat.le_trans (flat_len (B := 6000) fun y hy => mmethod_len (c3 y hy)) (Nat.mul_le_mul_right _ c2)
 have hcs : ∀ y ∈ prCs cl, y.length ≤ 1010 := by
  intro y hy
  have e : ∀ l : List D, prCs l = l.map prC := by
   intro l
   induction l with
   | nil => simp only [prCs, List.map_nil]
   | cons a l ih => simp only [prCs, List.map_cons, ih]
  rw [e] at hy
  obtain ⟨z, hz, rfl⟩ := List.mem_map.1 hy
  exact leaf_len (b5 z hz)
 have hc : (prC (D.g [D.i .i64 ck, D.i .i64 cn, D.i .u64 cu, D.s cs, D.l cb cl])).length ≤ 5000 := by
  have e : ∀ l : List D, prCs l = l.map prC := by
   intro l
   induction l with
   | nil => simp only [prCs, List.map_nil]
   | cons a l ih => simp only [prCs, List.map_cons, ih]
  have hl : (prCs cl).length ≤ 2 := by rw [e, List.length_map]; exact b4
  simp only [prC]
  split
  ·have := decI_len (n := cn) (by omega) (by omega); omega
  ·split
   ·have := showB_len cu.toNat (by omega); omega
   ·split
    ·rw [quote_len]; omega
    ·split
     ·omega
     ·split
      ·have := join_len hcs
       have h2 := Nat.mul_le_mul_right (1010 + 2) hl
       simp only [List.length_append, List.length_cons, List.length_nil]; omega
      ·have hp : ∀ y ∈ pairsB (prCs cl), y.length ≤ 2022 := by
        intro y hy
        have : ∀ (l : List (List UInt8)), (∀ y ∈ l, y.length ≤ 1010) → ∀ y ∈ pairsB l, y.length ≤ 2022 := by
         intro l
         induction l using pairsB.induct with
         | case1 a b r ih =>
          intro h y hy
          simp only [pairsB, List.mem_cons] at hy
          rcases hy with rfl | hy
          ·have h1 := h a (by simp)
           have h2 := h b (by simp)
           simp only [List.length_append, List.length_cons, List.length_nil]; omega
          ·exact ih (fun z hz => h z (by simp [hz])) y hy
         | case2 l hne =>
          intro h y hy
          unfold pairsB at hy
          split at hy
          ·exact (hne _ _ _ rfl).elim
          ·simp at hy
        exact this _ hcs y hy
       have hpl : (pairsB (prCs cl)).length ≤ 1 := by
        rcases e2 : prCs cl with _ | ⟨a, _ | ⟨b, _ | ⟨c, r⟩⟩⟩
        ·simp [pairsB]
        ·simp [pairsB]
        ·simp [pairsB]
        ·rw [e2] at hl; simp at hl
       have := join_len hp
       have h2 := Nat.mul_le_mul_right (2022 + 2) hpl
       simp only [List.length_append, List.length_cons, List.length_nil]; omega
 have e1 : (if ex = [] then [] else [32, 101, 120, 116, 101, 110, 100, 115, 32] ++ ex : List UInt8).length ≤ 10 := by
  split
  ·simp
  ·simp only [List.length_append, List.length_cons, List.length_nil]; omega
 have e2 : (kwB kd).length ≤ 10 := by
  unfold kwB
  split
  ·simp
  ·split <;> simp
 simp only [prD]
 split
 ·simp only [List.length_append, List.length_cons, List.length_nil] at *; omega
 ·split
  ·simp only [List.length_append, List.length_cons, List.length_nil] at *; omega
  ·split
   ·simp only [List.length_append, List.length_cons, List.length_nil] at *; omega
   ·split
    ·simp only [List.length_append, List.length_cons, List.length_nil] at *; omega
    ·simp only [List.length_append, List.length_cons, List.length_nil] at *; omega
theorem mfile_w {x : D} (h : MFile x) : WFi x := by
 obtain ⟨il, sl, b, l, rfl, h1, h2, h3, h4⟩ := h
 refine ⟨true, il, true, sl, b, l, rfl, ?_, ?_, by omega, ?_, ?_, fun y hy => mdef_w (h4 y hy)⟩
 ·rcases h1 with ⟨rfl, rfl⟩ | ⟨rfl, rfl⟩ <;> simp
 ·rcases h1 with ⟨rfl, rfl⟩ | ⟨rfl, rfl⟩ <;> simp
 ·rcases h1 with ⟨rfl, rfl⟩ | ⟨rfl, rfl⟩
  ·simp
  ·intro y hy
   simp only [List.mem_singleton] at hy; subst hy
   exact ⟨_, rfl, by simp, by decide⟩
 ·rcases h1 with ⟨rfl, rfl⟩ | ⟨rfl, rfl⟩
  ·simp
  ·intro y hy
   simp only [List.mem_singleton] at hy; subst hy
   exact ⟨_, _, rfl, by simp, by simp⟩
theorem mfile_len {x : D} (h : MFile x) : (prFi x).length ≤ 200000 := by
 obtain ⟨il, sl, b, l, rfl, h1, h2, h3, h4⟩ := h
 have hd : (l.map prD).flatten.length ≤ 9 * 20000 := Nat.le_trans (flat_len (B := 20000) fun y hy => mdef_len (h4 y hy)) (Nat.mul_le_mul_right _ h3)
 simp only [prFi, List.length_append]
 rcases h1 with ⟨rfl, rfl⟩ | ⟨rfl, rfl⟩
 ·simp only [List.map_nil, List.flatten_nil, List.length_nil]; omega
 ·simp only [List.map_cons, List.map_nil, List.flatten_cons, List.flatten_nil, prI, prS, List.length_append, List.length_cons, List.length_nil]; omega
end Go.Dn.Dec
