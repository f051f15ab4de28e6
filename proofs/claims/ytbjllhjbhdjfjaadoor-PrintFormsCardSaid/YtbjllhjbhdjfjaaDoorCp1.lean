/-
  DERIVED: THE SHELF's CONTRACTS AT THIS DUMP, IN PLAIN WORDS (tools/lay-plain.mjs out of 'CpSs.lean', which tools/lay-shelf.mjs wrote): THE SAME DECLARATIONS UNDER THE SAME NAMES: 'import', 'namespace', 'open', 'def', 'theorem' AND NOTHING ELSE: no command of the shelf's: FOR A HAND-IN. Each laying: the table of numbers ('.._ren') and one theorem, a field a fact of the dump's own or the kernel's comparison; each contract: ONE APPLICATION.
-/
import Derived.Shelf.Strings.Builder1
import Derived.Shelf.Strings.Builder2
import Derived.Shelf.Strings.OnBuilder
import Derived.Shelf.Strconv.Itoa0
import Derived.Shelf.Strconv.Itoa1
import Derived.Shelf.LaysM
import Derived.Shelf.Strconv.Itoa2
import Derived.Shelf.Strconv.Itoa3
import Derived.Shelf.Strconv.Itoa4
import Derived.Test.YtbjllhjbhdjfjaaDoorProg
import Derived.Test.YtbjllhjbhdjfjaaDoorCe3
import Derived.Lib.Builder
import Derived.Lib.UnsafeStr
import Derived.Test.YtbjllhjbhdjfjaaDoorCe4
namespace Go.Proofs
open Go.Shelf
def Tryd.lays156_ren : Go.Shelf.Ren := ⟨fun | 156 => 18 | 165 => 39 | 166 => 26 | 169 => 15 | 240 => 55 | 241 => 77 | 276 => 89 | 277 => 104 | n => n, fun | 31 => 27 | 9 => 9 | 3 => 3 | 4 => 4 | 0 => 0 | 20 => 20 | 72 => 62 | 76 => 84 | 70 => 60 | 37 => 57 | 75 => 83 | 127 => 90 | 164 => 143 | 5 => 5 | 80 => 68 | n => n, fun | n => n⟩
theorem Tryd.lays156 : Go.Proofs.Lays.n156 Tryd.prog Tryd.lays156_ren := {
  mixed := by kernel_rfl
  f156 := Tryd.func18.trans (congrArg some (by kernel_rfl))
  f165 := Tryd.func39.trans (congrArg some (by kernel_rfl))
  f166 := Tryd.func26.trans (congrArg some (by kernel_rfl))
  f169 := Tryd.func15.trans (congrArg some (by kernel_rfl))
  f240 := Tryd.func55.trans (congrArg some (by kernel_rfl))
  f241 := Tryd.func77.trans (congrArg some (by kernel_rfl))
  f276 := Tryd.func89.trans (congrArg some (by kernel_rfl))
  f277 := Tryd.func104.trans (congrArg some (by kernel_rfl))
  t0 := Tryd.underlying0
  a0 := Tryd.isAgg0
  z0 := Tryd.sizeOf0
  v0 := Tryd.zeroValue0
  t3 := Tryd.underlying3
  a3 := Tryd.isAgg3
  z3 := Tryd.sizeOf3
  v3 := Tryd.zeroValue3
  t4 := Tryd.underlying4
  a4 := Tryd.isAgg4
  z4 := Tryd.sizeOf4
  v4 := Tryd.zeroValue4
  t9 := Tryd.underlying9
  a9 := Tryd.isAgg9
  z9 := Tryd.sizeOf9
  v9 := Tryd.zeroValue9
  t20 := Tryd.underlying20
  a20 := Tryd.isAgg20
  z20 := Tryd.sizeOf20
  v20 := Tryd.zeroValue20
  t31 := Tryd.underlying27
  a31 := Tryd.isAgg27
  z31 := Tryd.sizeOf27
  v31 := Tryd.zeroValue27
  t37 := Tryd.underlying57
  a37 := Tryd.isAgg57
  z37 := Tryd.sizeOf57
  v37 := Tryd.zeroValue57
  t70 := Tryd.underlying60
  a70 := Tryd.isAgg60
  z70 := Tryd.sizeOf60
  v70 := Tryd.zeroValue60
  t72 := Tryd.underlying62
  a72 := Tryd.isAgg62
  z72 := Tryd.sizeOf62
  v72 := Tryd.zeroValue62
  t75 := Tryd.underlying83
  a75 := Tryd.isAgg83
  z75 := Tryd.sizeOf83
  v75 := Tryd.zeroValue83
  t76 := Tryd.underlying84
  a76 := Tryd.isAgg84
  z76 := Tryd.sizeOf84
  v76 := Tryd.zeroValue84
  t127 := Tryd.underlying90
  a127 := Tryd.isAgg90
  z127 := Tryd.sizeOf90
  v127 := Tryd.zeroValue90
  t164 := Tryd.underlying143
  a164 := Tryd.isAgg143
  z164 := Tryd.sizeOf143
  v164 := Tryd.zeroValue143 }
theorem Tryd.Builder_Extra_156 : Builder.Extra Tryd.prog Tryd.lays156_ren := {
  sizeBuilder := by kernel_rfl
  liesBuilder := by kernel_rfl
  t5 := Tryd.underlying5
  a5 := Tryd.isAgg5
  z5 := Tryd.sizeOf5
  v5 := Tryd.zeroValue5
  infoByte := by kernel_rfl
  cellsByte := by kernel_rfl
  sizeByte := by kernel_rfl
  neB5 := by decide }
open Go.RowKit in
/-- No element: the empty string; the world is as it was. (Whatever the slice's address and capacity: a nil slice too.) (LAID: no walk: one application.) -/
theorem Tryd.strings_Join_none (a : Option Addr) (c : Nat) (sep : ByteArray) (w : World) :
    Calls Tryd.prog 18 #[.slice a 0 c, .string sep] w fun e w' => e = .returned (.string ⟨#[]⟩) ∧ w' = w := Any.strings_Join_none Tryd.lays156 Tryd.Builder_Extra_156 a c sep w
open Go.RowKit in
/-- strings.Join: "Join concatenates the elements of its first argument to create a single string. The separator string sep is placed between elements in the resulting string.": HOWEVER MANY ELEMENTS. Below the heap's end the world is as it was. (LAID: no walk: one application.) -/
theorem Tryd.strings_Join (bk o c : Nat) (xs : List ByteArray) (sep : ByteArray) (w : World) (hcells : ∀ (j : Nat) x, xs[j]? = some x → w.cell? ⟨bk, o + j, none⟩ = some (.string x)) (hbk : bk < w.heap.size) (hN : xs.length ≤ 140737488355328) (hcap : xs.length ≤ c) (hlen : (Lib.join (xs.map (·.data.toList)) sep.data.toList).length ≤ 140737488355328) :
    Calls Tryd.prog 18 #[.slice (some ⟨bk, o, none⟩) xs.length c, .string sep] w fun e w' => e = .returned (.string ⟨(Lib.join (xs.map (·.data.toList)) sep.data.toList).toArray⟩) ∧ Below w.heap.size w w' := Any.strings_Join Tryd.lays156 Tryd.Builder_Extra_156 bk o c xs sep w hcells hbk hN hcap hlen
def Tryd.laysM173_ren : Go.Shelf.Ren := ⟨fun | 173 => 16 | 246 => 31 | 283 => 58 | 284 => 59 | 285 => 60 | 286 => 61 | 129 => 92 | 317 => 91 | 318 => 93 | 319 => 94 | 320 => 95 | 337 => 116 | 338 => 117 | n => n, fun | 2 => 2 | 3 => 3 | 9 => 9 | 4 => 4 | 171 => 115 | 0 => 0 | 53 => 23 | 37 => 57 | 5 => 5 | 173 => 118 | 212 => 147 | 51 => 124 | 20 => 20 | 213 => 148 | 46 => 91 | 232 => 180 | 233 => 181 | n => n, fun | 17 => 0 | 18 => 2 | 19 => 3 | n => n⟩
theorem Tryd.laysM173 : Go.Proofs.LaysM.n173 Tryd.prog Tryd.laysM173_ren := {
  mixed := by kernel_rfl
  f129 := Tryd.func92.trans (congrArg some (by kernel_rfl))
  f173 := Tryd.func16.trans (congrArg some (by kernel_rfl))
  f246 := Tryd.func31.trans (congrArg some (by kernel_rfl))
  f283 := Tryd.func58.trans (congrArg some (by kernel_rfl))
  f284 := Tryd.func59.trans (congrArg some (by kernel_rfl))
  f285 := Tryd.func60.trans (congrArg some (by kernel_rfl))
  f286 := Tryd.func61.trans (congrArg some (by kernel_rfl))
  f317 := Tryd.func91.trans (congrArg some (by kernel_rfl))
  f318 := Tryd.func93.trans (congrArg some (by kernel_rfl))
  f319 := Tryd.func94.trans (congrArg some (by kernel_rfl))
  f320 := Tryd.func95.trans (congrArg some (by kernel_rfl))
  f337 := Tryd.func116.trans (congrArg some (by kernel_rfl))
  f338 := Tryd.func117.trans (congrArg some (by kernel_rfl))
  t0 := Tryd.underlying0
  a0 := Tryd.isAgg0
  z0 := Tryd.sizeOf0
  v0 := Tryd.zeroValue0
  t2 := Tryd.underlying2
  a2 := Tryd.isAgg2
  z2 := Tryd.sizeOf2
  v2 := Tryd.zeroValue2
  t3 := Tryd.underlying3
  a3 := Tryd.isAgg3
  z3 := Tryd.sizeOf3
  v3 := Tryd.zeroValue3
  t4 := Tryd.underlying4
  a4 := Tryd.isAgg4
  z4 := Tryd.sizeOf4
  v4 := Tryd.zeroValue4
  t5 := Tryd.underlying5
  a5 := Tryd.isAgg5
  z5 := Tryd.sizeOf5
  v5 := Tryd.zeroValue5
  t9 := Tryd.underlying9
  a9 := Tryd.isAgg9
  z9 := Tryd.sizeOf9
  v9 := Tryd.zeroValue9
  t20 := Tryd.underlying20
  a20 := Tryd.isAgg20
  z20 := Tryd.sizeOf20
  v20 := Tryd.zeroValue20
  t37 := Tryd.underlying57
  a37 := Tryd.isAgg57
  z37 := Tryd.sizeOf57
  v37 := Tryd.zeroValue57
  t46 := Tryd.underlying91
  a46 := Tryd.isAgg91
  z46 := Tryd.sizeOf91
  v46 := Tryd.zeroValue91
  t51 := Tryd.underlying124
  a51 := Tryd.isAgg124
  z51 := Tryd.sizeOf124
  v51 := Tryd.zeroValue124
  t53 := Tryd.underlying23
  a53 := Tryd.isAgg23
  z53 := Tryd.sizeOf23
  v53 := Tryd.zeroValue23
  t171 := Tryd.underlying115
  a171 := Tryd.isAgg115
  z171 := Tryd.sizeOf115
  v171 := Tryd.zeroValue115
  t173 := Tryd.underlying118
  a173 := Tryd.isAgg118
  z173 := Tryd.sizeOf118
  v173 := Tryd.zeroValue118
  t212 := Tryd.underlying147
  a212 := Tryd.isAgg147
  z212 := Tryd.sizeOf147
  v212 := Tryd.zeroValue147
  t213 := Tryd.underlying148
  a213 := Tryd.isAgg148
  z213 := Tryd.sizeOf148
  t232 := Tryd.underlying180
  a232 := Tryd.isAgg180
  z232 := Tryd.sizeOf180
  v232 := Tryd.zeroValue180
  t233 := Tryd.underlying181
  a233 := Tryd.isAgg181
  z233 := Tryd.sizeOf181
  v233 := Tryd.zeroValue181
  g17 := by kernel_rfl
  g18 := by kernel_rfl
  g19 := by kernel_rfl
  i0 := by kernel_rfl
  i2 := by kernel_rfl
  i3 := by kernel_rfl
  i4 := by kernel_rfl
  i5 := by kernel_rfl
  i9 := by kernel_rfl
  i20 := by kernel_rfl
  i37 := by kernel_rfl
  i46 := by kernel_rfl
  i51 := by kernel_rfl
  i53 := by kernel_rfl
  i171 := by kernel_rfl
  i173 := by kernel_rfl
  i212 := by kernel_rfl
  i232 := by kernel_rfl
  i233 := by kernel_rfl
  m17 := by kernel_rfl
  m18 := by kernel_rfl
  m19 := by kernel_rfl }
open Go.RowKit Go.Sort Go.Lib in
/-- strconv.FormatInt: "FormatInt returns the string representation of i in the given base": AT BASE 10: i's decimal numeral, for every int64. (LAID: no walk: one application.) -/
theorem Tryd.strconv_FormatInt_10 (n : Int) (h0 : -9223372036854775808 ≤ n) (h1 : n ≤ 9223372036854775807) (w : World) (htab : Lib.TabIs Tryd.prog w "internal/strconv.uint64pow10" .u64 Lib.pow10Tab) :
    Calls Tryd.prog 16 #[.int .i64 n, .int .i64 10] w fun e w' => e = .returned (.string ⟨(Lib.itoa n).toArray⟩) ∧ ∃ k os, w' = grow (w.drewN k) os := Any.strconv_FormatInt_10 Tryd.laysM173 n h0 h1 w htab
end Go.Proofs
namespace Go.Proofs
open Go.Shelf Go.RowKit
set_option maxRecDepth 100000
theorem Tryd.lies64 (c : Nat) : liesAt Tryd.prog Tryd.prog.depth 64 (c + 1) 0 62 1 = true := by kernel_rfl
theorem Tryd.cells64 : Tryd.prog.cellsOf 64 = 2 := by kernel_rfl
theorem Tryd.info62 : (Tryd.prog.info? 62).map (·.size) = some 2 := by kernel_rfl
set_option maxHeartbeats 1000000 in
theorem Tryd.copyCheck_used (b : Nat) (w : World) (h0 : w.cell? ⟨b, 0, none⟩ = some (.pointer (some ⟨b, 0, none⟩))) :
    Calls Tryd.prog 55 #[.pointer (some ⟨b, 0, none⟩)] w fun e w' => e = .returned (.tuple #[]) ∧ w' = w := by
  obtain ⟨j, hj, _⟩ := Option.map_eq_some_iff.1 Tryd.info62
  go_enter Tryd.func55, Tryd.ntmps55
  go_wp2
  rw [Lib.run_neq_ptr_same w _ Tryd.underlying60 hj]
  go_wp2
  go_end0
  exact ⟨rfl, rfl⟩
set_option maxHeartbeats 1000000 in
theorem Tryd.copyCheck_fresh (b c : Nat) (w : World) (h0 : w.cell? ⟨b, 0, none⟩ = some (.pointer none)) (hsh : w.shape? b = some (64, c)) (hc : 2 ≤ c) (hfz : w.frozen? ⟨b, 0, none⟩ = false) :
    Calls Tryd.prog 55 #[.pointer (some ⟨b, 0, none⟩)] w fun e w' => e = .returned (.tuple #[]) ∧ w' = w.setCell ⟨b, 0, none⟩ (.pointer (some ⟨b, 0, none⟩)) := by
  obtain ⟨j, hj, hjs⟩ := Option.map_eq_some_iff.1 Tryd.info62
  have hl : liesAt Tryd.prog Tryd.prog.depth 64 (c / Tryd.prog.cellsOf 64) 0 62 1 = true := by
    rw [Tryd.cells64]
    obtain ⟨k, hk⟩ : ∃ k, c / 2 = k + 1 := ⟨c / 2 - 1, by omega⟩
    rw [hk]; exact Tryd.lies64 k
  go_enter Tryd.func55, Tryd.ntmps55
  go_wp2
  rw [Lib.run_to_unsafe w ⟨b, 0, none⟩ Tryd.underlying60 Tryd.underlying143 hj (by rw [hjs]; decide) hsh (by show 0 < c; omega)]
  simp only [Result.andThen]
  rw [Oper.upon_value]
  go_wp2
  rw [run_callFunc_extern Tryd.func89 (by kernel_rfl) (by kernel_rfl) (by kernel_rfl) (e := Extern.AbiNoEscape.same) (by kernel_rfl)]
  rw [Lib.run_noEscape]
  simp only [Result.andThen]
  rw [Oper.upon_value]
  go_wp2
  rw [Lib.run_from_unsafe w ⟨b, 0, none⟩ Tryd.underlying143 Tryd.underlying60 hj hsh hl]
  simp only [Result.andThen]
  rw [Oper.upon_value]
  go_wp2
  go_end0
  exact ⟨rfl, rfl⟩
/-- Bytes anywhere in a row of bytes. -/
theorem liesAt_bytes_off {P : Program} {e : TypeId} (hc : P.cellsOf e = 1) (count off n : Nat) (hn : off + n ≤ count) : liesAt P P.depth e count off e n = true := by
  have hd : P.depth = (2 * (P.types.size + Made.depth) + 1) + 1 := rfl
  rw [hd]
  simp only [liesAt, Bool.or_eq_true]
  left
  rw [hd]
  simp [rowAt, hc, hn, sameLayout, Nat.mod_one]
theorem run_unsafeString_off {P : Program} (w : World) (pt it ty e : TypeId) (hp : P.underlying pt = some (.pointer e)) (hc : P.cellsOf e = 1) (g off cells : Nat) (hsh : w.shape? g = some (e, cells)) (l : List UInt8) (h0 : l ≠ []) (hn : off + l.length ≤ cells) (h63 : l.length ≤ 9223372036854775807)
    (hcell : ∀ j x, l[j]? = some x → w.cell? ((⟨g, off, none⟩ : Addr).add j) = some (.int .u8 x.toNat)) :
    (Builtin.unsafeString_ #[pt, it] ty #[.pointer (some ⟨g, off, none⟩), .int .i64 l.length]).run P w = .ok (.string ⟨l.toArray⟩) (w.freeze ⟨g, off, none⟩ l.length) := by
  have hl : l.length ≠ 0 := by simpa using h0
  have hlb := Lib.run_loadBytes (P := P) w l ⟨g, off, none⟩ .empty hcell
  have hlies := liesAt_bytes_off (P := P) hc (cells / P.cellsOf e) off l.length (by rw [hc]; simpa using hn)
  have h63' : ¬ (9223372036854775807 : Int) < (l.length : Int) := by omega
  have hdef : Builtin.unsafeString_ #[pt, it] ty #[.pointer (some ⟨g, off, none⟩), .int .i64 l.length] =
      (do
        let n ← asInt (.int .i64 l.length)
        if n < 0 then runtimePanic (.error "unsafe.String: len out of range")
        if n > IntKind.i64.max then unsupported (.unsafePointer "String: a length above the largest int")
        if n = 0 then pure (.string .empty)
        else if ← variablesAt ⟨g, off, none⟩ (← elemOf pt) n.toNat then do
          let s ← loadBytes ⟨g, off, none⟩ .empty n.toNat
          freeze ⟨g, off, none⟩ n.toNat
          pure (.string s)
        else unsupported (.unsafePointer "String: not so many bytes at ptr")) := rfl
  rw [hdef]
  have hmax : IntKind.i64.max = 9223372036854775807 := rfl
  have hneg : ¬ (l.length : Int) < 0 := by omega
  simp [asInt, asIntOf, hmax, h63', hneg, hl, variablesAt, hsh, elemOf, run_underlying hp, hlies, hlb]
theorem Tryd.cells5 : Tryd.prog.cellsOf 5 = 1 := by kernel_rfl
set_option maxHeartbeats 1000000 in
theorem Tryd.Builder_String (b g off c cells : Nat) (l : List UInt8) (w : World) (c0 : w.cell? ⟨b, 1, none⟩ = some (.slice (some ⟨g, off, none⟩) l.length c)) (hl0 : l ≠ []) (hcap : l.length ≤ c) (hsh : w.shape? g = some (5, cells)) (hfit : off + l.length ≤ cells) (h63 : l.length ≤ 9223372036854775807)
    (hcell : ∀ j x, l[j]? = some x → w.cell? ((⟨g, off, none⟩ : Addr).add j) = some (.int .u8 x.toNat)) :
    Calls Tryd.prog 15 #[.pointer (some ⟨b, 0, none⟩)] w fun e w' => e = .returned (.string ⟨l.toArray⟩) ∧ w' = w.drew.freeze ⟨g, off, none⟩ l.length := by
  have hl1 : l.length ≠ 0 := by simpa using hl0
  have c1 : w.drew.cell? ⟨b, 1, none⟩ = some (.slice (some ⟨g, off, none⟩) l.length c) := c0
  have hSD : (Builtin.unsafeSliceData_ #[57] 90 #[.slice (some ⟨g, off, none⟩) l.length c]).run Tryd.prog w.drew = .ok (.pointer (some ⟨g, off, none⟩)) w.drew :=
    Lib.run_unsafeSliceData_row _ _ _ _ _ _ (by omega)
  have hUS : (Builtin.unsafeString_ #[90, 3] 9 #[.pointer (some ⟨g, off, none⟩), .int .i64 l.length]).run Tryd.prog w.drew = .ok (.string ⟨l.toArray⟩) (w.drew.freeze ⟨g, off, none⟩ l.length) :=
    run_unsafeString_off w.drew 90 3 9 5 Tryd.underlying90 Tryd.cells5 g off cells hsh l hl0 hfit h63 hcell
  clear hl0 hcap hfit hl1 hcell hsh
  go_enter Tryd.func15, Tryd.ntmps15
  go_wp2
  go_region
  all_goals (go_wp2; go_ret; exact ⟨rfl, rfl⟩)
end Go.Proofs

namespace Go.Dn.Dec
open Go.Proofs Go.Shelf Go.RowKit
set_option maxRecDepth 100000
/-- A type's mark at a builder that holds bytes; 5: byte. -/
def bytesD : List D → Option (List UInt8)
  | [] => some []
  | .i .u8 n :: xs => if 0 ≤ n ∧ n < 256 then (bytesD xs).map (UInt8.ofNat n.toNat :: ·) else none
  | _ => none
theorem bytesD_eq : ∀ {xs : List D} {l : List UInt8}, bytesD xs = some l → xs = ofBytes l
  | [], l, h => by simp [bytesD] at h; subst h; rfl
  | x :: xs, l, h => by
    unfold bytesD at h
    split at h
    · cases ‹x :: xs = []›
    · rename_i n r e
      injection e with e1 e2; subst e1; subst e2
      split at h
      · rename_i hn
        obtain ⟨l', h1, rfl⟩ := Option.map_eq_some_iff.1 h
        rw [bytesD_eq h1]
        simp only [ofBytes, List.map_cons]
        congr 1
        have : ((UInt8.ofNat n.toNat).toNat : Int) = n := by
          rw [UInt8.toNat_ofNat']; omega
        rw [this]
      · cases h
    · cases h
def unStrs : List D → Option (List (List UInt8))
  | [] => some []
  | .s x :: xs => (unStrs xs).map (x :: ·)
  | _ => none
theorem unStrs_eq : ∀ {xs : List D} {l : List (List UInt8)}, unStrs xs = some l → xs = l.map .s
  | [], l, h => by simp [unStrs] at h; subst h; rfl
  | x :: xs, l, h => by
    unfold unStrs at h
    split at h
    · cases ‹x :: xs = []›
    · rename_i s r e
      injection e with e1 e2; subst e1; subst e2
      obtain ⟨l', h1, rfl⟩ := Option.map_eq_some_iff.1 h
      rw [unStrs_eq h1]; rfl
    · cases h
def fmtIntExt (args : List V) (S : List Ob) : Option Out :=
  match args with
  | [.d (.i .i64 n), .d (.i .i64 b)] => if b = 10 ∧ -9223372036854775808 ≤ n ∧ n ≤ 9223372036854775807 then some (.d (.s (decI n)), S) else none
  | _ => none
def joinExt (args : List V) (S : List Ob) : Option Out :=
  match args with
  | [.d (.l _ xs), .d (.s t)] => match unStrs xs with
    | some l => if l.length ≤ 100000 ∧ (Lib.join l t).length ≤ 1000000 then some (.d (.s (Lib.join l t)), S) else none
    | none => none
  | _ => none
def copyExt (args : List V) (S : List Ob) : Option Out :=
  match args with
  | [.p id 0] => match oget S id with
    | some (.cells (c :: d :: cs) fl) => match c with
      | .d .np => if fl.contains (64, 2000000) = true then some (.t [], oset S id (.cells (.p id 0 :: d :: cs) (drop1 fl 0))) else none
      | .p i 0 => if i = id then some (.t [], S) else none
      | _ => none
    | _ => none
  | _ => none
def strExt (args : List V) (S : List Ob) : Option Out :=
  match args with
  | [.p id 0] => match oget S id with
    | some (.cells (_ :: .d (.l _ xs) :: _) fl) => match bytesD xs with
      | some l => if l ≠ [] ∧ l.length ≤ 1000000 ∧ fl.contains (1, 21000001) = true then some (.d (.s l), S) else none
      | none => none
    | _ => none
  | _ => none
theorem copy_good {args : List V} {S : List Ob} {o : Out} (h : copyExt args S = some o) : GoodCall Tryd.prog 55 args S o := by
  unfold copyExt at h
  split at h
  rotate_left
  · cases h
  rename_i id
  split at h
  rotate_left
  · cases h
  rename_i c d cs fl hob
  intro w G vs hI hr _
  obtain ⟨v, rfl, hv⟩ := vs_one hr
  simp only [RV] at hv
  obtain ⟨b, hb, rfl⟩ := hv
  obtain ⟨hFb, o', go, hs', hgo, hor⟩ := hI.ob _ _ hb
  rw [hob] at hs'; injection hs' with hs'; subst hs'
  cases go <;> simp only [ObR] at hor
  rename_i arr el fz
  obtain ⟨hlen, hcells, hflags⟩ := hor
  obtain ⟨v0, h0, hr0, hf0, _⟩ := hcells 0 c rfl
  have hc0 : w.cell? ⟨b, 0, none⟩ = some v0 := by simp [World.cell?, hgo, h0]
  split at h
  · split at h
    · rename_i hm
      injection h with h; subst h
      simp only [RV, RD] at hr0
      subst hr0
      have hel : el = 64 := by
        have := hflags 64 2000000 (by simpa using hm)
        unfold FlagR at this
        simpa using this
      subst hel
      have hsh : w.shape? b = some (64, arr.size) := by simp [World.shape?, hgo]
      have hfr : w.frozen? ⟨b, 0, none⟩ = false := by
        obtain ⟨lo, hi⟩ := fz
        simp only [World.frozen?, hgo]
        simpa using hf0
      have h2 : 2 ≤ arr.size := by simp at hlen; omega
      refine Answers.of_calls Tryd.func55 (by kernel_rfl) (hname _ _ Tryd.func55) ((Tryd.copyCheck_fresh b arr.size w hc0 hsh h2 hfr).mono ?_)
      rintro e w' ⟨rfl, rfl⟩
      refine ⟨_, rfl, ⟨G.F, G.own⟩, ?_, ?_⟩
      · simp only [RV, RVs]; exact ⟨#[], rfl, rfl⟩
      rw [setCell_putRow hgo]
      have hrf := hI.rf _ _ _ hob
      have tokne : ∀ blk i x, G.own blk = some (.cell i x) → blk ≠ b := by
        intro blk i x h1 e; subst e; rw [hb] at h1; cases h1
      refine ⟨hI.write hb hob hgo (fun _ _ h _ _ => h) (fun _ _ h => .inr (.inr h)) ?_ ?_, Ext.write hI hb hgo (fun _ _ h _ _ => h) (fun _ h => h) (fun _ _ h => h)⟩
      · simp only [refsLts, Bool.and_eq_true] at hrf ⊢
        exact ⟨by simp [refsLt], hrf.2⟩
      · simp only [ObR]
        refine ⟨by simpa using hlen, fun o c' hc' => ?_, fun o z hm' => ?_⟩
        · cases o with
          | zero =>
            simp at hc'; subst hc'
            have hpos : 0 < arr.size := by omega
            exact ⟨.pointer (some ⟨b, 0, none⟩), by rw [Array.getElem?_setIfInBounds, if_pos rfl, if_pos hpos], by simp only [RV]; exact ⟨b, hb, rfl⟩, hf0, rfl⟩
          | succ o =>
            obtain ⟨y, hy, hry, hf, ho1⟩ := hcells (o + 1) c' (by simpa using hc')
            exact ⟨y, by rw [Array.getElem?_setIfInBounds_ne (by omega)]; exact hy, hry, hf, ho1⟩
        · obtain ⟨hm1, hne⟩ := mem_drop1.1 hm'
          refine (hflags o z hm1).map fun y hy ht => ⟨y, by rw [Array.getElem?_setIfInBounds_ne (by omega)]; exact hy, ht.same fun blk hk => ⟨hk, putRow_other (tokne _ _ _ hk), fun _ => rfl⟩⟩
    · cases h
  · split at h
    · rename_i i hi
      injection h with h; subst h
      subst hi
      simp only [RV] at hr0
      obtain ⟨b', hb', rfl⟩ := hr0
      have := hI.inj _ _ _ hb' hb; subst this
      refine Answers.of_calls Tryd.func55 (by kernel_rfl) (hname _ _ Tryd.func55) ((Tryd.copyCheck_used b' w hc0).mono ?_)
      rintro e w' ⟨rfl, rfl⟩
      refine ⟨_, rfl, G, ?_, hI, Ext.refl _ _ _⟩
      simp only [RV, RVs]; exact ⟨#[], rfl, rfl⟩
    · cases h
  · cases h
/-! ### String: its bytes are frozen -/
theorem freeze_other {w : World} {g off n b : Nat} (h : b ≠ g) : (w.freeze ⟨g, off, none⟩ n).heap[b]? = w.heap[b]? := by
  unfold World.freeze
  split
  · rfl
  · simp only [Array.getElem?_modify]
    rw [if_neg (Ne.symm h)]
theorem freeze_same {w : World} {g off n : Nat} {cs : Array Value} {el lo hi : Nat} (hn : n ≠ 0) (h : w.heap[g]? = some (.cells cs el (lo, hi))) :
    (w.freeze ⟨g, off, none⟩ n).heap[g]? = some (.cells cs el (if lo == hi then (off, off + n) else (min lo off, max hi (off + n)))) := by
  unfold World.freeze
  rw [if_neg hn]
  simp only [Array.getElem?_modify, if_true, h, Option.map_some]
theorem freeze_size {w : World} {g off n : Nat} : (w.freeze ⟨g, off, none⟩ n).heap.size = w.heap.size := by
  unfold World.freeze
  split
  · rfl
  · simp
/-- A tail behind what is frozen stays free. -/
theorem tail_freeze {w : World} {F : Fz} {sz g off n g' : Nat} {ot : Option Nat} {v : Value} (hn : n ≠ 0) (hF : F g (off + n - 1) ≠ none) (h : Tail w F sz ot g' v) : Tail (w.freeze ⟨g, off, none⟩ n) F sz ot g' v := by
  obtain ⟨o, m, c, cs, el, fz, e, hg, h1, h2, h3, h4, h5⟩ := h
  by_cases hb : g' = g
  · subst hb
    obtain ⟨lo, hi⟩ := fz
    refine ⟨o, m, c, cs, el, _, e, freeze_same hn hg, h1, h2, ?_, h4, fun x hx => ⟨(h5 x hx).1, ?_⟩⟩
    · simp only at h3
      split
      · simp
      · simp only; omega
    · have hB : off + n - 1 < o + m * sz := by
        rcases Nat.lt_or_ge (off + n - 1) (o + m * sz) with h | h
        · exact h
        · exact absurd (h5 _ h).1 hF
      simp only at h3
      split
      · simp only; omega
      · rename_i hlh
        have hne : lo ≠ hi := by simpa using hlh
        have hhi : hi ≤ o + m * sz := by
          rcases Nat.lt_or_ge (hi - 1) (o + m * sz) with h | h
          · omega
          · exact absurd (show lo ≤ hi - 1 ∧ hi - 1 < hi from ⟨by omega, by omega⟩) (h5 _ h).2
        simp only
        omega
  · exact ⟨o, m, c, cs, el, fz, e, by rw [freeze_other hb]; exact hg, h1, h2, h3, h4, h5⟩
theorem tok_freeze {w : World} {G : Sg} {ℓ : Loc} {z g off n : Nat} {v : Value} (hn : n ≠ 0) (hF : G.F g (off + n - 1) ≠ none) (h : TokR w G ℓ z v) : TokR (w.freeze ⟨g, off, none⟩ n) G ℓ z v := by
  rcases h with h | ⟨blk, ho, ht⟩
  · exact .inl h
  · exact .inr ⟨blk, ho, tail_freeze hn hF ht⟩
theorem cell_freeze {w : World} {g off n b o : Nat} : (w.freeze ⟨g, off, none⟩ n).cell? ⟨b, o, none⟩ = w.cell? ⟨b, o, none⟩ := by
  by_cases hn : n = 0
  · subst hn; rfl
  by_cases hb : b = g
  · subst hb
    cases hh : w.heap[b]? with
    | none =>
      have : (w.freeze ⟨b, off, none⟩ n).heap[b]? = none := by
        rw [Array.getElem?_eq_none_iff] at hh ⊢
        rw [freeze_size]; exact hh
      simp [World.cell?, hh, this]
    | some go =>
      cases go with
      | cells cs el fz => obtain ⟨lo, hi⟩ := fz; simp [World.cell?, hh, freeze_same hn hh]
      | _ =>
        have : (w.freeze ⟨b, off, none⟩ n).heap[b]? = w.heap[b]? := by
          unfold World.freeze
          rw [if_neg hn]
          simp only [Array.getElem?_modify, if_true, hh, Option.map_some]
        simp [World.cell?, this]
  · exact cell?_of_heap (freeze_other hb) o
/-- What is known stays known where owned bytes are frozen. -/
theorem freeze_inv {w : World} {G : Sg} {S : List Ob} {g off n id x : Nat} (hI : Inv w G S) (ho : G.own g = some (.cell id x)) (hn : n ≠ 0) (hF : G.F g (off + n - 1) ≠ none) :
    Inv (w.freeze ⟨g, off, none⟩ n) G S ∧ Ext w G S (w.freeze ⟨g, off, none⟩ n) G S := by
  have hne : ∀ b i, G.own b = some (.obj i) → b ≠ g := fun b i h e => by subst e; rw [ho] at h; cases h
  have hex : w.freeze ⟨g, off, none⟩ n = { w with heap := (w.freeze ⟨g, off, none⟩ n).heap } := by
    unfold World.freeze; rw [if_neg hn]
  refine ⟨⟨fun b o v h => by rw [cell_freeze]; exact hI.fz b o v h, fun b i h => ?_, hI.inj, fun b ℓ h => by rw [freeze_size]; exact hI.tk b ℓ h, hI.cl, hI.rf, hI.tb_of fun b _ h0 => ⟨freeze_other fun e => (by subst e; rw [ho] at h0; cases h0), h0⟩⟩, ?_⟩
  · obtain ⟨h1, o, go, h2, h3, h4⟩ := hI.ob b i h
    refine ⟨h1, o, go, h2, by rw [freeze_other (hne _ _ h)]; exact h3, ?_⟩
    cases o with
    | cells cs fl =>
      cases go <;> simp only [ObR] at h4 ⊢
      obtain ⟨p1, p2, p3⟩ := h4
      exact ⟨p1, p2, fun o sz hm => (p3 o sz hm).map fun v hv ht => ⟨v, hv, tok_freeze hn hF ht⟩⟩
    | map es => cases go <;> simp only [ObR] at h4 ⊢; exact h4
    | iter s pos => cases go <;> simp only [ObR] at h4 ⊢; exact h4
    | dead => cases go <;> simp only [ObR] at h4
  · refine ⟨by rw [hex], by rw [hex], by rw [hex], by rw [freeze_size]; exact Nat.le_refl _, fun _ _ _ h => h, fun _ _ h => h, fun b hb h => ⟨rfl, freeze_other fun e => ?_, fun _ => rfl⟩, fun _ _ h _ => h, fun _ _ _ => rfl, Nat.le_refl _⟩
    subst e; rw [ho] at h; rcases h with h | h <;> cases h
theorem str_good {args : List V} {S : List Ob} {o : Out} (h : strExt args S = some o) : GoodCall Tryd.prog 15 args S o := by
  unfold strExt at h
  split at h
  rotate_left
  · cases h
  rename_i id
  split at h
  rotate_left
  · cases h
  rename_i c fu xs cs fl hob
  split at h
  rotate_left
  · cases h
  rename_i l hl
  split at h
  rotate_left
  · cases h
  rename_i hc
  obtain ⟨hne, hlen6, hm⟩ := hc
  injection h with h; subst h
  have hxs := bytesD_eq hl
  subst hxs
  intro w G vs hI hr _
  obtain ⟨v, rfl, hv⟩ := vs_one hr
  simp only [RV] at hv
  obtain ⟨b, hb, rfl⟩ := hv
  obtain ⟨hFb, o', go, hs', hgo, hor⟩ := hI.ob _ _ hb
  rw [hob] at hs'; injection hs' with hs'; subst hs'
  cases go <;> simp only [ObR] at hor
  rename_i arr el fz
  obtain ⟨hlen, hcells, hflags⟩ := hor
  obtain ⟨v1, h1, hr1, _, _⟩ := hcells 1 _ rfl
  have hc1 : w.cell? ⟨b, 1, none⟩ = some v1 := by simp [World.cell?, hgo, h1]
  have hfl := hflags 1 21000001 (by simpa using hm)
  unfold FlagR at hfl
  rw [if_neg (by decide)] at hfl
  obtain ⟨v1', h1', htok⟩ := hfl
  rw [h1] at h1'; injection h1' with h1'; subst h1'
  simp only [RV, RD] at hr1
  obtain ⟨a, n, cap, sz, rfl, hn, hncap, _, hsz, hel⟩ := hr1
  have hbl : (ofBytes l).length = l.length := by simp [ofBytes]
  rw [hbl] at hn
  subst hn
  have hl0 : l.length ≠ 0 := by simpa using hne
  have hbne : ofBytes l ≠ [] := by intro e; rw [e] at hbl; exact hl0 hbl.symm
  rcases htok with ⟨a', n', e, hz⟩ | ⟨g, hg, off, n', c', arr', el', fz', e, hgo', g1, g2, g3, g4, g5⟩
  · injection e with e1 e2 e3
    have := hz (by decide)
    omega
  · injection e with e1 e2 e3
    subst e1; subst e2; subst e3
    have hel5 : el' = 5 := g4 5 rfl
    subst hel5
    obtain ⟨blk, off2, e, hre⟩ := hel hbne
    injection e with e; injection e with e1 e2
    subst e1; subst e2
    have hsz1 : sz = 1 := by
      obtain ⟨y, r, hy⟩ : ∃ y r, l = y :: r := by cases l with | nil => exact absurd rfl hne | cons y r => exact ⟨y, r, rfl⟩
      have := hsz (.i .u8 y.toNat) (by rw [hy]; simp [ofBytes])
      simpa [D.width] using this.symm
    subst hsz1
    have hF : ∀ j x, l[j]? = some x → G.F g (off + j) = some (.int .u8 x.toNat) := by
      intro j x hj
      have := RElems.get hsz hre (i := j) (x := .i .u8 x.toNat) (by simp [ofBytes, hj])
      simp only [ElemAt, RD, Nat.mul_one] at this
      obtain ⟨y, hy, rfl⟩ := this
      exact hy
    have hsh : w.shape? g = some (5, arr'.size) := by simp [World.shape?, hgo']
    have hlast : G.F g (off + l.length - 1) ≠ none := by
      have hlt : l.length - 1 < l.length := by omega
      have := hF (l.length - 1) _ (List.getElem?_eq_getElem hlt)
      rw [show off + (l.length - 1) = off + l.length - 1 by omega] at this
      rw [this]; simp
    refine Answers.of_calls Tryd.func15 (by kernel_rfl) (hname _ _ Tryd.func15) ((Tryd.Builder_String b g off cap arr'.size l w hc1 hne hncap hsh (by omega) (by omega) (fun j x hj => ?_)).mono ?_)
    · rw [Addr.add_plain]; exact hI.fz _ _ _ (hF j x hj)
    · rintro e w' ⟨rfl, rfl⟩
      obtain ⟨q1, q2⟩ := freeze_inv (off := off) (n := l.length) hI.drew hg hl0 hlast
      refine ⟨_, rfl, G, by simp only [RV, RD], q1, ?_⟩
      exact (St1.drew (SP := fun _ _ => True) hI).ext.trans q2
theorem fmtInt_good {args : List V} {S : List Ob} {o : Out} (h : fmtIntExt args S = some o) : GoodCall Tryd.prog 16 args S o := by
  unfold fmtIntExt at h
  split at h
  · rename_i n b
    split at h
    · rename_i hc
      injection h with h; subst h
      obtain ⟨rfl, hc1, hc2⟩ := hc
      refine good_data (v := .string ⟨(Lib.itoa n).toArray⟩) Tryd.func16 (by kernel_rfl) (fun F => by simp only [RD]; rw [itoa_eq]) fun w G vs hI hr => ?_
      obtain ⟨v, u, rfl, h1, h2⟩ := vs_two hr
      simp only [RV, RD] at h1 h2
      subst h1; subst h2
      exact (Tryd.strconv_FormatInt_10 n hc1 hc2 w (tab_is hI)).mono fun e w' h => ⟨h.1, .inr h.2⟩
    · cases h
  · cases h
theorem join_good {args : List V} {S : List Ob} {o : Out} (h : joinExt args S = some o) : GoodCall Tryd.prog 18 args S o := by
  unfold joinExt at h
  split at h
  rotate_left
  · cases h
  rename_i fu xs t
  split at h
  rotate_left
  · cases h
  rename_i l hl
  split at h
  rotate_left
  · cases h
  rename_i hc
  obtain ⟨hc1, hc2⟩ := hc
  injection h with h; subst h
  have hxs := unStrs_eq hl
  subst hxs
  refine good_val (v := .string ⟨(Lib.join l t).toArray⟩) Tryd.func18 (by kernel_rfl) (fun G => by simp only [RV, RD]) fun w G vs hI hr => ?_
  obtain ⟨v, u, rfl, h1, h2⟩ := vs_two hr
  simp only [RV, RD] at h1 h2
  subst h2
  obtain ⟨a, n, cap, sz, rfl, hn, hcap, _, hsz, hel⟩ := h1
  rw [List.length_map] at hn
  subst hn
  by_cases hl0 : l = []
  · subst hl0
    exact (Tryd.strings_Join_none a cap ⟨t.toArray⟩ w).mono fun e w' ⟨h1, h2⟩ => ⟨by rw [h1]; rfl, by rw [h2]; exact Below.refl _ _⟩
  · obtain ⟨blk, off, rfl, hre⟩ := hel (by simpa using hl0)
    have hsz1 : sz = 1 := by
      obtain ⟨y, r, hy⟩ : ∃ y r, l = y :: r := by cases l with | nil => exact absurd rfl hl0 | cons y r => exact ⟨y, r, rfl⟩
      have := hsz (.s y) (by rw [hy]; simp)
      simpa [D.width] using this.symm
    subst hsz1
    have hcell : ∀ (j : Nat) x, l[j]? = some x → w.cell? ⟨blk, off + j, none⟩ = some (.string ⟨x.toArray⟩) := by
      intro j x hj
      have := RElems.get hsz hre (i := j) (x := .s x) (by simp [hj])
      simp only [ElemAt, RD, Nat.mul_one] at this
      obtain ⟨y, hy, rfl⟩ := this
      exact hI.fz _ _ _ hy
    have hblk : blk < w.heap.size := by
      obtain ⟨y, r, hy⟩ : ∃ y r, l = y :: r := by cases l with | nil => exact absurd rfl hl0 | cons y r => exact ⟨y, r, rfl⟩
      exact cell?_lt (hcell 0 y (by rw [hy]; rfl))
    have hmap : (l.map fun x => (⟨x.toArray⟩ : ByteArray)).map (·.data.toList) = l := by simp [List.map_map, Function.comp_def]
    have := Tryd.strings_Join blk off cap (l.map fun x => ⟨x.toArray⟩) ⟨t.toArray⟩ w (fun j x hj => by
      rw [List.getElem?_map] at hj
      obtain ⟨y, hy, rfl⟩ := Option.map_eq_some_iff.1 hj
      exact hcell j y hy) hblk (by simp; omega) (by simpa using hcap) (by rw [hmap]; show (Lib.join l t).length ≤ _; omega)
    rw [hmap, List.length_map] at this
    exact this
end Go.Dn.Dec
namespace Go.Dn.Dec
open Go.Proofs
set_option maxRecDepth 100000
/-- dec.Show, as it is proved to answer. -/
def showExt (args : List V) (S : List Ob) : Option Out :=
  match args, S with
  | [.d (.i .u64 n)], [] => if 0 ≤ n ∧ n < 18446744073709551616 then some (.d (.s (showB n.toNat)), []) else none
  | _, _ => none
theorem show_good {args : List V} {S : List Ob} {o : Out} (h : showExt args S = some o) : GoodCall Tryd.prog 17 args S o := by
  unfold showExt at h
  split at h
  · rename_i n
    split at h
    · rename_i hc
      injection h with h; subst h
      have := show_s n.toNat (by omega)
      rw [Int.toNat_of_nonneg hc.1] at this
      exact run_good mixed extOk hname (rk_run this)
    · cases h
  · cases h
def extP (k : Nat) : Option (List V → List Ob → Option Out) :=
  match k with
  | 55 => some copyExt
  | 15 => some strExt
  | 16 => some fmtIntExt
  | 18 => some joinExt
  | 17 => some showExt
  | k => ext k
def polP : Pol := { cut := cut, app := fun k r i => if k = 26 then 3 else app k r i, flg := fun k r _ => if k = 7 then (if r = 1 then [(1, 21000001), (64, 2000000)] else []) else if k = 26 then [(5, 1000000)] else [], ext := extP }
theorem extOkP : ExtOk Tryd.prog polP := by
  intro k g hg args S o ho
  simp only [polP, extP] at hg
  split at hg
  · injection hg with hg; subst hg; exact copy_good ho
  · injection hg with hg; subst hg; exact str_good ho
  · injection hg with hg; subst hg; exact fmtInt_good ho
  · injection hg with hg; subst hg; exact join_good ho
  · injection hg with hg; subst hg; exact show_good ho
  · exact extOk k g hg args S o ho
/-! ### A long run, call by call -/
def hdT : Tr → Task
  | .call t _ => t
  | _ => .call 0 [] []
def tlT : Tr → Out → Tr
  | .call _ K, o => K o
  | t, _ => t
def isCT : Tr → Bool
  | .call _ _ => true
  | _ => false
theorem interp_hd {F : Task → Option Out} {T : Tr} {o r : Out} (h : isCT T = true) (h1 : F (hdT T) = some o) (h2 : interp F (tlT T o) = some r) : interp F T = some r := by
  cases T with
  | call t K => simp only [hdT] at h1; simp only [interp, h1]; exact h2
  | _ => cases h
theorem run_of_N {n : Nat} {t : Task} {o : Out} (h : runN Tryd.prog polP n t = some o) : run Tryd.prog polP t = some o := run_some.2 ⟨n, h⟩
noncomputable def pf0 : Task := .call 3 [] []
noncomputable def pf0_T0 : Tr := step Tryd.prog polP pf0
/- call 6 -/
def pf0_o0 : Out := (.d (.b true), [])
theorem pf0_c0 : runN Tryd.prog polP 100 (hdT pf0_T0) = some pf0_o0 := by kernel_rfl
noncomputable def pf0_T1 : Tr := tlT pf0_T0 pf0_o0
noncomputable def pf1 : Task := hdT pf0_T1
noncomputable def pf1_T0 : Tr := step Tryd.prog polP pf1
/- call 7 -/
def pf1_o0 : Out := (.d (.s [105, 110, 99, 108, 117, 100, 101, 32, 34, 98, 34, 10, 110, 97, 109, 101, 115, 112, 97, 99, 101, 32, 42, 32, 120, 46, 121, 10]), [])
theorem pf1_c0 : runN Tryd.prog polP 100 (hdT pf1_T0) = some pf1_o0 := by kernel_rfl
noncomputable def pf1_T1 : Tr := tlT pf1_T0 pf1_o0
noncomputable def pf2 : Task := hdT pf1_T1
noncomputable def pf2_T0 : Tr := step Tryd.prog polP pf2
/- call 7 -/
def pf2_o0 : Out := (.d (.s [99, 111, 110, 115, 116, 32, 108, 105, 115, 116, 60, 105, 56, 62, 32, 99, 32, 61, 32, 91, 55, 44, 32, 55, 93, 10]), [])
theorem pf2_c0 : runN Tryd.prog polP 100 (hdT pf2_T0) = some pf2_o0 := by kernel_rfl
noncomputable def pf2_T1 : Tr := tlT pf2_T0 pf2_o0
noncomputable def pf3 : Task := hdT pf2_T1
noncomputable def pf3_T0 : Tr := step Tryd.prog polP pf3
/- call 7 -/
def pf3_o0 : Out := (.d (.s [101, 110, 117, 109, 32, 69, 32, 123, 10, 32, 32, 65, 44, 10, 32, 32, 66, 32, 61, 32, 45, 51, 44, 10, 125, 10]), [])
theorem pf3_c0 : runN Tryd.prog polP 100 (hdT pf3_T0) = some pf3_o0 := by kernel_rfl
noncomputable def pf3_T1 : Tr := tlT pf3_T0 pf3_o0
noncomputable def pf4 : Task := hdT pf3_T1
noncomputable def pf4_T0 : Tr := step Tryd.prog polP pf4
/- call 7 -/
def pf4_o0 : Out := (.d (.s [117, 110, 105, 111, 110, 32, 85, 32, 123, 10, 32, 32, 50, 58, 32, 111, 112, 116, 105, 111, 110, 97, 108, 32, 105, 56, 32, 97, 32, 61, 32, 55, 44, 10, 32, 32, 98, 46, 67, 32, 100, 44, 10, 125, 10]), [])
theorem pf4_c0 : runN Tryd.prog polP 100 (hdT pf4_T0) = some pf4_o0 := by kernel_rfl
noncomputable def pf4_T1 : Tr := tlT pf4_T0 pf4_o0
noncomputable def pf5 : Task := hdT pf4_T1
noncomputable def pf5_T0 : Tr := step Tryd.prog polP pf5
/- call 7 -/
def pf5_o0 : Out := (.d (.s [115, 101, 114, 118, 105, 99, 101, 32, 83, 32, 101, 120, 116, 101, 110, 100, 115, 32, 98, 46, 84, 32, 123, 10, 32, 32, 111, 110, 101, 119, 97, 121, 32, 118, 111, 105, 100, 32, 109, 40, 41, 44, 10, 32, 32, 105, 56, 32, 110, 40, 49, 58, 32, 105, 56, 32, 97, 44, 32, 105, 56, 32, 98, 41, 32, 116, 104, 114, 111, 119, 115, 32, 40, 49, 58, 32, 88, 32, 120, 41, 44, 10, 125, 10, 101, 120, 99, 101, 112, 116, 105, 111, 110, 32, 88, 32, 123, 10, 125, 10]), [])
theorem pf5_c0 : runN Tryd.prog polP 100 (hdT pf5_T0) = some pf5_o0 := by kernel_rfl
noncomputable def pf5_T1 : Tr := tlT pf5_T0 pf5_o0
noncomputable def pf6 : Task := hdT pf5_T1
noncomputable def pf6_T0 : Tr := step Tryd.prog polP pf6
/- call 8 -/
def pf6_o0 : Out := (.d (.s [39, 97, 34, 98, 39]), [])
theorem pf6_c0 : runN Tryd.prog polP 100 (hdT pf6_T0) = some pf6_o0 := by kernel_rfl
noncomputable def pf6_T1 : Tr := tlT pf6_T0 pf6_o0
/- call 8 -/
def pf6_o1 : Out := (.d (.s [123, 55, 58, 32, 55, 44, 32, 55, 58, 32, 55, 125]), [])
theorem pf6_c1 : runN Tryd.prog polP 100 (hdT pf6_T1) = some pf6_o1 := by kernel_rfl
noncomputable def pf6_T2 : Tr := tlT pf6_T1 pf6_o1
/- call 8 -/
def pf6_o2 : Out := (.d (.s [49, 46, 48, 101, 48]), [])
theorem pf6_c2 : runN Tryd.prog polP 100 (hdT pf6_T2) = some pf6_o2 := by kernel_rfl
noncomputable def pf6_T3 : Tr := tlT pf6_T2 pf6_o2
def pf6_o : Out := (.d (.b true), [])
theorem pf6_h : run Tryd.prog polP pf6 = some pf6_o := by
  rw [run_eq]
  exact (interp_hd (by kernel_rfl) (run_of_N pf6_c0) (interp_hd (by kernel_rfl) (run_of_N pf6_c1) (interp_hd (by kernel_rfl) (run_of_N pf6_c2) (by kernel_rfl))))
noncomputable def pf5_T2 : Tr := tlT pf5_T1 pf6_o
def pf5_o : Out := (.d (.b true), [])
theorem pf5_h : run Tryd.prog polP pf5 = some pf5_o := by
  rw [run_eq]
  exact (interp_hd (by kernel_rfl) (run_of_N pf5_c0) (interp_hd (by kernel_rfl) pf6_h (by kernel_rfl)))
noncomputable def pf4_T2 : Tr := tlT pf4_T1 pf5_o
def pf4_o : Out := (.d (.b true), [])
theorem pf4_h : run Tryd.prog polP pf4 = some pf4_o := by
  rw [run_eq]
  exact (interp_hd (by kernel_rfl) (run_of_N pf4_c0) (interp_hd (by kernel_rfl) pf5_h (by kernel_rfl)))
noncomputable def pf3_T2 : Tr := tlT pf3_T1 pf4_o
def pf3_o : Out := (.d (.b true), [])
theorem pf3_h : run Tryd.prog polP pf3 = some pf3_o := by
  rw [run_eq]
  exact (interp_hd (by kernel_rfl) (run_of_N pf3_c0) (interp_hd (by kernel_rfl) pf4_h (by kernel_rfl)))
noncomputable def pf2_T2 : Tr := tlT pf2_T1 pf3_o
def pf2_o : Out := (.d (.b true), [])
theorem pf2_h : run Tryd.prog polP pf2 = some pf2_o := by
  rw [run_eq]
  exact (interp_hd (by kernel_rfl) (run_of_N pf2_c0) (interp_hd (by kernel_rfl) pf3_h (by kernel_rfl)))
noncomputable def pf1_T2 : Tr := tlT pf1_T1 pf2_o
def pf1_o : Out := (.d (.b true), [])
theorem pf1_h : run Tryd.prog polP pf1 = some pf1_o := by
  rw [run_eq]
  exact (interp_hd (by kernel_rfl) (run_of_N pf1_c0) (interp_hd (by kernel_rfl) pf2_h (by kernel_rfl)))
noncomputable def pf0_T2 : Tr := tlT pf0_T1 pf1_o
def pf0_o : Out := (.d (.b true), [])
theorem pf0_h : run Tryd.prog polP pf0 = some pf0_o := by
  rw [run_eq]
  exact (interp_hd (by kernel_rfl) (run_of_N pf0_c0) (interp_hd (by kernel_rfl) pf1_h (by kernel_rfl)))
theorem print_forms : run Tryd.prog polP (.call 3 [] []) = some (.d (.b true), []) := pf0_h
end Go.Dn.Dec
