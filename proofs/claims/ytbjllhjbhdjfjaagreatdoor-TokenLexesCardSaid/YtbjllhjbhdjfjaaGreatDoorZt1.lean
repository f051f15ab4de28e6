/- token: which words a text has, in plain terms; that places rise. -/
import Derived.Test.YtbjllhjbhdjfjaaGreatDoorZe2
import Derived.Test.YtbjllhjbhdjfjaaGreatDoorZe4
import Derived.Test.YtbjllhjbhdjfjaaGreatDoorDn4
import Derived.Test.YtbjllhjbhdjfjaaGreatDoorZe1
namespace Go.Dn.Dec
structure Tok where
 kind : Nat
 text : List UInt8
 n : Int
 d : Nat
 at_ : Nat
def spB (c : UInt8) : Bool := c == 9 || c == 10 || c == 13 || c == 32
def letB (c : UInt8) : Bool := c == 95 || (decide (97 ≤ c.toNat) && decide (c.toNat ≤ 122)) || (decide (65 ≤ c.toNat) && decide (c.toNat ≤ 90))
def hexB (c : UInt8) : Bool := isDig c || (decide (97 ≤ c.toNat) && decide (c.toNat ≤ 102)) || (decide (65 ≤ c.toNat) && decide (c.toNat ≤ 70))
def nameB (c : UInt8) : Bool := letB c || isDig c || c == 46
def lineN (r : List UInt8) : Nat := if r.dropWhile (· != 10) = [] then r.length else (r.takeWhile (· != 10)).length + 1
def endN : List UInt8 → Option Nat
 | [] => none
 | c :: r => if c = 42 ∧ r.head? = some 47 then some 2 else (endN r).map (· + 1)
def skipF : Nat → List UInt8 → Nat → Nat × Bool
 | 0, _, k => (k, true)
 | f + 1, r, k => match r with
  | [] => (k, true)
  | c :: q =>
   if spB c = true then skipF f q (k + 1)
   else if c = 35 ∨ (c = 47 ∧ q.head? = some 47) then skipF f (r.drop (lineN r)) (k + lineN r)
   else if c = 47 ∧ q.head? = some 42 then
    match endN (q.drop 1) with
    | none => (k, false)
    | some n => skipF f (r.drop (2 + n)) (k + (2 + n))
   else (k, true)
abbrev WdR := (Tok × Nat) ⊕ (Int × Nat)
def dotsB : List UInt8 → Bool
 | [] => false
 | c :: r => (c == 46 && r.head? == some 46) || dotsB r
def nameW (r : List UInt8) (at_ : Nat) : WdR :=
 let w := r.takeWhile nameB
 if 120 < w.length then .inr (4, at_)
 else if w.getLast? = some 46 ∨ dotsB w = true then .inr (2, at_)
 else .inl (⟨1, w, 0, 0, at_⟩, w.length)
def behW (r : List UInt8) (n at_ : Nat) (t : Tok) : WdR :=
 match r.drop n with
 | [] => .inl (t, n)
 | c :: _ => if (letB c || c == 46) = true then .inr (2, at_ + n) else .inl (t, n)
def hexW (r : List UInt8) (at_ : Nat) : WdR :=
 let h := (r.drop 2).takeWhile hexB
 if 16 < h.length then .inr (4, at_)
 else if 2 ^ 63 ≤ hexV h then .inr (5, at_)
 else behW r (2 + h.length) at_ ⟨2, [], (hexV h : Int), 0, at_⟩
def fracN (t : List UInt8) : Nat :=
 match t with
 | c :: d :: q => if c = 46 ∧ isDig d = true then 1 + ((d :: q).takeWhile isDig).length else 0
 | _ => 0
def expK (q : List UInt8) : Nat :=
 match q with
 | d :: _ => if d = 43 ∨ d = 45 then 2 else 1
 | [] => 1
def expN (t : List UInt8) : Nat :=
 match t with
 | [] => 0
 | c :: q => if c = 101 ∨ c = 69 then (if ((t.drop (expK q)).takeWhile isDig) = [] then 0 else expK q + ((t.drop (expK q)).takeWhile isDig).length) else 0
def signN (r : List UInt8) : Nat :=
 match r with
 | c :: _ => if c = 43 ∨ c = 45 then 1 else 0
 | [] => 0
def wholeB (neg : Bool) (v : Nat) : Int × Bool := if neg = true then (-(v : Int), decide (v ≤ 2 ^ 63)) else ((v : Int), decide (v < 2 ^ 63))
def numW (r : List UInt8) (at_ : Nat) : WdR :=
 let sg := signN r
 let u := r.drop sg
 if sg = 0 ∧ r.head? = some 48 ∧ (r.drop 1).head? = some 120 ∧ ((r.drop 2).takeWhile hexB) ≠ [] then hexW r at_
 else if u.takeWhile isDig = [] ∧ fracN u = 0 then .inr (2, at_)
 else
  let ds := u.takeWhile isDig
  let a := fracN (u.drop ds.length)
  let b := expN (u.drop (ds.length + a))
  let n := sg + (ds.length + (a + b))
  if a = 0 ∧ b = 0 then
   let v := wholeB (r.head? == some 45) (numB ds)
   if 60 < ds.length then .inr (4, at_)
   else if v.2 = false then .inr (5, at_)
   else behW r n at_ ⟨2, [], v.1, 0, at_⟩
  else
   let p := parseB (r.take n)
   if p.2 ≠ 0 then .inr (p.2, at_) else behW r n at_ ⟨3, [], 0, p.1, at_⟩
def textW (q : UInt8) (r : List UInt8) (at_ : Nat) : WdR :=
 let t := r.takeWhile (· != q)
 if r.dropWhile (· != q) = [] ∨ t.contains 10 = true then .inr (2, at_)
 else .inl (⟨4, t, 0, 0, at_⟩, t.length + 2)
def signsB : List UInt8 := [123, 125, 40, 41, 91, 93, 60, 62, 44, 59, 58, 61, 42]
def wordW (r : List UInt8) (at_ : Nat) : WdR :=
 match r with
 | [] => .inr (2, at_)
 | c :: q =>
  if letB c = true then nameW r at_
  else if isDig c = true ∨ c = 43 ∨ c = 45 ∨ c = 46 then numW r at_
  else if c = 34 ∨ c = 39 then textW c q at_
  else if signsB.contains c = true then .inl (⟨5, [c], 0, 0, at_⟩, 1)
  else .inr (2, at_)
abbrev LxR := List Tok × Int × Nat
def lexF : Nat → List UInt8 → Nat → List Tok → LxR
 | 0, _, _, _ => ([], 0, 0)
 | f + 1, r, at_, l =>
  match skipF r.length r 0 with
  | (k, false) => ([], 2, at_ + k)
  | (k, true) =>
   if r.length ≤ k then (l ++ [⟨6, [], 0, 0, at_ + r.length⟩], 0, 0)
   else match wordW (r.drop k) (at_ + k) with
    | .inr (e, w) => ([], e, w)
    | .inl (t, n) => lexF f (r.drop (k + n)) (at_ + k + n) (l ++ [t])
def lexB (s : List UInt8) : LxR := if 2000 < s.length then ([], 4, 0) else lexF (s.length + 1) s 0 []
end Go.Dn.Dec
namespace Go.Dn.Dec
theorem take_self {α : Type} (l : List α) (p : α → Bool) : l.takeWhile p = l.take (l.takeWhile p).length := by
 induction l with
 | nil => rfl
 | cons c l ih =>
  rw [List.takeWhile_cons]
  split
  ·rw [List.length_cons, List.take_succ_cons, ← ih]
  ·rfl
theorem tw_len {α : Type} (l : List α) (p : α → Bool) : (l.takeWhile p).length ≤ l.length := (List.takeWhile_sublist p).length_le
def WdOk (r : List UInt8) (at_ : Nat) (w : WdR) : Prop :=
 match w with
 | .inl (t, n) => t.at_ = at_ ∧ 1 ≤ n ∧ n ≤ r.length ∧ t.kind ≠ 6 ∧ ((t.kind = 1 ∨ t.kind = 5) → t.text.length ≤ n ∧ t.text = r.take t.text.length)
 | .inr (e, w) => e ≠ 0 ∧ at_ ≤ w ∧ w ≤ at_ + r.length
theorem beh_ok (r : List UInt8) (n at_ : Nat) (t : Tok) (h0 : t.at_ = at_) (h1 : 1 ≤ n) (h2 : n ≤ r.length) (h3 : t.kind = 2 ∨ t.kind = 3) : WdOk r at_ (behW r n at_ t) := by
 have hk : t.kind ≠ 6 ∧ ¬ (t.kind = 1 ∨ t.kind = 5) := by omega
 unfold behW
 split
 ·exact ⟨h0, h1, h2, hk.1, fun h => absurd h hk.2⟩
 ·split
  ·exact ⟨by decide, by omega, by omega⟩
  ·exact ⟨h0, h1, h2, hk.1, fun h => absurd h hk.2⟩
theorem fracN_le (t : List UInt8) : fracN t ≤ t.length := by
 unfold fracN
 split
 ·rename_i c d q
  split
  ·have := tw_len (d :: q) isDig
   rw [List.length_cons]; omega
  ·omega
 ·omega
theorem expN_le (t : List UInt8) : expN t ≤ t.length := by
 unfold expN
 split
 ·exact Nat.le_refl _
 ·rename_i c q
  split
  ·split
   ·omega
   ·rename_i h
    have h1 := tw_len ((c :: q).drop (expK q)) isDig
    rw [List.length_drop] at h1
    have h2 : 0 < (((c :: q).drop (expK q)).takeWhile isDig).length := List.length_pos_iff.2 h
    omega
  ·omega
theorem signN_le (r : List UInt8) : signN r ≤ r.length := by
 unfold signN
 split
 ·split
  ·rw [List.length_cons]; omega
  ·omega
 ·exact Nat.le_refl _
theorem hex_ok (r : List UInt8) (at_ : Nat) (h : (r.drop 2).takeWhile hexB ≠ []) : WdOk r at_ (hexW r at_) := by
 have h1 := tw_len (r.drop 2) hexB
 have h2 : 0 < ((r.drop 2).takeWhile hexB).length := List.length_pos_iff.2 h
 rw [List.length_drop] at h1
 unfold hexW
 simp only
 split
 ·exact ⟨by decide, by omega, by omega⟩
 ·split
  ·exact ⟨by decide, by omega, by omega⟩
  ·exact beh_ok r _ at_ _ rfl (by omega) (by omega) (Or.inl rfl)
theorem num_ok (r : List UInt8) (at_ : Nat) : WdOk r at_ (numW r at_) := by
 have s1 := signN_le r
 unfold numW
 simp only
 generalize signN r = sg at *
 split
 ·rename_i h; exact hex_ok r at_ h.2.2.2
 ·split
  ·exact ⟨by decide, by omega, by omega⟩
  ·rename_i hne
   have h1 := tw_len (r.drop sg) isDig
   have h2 := fracN_le ((r.drop sg).drop ((r.drop sg).takeWhile isDig).length)
   have h3 := expN_le ((r.drop sg).drop (((r.drop sg).takeWhile isDig).length + fracN ((r.drop sg).drop ((r.drop sg).takeWhile isDig).length)))
   rw [List.length_drop] at h1
   rw [List.length_drop, List.length_drop] at h2 h3
   have h4 : 1 ≤ ((r.drop sg).takeWhile isDig).length + fracN ((r.drop sg).drop ((r.drop sg).takeWhile isDig).length) := by
    by_cases h : (r.drop sg).takeWhile isDig = []
    ·rw [h, List.length_nil, List.drop_zero]
     have : fracN (r.drop sg) ≠ 0 := fun e => hne ⟨h, e⟩
     omega
    ·have := List.length_pos_iff.2 h; omega
   generalize expN ((r.drop sg).drop (((r.drop sg).takeWhile isDig).length + fracN ((r.drop sg).drop ((r.drop sg).takeWhile isDig).length))) = b at *
   generalize fracN ((r.drop sg).drop ((r.drop sg).takeWhile isDig).length) = a at *
   split
   ·split
    ·exact ⟨by decide, by omega, by omega⟩
    ·split
     ·exact ⟨by decide, by omega, by omega⟩
     ·exact beh_ok r _ at_ _ rfl (by omega) (by omega) (Or.inl rfl)
   ·split
    ·rename_i he; exact ⟨he, by omega, by omega⟩
    ·exact beh_ok r _ at_ _ rfl (by omega) (by omega) (Or.inr rfl)
theorem word_ok (r : List UInt8) (at_ : Nat) : WdOk r at_ (wordW r at_) := by
 unfold wordW
 split
 ·exact ⟨by decide, by omega, by omega⟩
 ·rename_i c q
  split
  ·rename_i hl
   have h1 := tw_len (c :: q) nameB
   have h2 : 0 < ((c :: q).takeWhile nameB).length := by
    rw [List.takeWhile_cons, show nameB c = true by unfold nameB; rw [hl]; rfl, if_pos rfl, List.length_cons]; omega
   unfold nameW
   simp only
   split
   ·exact ⟨by decide, by omega, by omega⟩
   ·split
    ·exact ⟨by decide, by omega, by omega⟩
    ·exact ⟨rfl, h2, h1, (show (1 : Nat) ≠ 6 by decide), fun _ => ⟨Nat.le_refl _, take_self _ _⟩⟩
  ·split
   ·exact num_ok _ _
   ·split
    ·unfold textW
     simp only
     split
     ·exact ⟨by decide, by omega, by omega⟩
     ·rename_i h
      have h1 : (q.takeWhile (· != c)).length + (q.dropWhile (· != c)).length = q.length := by
       have := congrArg List.length (List.takeWhile_append_dropWhile (p := (· != c)) (l := q))
       rwa [List.length_append] at this
      have h2 : 0 < (q.dropWhile (· != c)).length := List.length_pos_iff.2 fun e => h (Or.inl e)
      exact ⟨rfl, by omega, by rw [List.length_cons]; omega, (show (4 : Nat) ≠ 6 by decide), fun h => absurd h (show ¬ ((4 : Nat) = 1 ∨ (4 : Nat) = 5) by decide)⟩
    ·split
     ·exact ⟨rfl, Nat.le_refl _, by rw [List.length_cons]; omega, (show (5 : Nat) ≠ 6 by decide), fun _ => ⟨Nat.le_refl _, rfl⟩⟩
     ·exact ⟨by decide, by omega, by omega⟩
theorem lineN_le (r : List UInt8) : lineN r ≤ r.length ∧ (r ≠ [] → 1 ≤ lineN r) := by
 have h1 : (r.takeWhile (· != 10)).length + (r.dropWhile (· != 10)).length = r.length := by
  have := congrArg List.length (List.takeWhile_append_dropWhile (p := (· != (10 : UInt8))) (l := r))
  rwa [List.length_append] at this
 unfold lineN
 split
 ·refine ⟨Nat.le_refl _, fun h => ?_⟩
  have := List.length_pos_iff.2 h; omega
 ·rename_i h
  have h2 : 0 < (r.dropWhile (· != 10)).length := List.length_pos_iff.2 h
  exact ⟨by omega, fun _ => by omega⟩
theorem endN_le : ∀ (r : List UInt8) (n : Nat), endN r = some n → n ≤ r.length
 | [], n, h => by cases h
 | c :: r, n, h => by
  unfold endN at h
  split at h
  ·rename_i hc
   cases r with
   | nil => simp at hc
   | cons d r => cases h; simp
  ·cases he : endN r with
   | none => rw [he] at h; cases h
   | some m =>
    rw [he] at h
    have := endN_le r m he
    have e : m + 1 = n := Option.some.inj h
    rw [List.length_cons]; omega
theorem skip_ok : ∀ (f : Nat) (r : List UInt8) (k : Nat), k ≤ (skipF f r k).1 ∧ (skipF f r k).1 ≤ k + r.length
 | 0, r, k => ⟨Nat.le_refl _, by simp [skipF]⟩
 | f + 1, [], k => ⟨by simp [skipF], by simp [skipF]⟩
 | f + 1, c :: q, k => by
  unfold skipF
  simp only
  split
  ·have := skip_ok f q (k + 1)
   rw [List.length_cons]; omega
  ·split
   ·have h1 := (lineN_le (c :: q)).1
    have := skip_ok f ((c :: q).drop (lineN (c :: q))) (k + lineN (c :: q))
    rw [List.length_drop] at this
    omega
   ·split
    ·split
     ·exact ⟨Nat.le_refl _, by omega⟩
     ·rename_i hc _ n he
      have h1 := endN_le _ _ he
      rw [List.length_drop] at h1
      have h2 : 1 ≤ q.length := by
       cases q with
       | nil => exact absurd hc.2 (by decide)
       | cons d q => rw [List.length_cons]; omega
      have := skip_ok f ((c :: q).drop (2 + n)) (k + (2 + n))
      rw [List.length_drop, List.length_cons] at this
      rw [List.length_cons]; omega
    ·exact ⟨Nat.le_refl _, by omega⟩
def TxtOk (s : List UInt8) (t : Tok) : Prop := (t.kind = 1 ∨ t.kind = 5) → t.at_ + t.text.length ≤ s.length ∧ t.text = (s.drop t.at_).take t.text.length
def Good (s : List UInt8) (l : List Tok) (at_ : Nat) : Prop := (∀ t ∈ l, t.kind ≠ 6 ∧ TxtOk s t ∧ t.at_ < at_) ∧ l.Pairwise fun a b => a.at_ < b.at_
theorem lexF_ok (s : List UInt8) : ∀ (f at_ : Nat) (l : List Tok), s.length - at_ < f → at_ ≤ s.length → Good s l at_ →
  (∃ l', Good s l' s.length ∧ lexF f (s.drop at_) at_ l = (l' ++ [⟨6, [], 0, 0, s.length⟩], 0, 0)) ∨ (∃ e w, lexF f (s.drop at_) at_ l = ([], e, w) ∧ e ≠ 0 ∧ w ≤ s.length)
 | 0, at_, l, h, _, _ => by omega
 | f + 1, at_, l, h, ha, hg => by
  have hk := skip_ok (s.drop at_).length (s.drop at_) 0
  have hlen : (s.drop at_).length = s.length - at_ := List.length_drop ..
  unfold lexF
  generalize skipF (s.drop at_).length (s.drop at_) 0 = K at hk ⊢
  obtain ⟨k, b⟩ := K
  simp only at hk
  rw [hlen] at hk ⊢
  cases b with
  | false => exact Or.inr ⟨2, at_ + k, rfl, by decide, by omega⟩
  | true =>
   simp only
   split
   ·refine Or.inl ⟨l, ⟨fun t ht => ⟨(hg.1 t ht).1, (hg.1 t ht).2.1, ?_⟩, hg.2⟩, ?_⟩
    ·have := (hg.1 t ht).2.2; omega
    ·rw [show at_ + (s.length - at_) = s.length by omega]
   ·rename_i hr
    rw [List.drop_drop]
    have hw := word_ok (s.drop (at_ + k)) (at_ + k)
    have hl2 : (s.drop (at_ + k)).length = s.length - (at_ + k) := List.length_drop ..
    cases hww : wordW (s.drop (at_ + k)) (at_ + k) with
    | inr x =>
     obtain ⟨e, w⟩ := x
     rw [hww] at hw
     obtain ⟨w1, w2, w3⟩ := hw
     exact Or.inr ⟨e, w, rfl, w1, by omega⟩
    | inl x =>
     obtain ⟨t, n⟩ := x
     rw [hww] at hw
     obtain ⟨w1, w2, w3, w4, w5⟩ := hw
     simp only
     rw [List.drop_drop, show at_ + (k + n) = at_ + k + n by omega]
     refine lexF_ok s f (at_ + k + n) (l ++ [t]) (by omega) (by omega) ⟨fun u hu => ?_, ?_⟩
     ·rcases List.mem_append.1 hu with hu | hu
      ·have := hg.1 u hu
       exact ⟨this.1, this.2.1, by omega⟩
      ·rw [List.mem_singleton] at hu
       subst hu
       refine ⟨w4, fun hk => ?_, by omega⟩
       obtain ⟨a, b⟩ := w5 hk
       rw [w1]
       exact ⟨by omega, b⟩
     ·rw [List.pairwise_append]
      refine ⟨hg.2, List.pairwise_singleton _ _, fun a ha b hb => ?_⟩
      rw [List.mem_singleton] at hb
      subst hb
      have := (hg.1 a ha).2.2
      omega
theorem lex_places (s : List UInt8) : (∃ l', Good s l' s.length ∧ lexB s = (l' ++ [⟨6, [], 0, 0, s.length⟩], 0, 0)) ∨ (∃ e w, lexB s = ([], e, w) ∧ e ≠ 0 ∧ w ≤ s.length) := by
 unfold lexB
 split
 ·exact Or.inr ⟨4, 0, rfl, by decide, by omega⟩
 ·have := lexF_ok s (s.length + 1) 0 [] (by omega) (by omega) ⟨fun t h => by simp at h, List.Pairwise.nil⟩
  rwa [List.drop_zero] at this
end Go.Dn.Dec
namespace Go.Dn.Dec
open Go.Proofs
def lxO (s : List UInt8) (a e w : Int) (b : Bool) (l : List D) : Ob := .cells [.d (.s s), .d (.i .i64 a), .d (.i .i64 e), .d (.i .i64 w), .d (.l b l)] [(4, 5)]
theorem letter_s (c : UInt8) : rk Tryz.prog pol (Task.call 89 [V.d (D.i .u8 (c.toNat : Int))] []) = some (.d (.b (letB c)), []) := by
 rw [t44]
 have e95 : ((c.toNat : Int) == 95) = (c == 95) := by
  by_cases h : c = 95
  ·subst h; rfl
  ·have : c.toNat ≠ 95 := fun e => h (UInt8.toNat_inj.1 e)
   rw [beq_eq_false_iff_ne.2 (by omega), beq_eq_false_iff_ne.2 h]
 unfold letB
 rw [e95]
 cases h95 : (c == 95) with
 | true => rw [st_T, interp_ret]; rfl
 | false =>
  rw [st_F, Bool.false_or]
  have d90 : decide ((c.toNat : Int) ≤ 90) = decide (c.toNat ≤ 90) := by congr 1; exact propext (by omega)
  by_cases h1 : 97 ≤ c.toNat
  ·rw [st_t (by omega)]
   by_cases h2 : c.toNat ≤ 122
   ·rw [st_t (by omega), interp_ret, decide_eq_true h1, decide_eq_true h2]; rfl
   ·rw [st_f (by omega), st_t (by omega), interp_ret, d90, decide_eq_true h1, decide_eq_false h2, decide_eq_true (show 65 ≤ c.toNat by omega)]; rfl
  ·rw [st_f (by omega), decide_eq_false h1]
   by_cases h3 : 65 ≤ c.toNat
   ·rw [st_t (by omega), interp_ret, d90, decide_eq_true h3]; rfl
   ·rw [st_f (by omega), interp_ret, decide_eq_false h3]; rfl
theorem digit_s (c : UInt8) : rk Tryz.prog pol (Task.call 91 [V.d (D.i .u8 (c.toNat : Int))] []) = some (.d (.b (isDig c)), []) := by
 rw [t46]
 unfold isDig
 have d57 : decide ((c.toNat : Int) ≤ 57) = decide (c.toNat ≤ 57) := by congr 1; exact propext (by omega)
 by_cases h : 48 ≤ c.toNat
 ·rw [st_t (by omega), interp_ret, d57, decide_eq_true h]; rfl
 ·rw [st_f (by omega), interp_ret, decide_eq_false h]; rfl
theorem peek_s (s : List UInt8) (a n : Nat) (e w : Int) (b : Bool) (l : List D) (ha : a + n ≤ 1000000) : rk Tryz.prog pol (Task.call 86 [V.p 0 0, V.d (D.i .i64 (n : Int))] [lxO s a e w b l]) =
  some (.d (.i .u8 (((s.drop a).getD n 0).toNat : Int)), [lxO s a e w b l]) := by
 have hw : IntKind.i64.wrap ((a : Int) + (n : Int)) = ((a + n : Nat) : Int) := by rw [wrap_i64] <;> omega
 unfold lxO
 rw [t41, hw]
 by_cases h : a + n < s.length
 ·have g : getI s ((a + n : Nat) : Int) = some ((s.drop a).getD n 0) := by
   rw [getI_nat, List.getD_eq_getElem?_getD, List.getElem?_drop, List.getElem?_eq_getElem h]; rfl
  rw [st_f (by omega), st_ob g, interp_ret]
 ·have g : (s.drop a).getD n 0 = 0 := by
   rw [List.getD_eq_getElem?_getD, List.getElem?_drop, List.getElem?_eq_none (by omega)]; rfl
  rw [st_t (by omega), interp_ret, g]; rfl
theorem fails_s (s : List UInt8) (a e w n m : Int) (b : Bool) (l : List D) : rk Tryz.prog pol (Task.call 88 [V.p 0 0, V.d (D.i .i64 n), V.d (D.i .i64 m)] [lxO s a e w b l]) =
  some (.t [], [lxO s a (if e = 0 then n else e) (if e = 0 then m else w) b l]) := by
 unfold lxO
 rw [t43]
 by_cases h : e = 0
 ·rw [st_eq h, interp_ret, if_pos h, if_pos h]
 ·rw [st_ne h, interp_ret, if_neg h, if_neg h]
end Go.Dn.Dec
namespace Go.Dn.Dec
open Go.Proofs
theorem run_digit (e w : Int) (b : Bool) (l : List D) : ∀ (r p : List UInt8), (p ++ r).length ≤ 1000000 →
  rk Tryz.prog pol (Task.at_ 136 1 [false] (sv 34 [(0, V.p 0 0), (1, V.f 91 [])]) [] [lxO (p ++ r) (p.length : Int) e w b l]) = some (.t [], [lxO (p ++ r) ((p.length + (r.takeWhile isDig).length : Nat) : Int) e w b l])
 | [], p, hl => by
  unfold lxO
  rw [List.append_nil, t79_at2_1, st_f (by omega), interp_call_ret, t79_at24_1, st_F, interp_ret]; rfl
 | c :: r, p, hl => by
  have hi : p.length < (p ++ c :: r).length := by simp
  have g : getI (p ++ c :: r) (p.length : Int) = some c := by rw [getI_nat]; simp
  have hpl : (p ++ [c]).length = p.length + 1 := by simp
  have hlen : p.length + (r.length + 1) ≤ 1000000 := by simpa using hl
  have w1 : IntKind.i64.wrap ((p.length : Int) + 1) = (((p ++ [c]).length : Nat) : Int) := by rw [hpl, wrap_i64] <;> omega
  have ih := run_digit e w b l r (p ++ [c]) (by simpa using hl)
  rw [List.append_assoc, List.singleton_append] at ih
  unfold lxO at ih ⊢
  rw [t79_at2_1, st_t (by omega), st_ob g, st_B (digit_s c), interp_call_ret, t79_at24_1]
  cases hd : isDig c with
  | true =>
   rw [st_T, w1, interp_call_ret, ih, List.takeWhile_cons, hd, if_pos rfl, List.length_cons, hpl, show p.length + 1 + (r.takeWhile isDig).length = p.length + ((r.takeWhile isDig).length + 1) by omega]
  | false =>
   rw [st_F, interp_ret, List.takeWhile_cons, hd, if_neg (by decide)]; rfl
theorem run_digit_s (s : List UInt8) (a : Nat) (ha : a ≤ s.length) (hs : s.length ≤ 1000000) (e w : Int) (b : Bool) (l : List D) :
  rk Tryz.prog pol (Task.call 136 [V.p 0 0, V.f 91 []] [lxO s (a : Int) e w b l]) = some (.t [], [lxO s ((a + ((s.drop a).takeWhile isDig).length : Nat) : Int) e w b l]) := by
 have h := run_digit e w b l (s.drop a) (s.take a) (by rw [List.take_append_drop]; exact hs)
 rw [List.take_append_drop, List.length_take, Nat.min_eq_left ha] at h
 unfold lxO at h ⊢
 rw [t79d, interp_call_ret]
 exact h
theorem hex_s (c : UInt8) : rk Tryz.prog pol (Task.call 139 [V.d (D.i .u8 (c.toNat : Int))] []) = some (.d (.b (hexB c)), []) := by
 rw [t82, st_B (digit_s c)]
 unfold hexB
 have d70 : decide ((c.toNat : Int) ≤ 70) = decide (c.toNat ≤ 70) := by congr 1; exact propext (by omega)
 cases hd : isDig c with
 | true => rw [st_T, interp_ret]; rfl
 | false =>
  rw [st_F, Bool.false_or]
  by_cases h1 : 97 ≤ c.toNat
  ·rw [st_t (by omega)]
   by_cases h2 : c.toNat ≤ 102
   ·rw [st_t (by omega), interp_ret, decide_eq_true h1, decide_eq_true h2]; rfl
   ·rw [st_f (by omega), st_t (by omega), interp_ret, d70, decide_eq_true h1, decide_eq_false h2, decide_eq_true (show 65 ≤ c.toNat by omega)]; rfl
  ·rw [st_f (by omega), decide_eq_false h1]
   by_cases h3 : 65 ≤ c.toNat
   ·rw [st_t (by omega), interp_ret, d70, decide_eq_true h3]; rfl
   ·rw [st_f (by omega), interp_ret, decide_eq_false h3]; rfl
theorem nm_s (c : UInt8) : rk Tryz.prog pol (Task.call 137 [V.d (D.i .u8 (c.toNat : Int))] []) = some (.d (.b (nameB c)), []) := by
 rw [t80, st_B (letter_s c)]
 unfold nameB
 have e46 : ((c.toNat : Int) == 46) = (c == 46) := by
  by_cases h : c = 46
  ·subst h; rfl
  ·have : c.toNat ≠ 46 := fun e => h (UInt8.toNat_inj.1 e)
   rw [beq_eq_false_iff_ne.2 (by omega), beq_eq_false_iff_ne.2 h]
 cases hl : letB c with
 | true => rw [st_T, interp_ret]; rfl
 | false =>
  rw [st_F, st_B (digit_s c)]
  cases hd : isDig c with
  | true => rw [st_T, interp_ret]; rfl
  | false => rw [st_F, interp_ret, e46]; rfl
theorem run_hex (e w : Int) (b : Bool) (l : List D) : ∀ (r p : List UInt8), (p ++ r).length ≤ 1000000 →
  rk Tryz.prog pol (Task.at_ 136 1 [false] (sv 34 [(0, V.p 0 0), (1, V.f 139 [])]) [] [lxO (p ++ r) (p.length : Int) e w b l]) = some (.t [], [lxO (p ++ r) ((p.length + (r.takeWhile hexB).length : Nat) : Int) e w b l])
 | [], p, hl => by
  unfold lxO
  rw [List.append_nil, t79_at2_2, st_f (by omega), interp_call_ret, t79_at24_2, st_F, interp_ret]; rfl
 | c :: r, p, hl => by
  have hi : p.length < (p ++ c :: r).length := by simp
  have g : getI (p ++ c :: r) (p.length : Int) = some c := by rw [getI_nat]; simp
  have hpl : (p ++ [c]).length = p.length + 1 := by simp
  have hlen : p.length + (r.length + 1) ≤ 1000000 := by simpa using hl
  have w1 : IntKind.i64.wrap ((p.length : Int) + 1) = (((p ++ [c]).length : Nat) : Int) := by rw [hpl, wrap_i64] <;> omega
  have ih := run_hex e w b l r (p ++ [c]) (by simpa using hl)
  rw [List.append_assoc, List.singleton_append] at ih
  unfold lxO at ih ⊢
  rw [t79_at2_2, st_t (by omega), st_ob g, st_B (hex_s c), interp_call_ret, t79_at24_2]
  cases hd : hexB c with
  | true =>
   rw [st_T, w1, interp_call_ret, ih, List.takeWhile_cons, hd, if_pos rfl, List.length_cons, hpl, show p.length + 1 + (r.takeWhile hexB).length = p.length + ((r.takeWhile hexB).length + 1) by omega]
  | false =>
   rw [st_F, interp_ret, List.takeWhile_cons, hd, if_neg (by decide)]; rfl
theorem run_hex_s (s : List UInt8) (a : Nat) (ha : a ≤ s.length) (hs : s.length ≤ 1000000) (e w : Int) (b : Bool) (l : List D) :
  rk Tryz.prog pol (Task.call 136 [V.p 0 0, V.f 139 []] [lxO s (a : Int) e w b l]) = some (.t [], [lxO s ((a + ((s.drop a).takeWhile hexB).length : Nat) : Int) e w b l]) := by
 have h := run_hex e w b l (s.drop a) (s.take a) (by rw [List.take_append_drop]; exact hs)
 rw [List.take_append_drop, List.length_take, Nat.min_eq_left ha] at h
 unfold lxO at h ⊢
 rw [t79h, interp_call_ret]
 exact h
theorem run_name (e w : Int) (b : Bool) (l : List D) : ∀ (r p : List UInt8), (p ++ r).length ≤ 1000000 →
  rk Tryz.prog pol (Task.at_ 136 1 [false] (sv 34 [(0, V.p 0 0), (1, V.f 137 [])]) [] [lxO (p ++ r) (p.length : Int) e w b l]) = some (.t [], [lxO (p ++ r) ((p.length + (r.takeWhile nameB).length : Nat) : Int) e w b l])
 | [], p, hl => by
  unfold lxO
  rw [List.append_nil, t79_at2, st_f (by omega), interp_call_ret, t79_at24, st_F, interp_ret]; rfl
 | c :: r, p, hl => by
  have hi : p.length < (p ++ c :: r).length := by simp
  have g : getI (p ++ c :: r) (p.length : Int) = some c := by rw [getI_nat]; simp
  have hpl : (p ++ [c]).length = p.length + 1 := by simp
  have hlen : p.length + (r.length + 1) ≤ 1000000 := by simpa using hl
  have w1 : IntKind.i64.wrap ((p.length : Int) + 1) = (((p ++ [c]).length : Nat) : Int) := by rw [hpl, wrap_i64] <;> omega
  have ih := run_name e w b l r (p ++ [c]) (by simpa using hl)
  rw [List.append_assoc, List.singleton_append] at ih
  unfold lxO at ih ⊢
  rw [t79_at2, st_t (by omega), st_ob g, st_B (nm_s c), interp_call_ret, t79_at24]
  cases hd : nameB c with
  | true =>
   rw [st_T, w1, interp_call_ret, ih, List.takeWhile_cons, hd, if_pos rfl, List.length_cons, hpl, show p.length + 1 + (r.takeWhile nameB).length = p.length + ((r.takeWhile nameB).length + 1) by omega]
  | false =>
   rw [st_F, interp_ret, List.takeWhile_cons, hd, if_neg (by decide)]; rfl
theorem run_name_s (s : List UInt8) (a : Nat) (ha : a ≤ s.length) (hs : s.length ≤ 1000000) (e w : Int) (b : Bool) (l : List D) :
  rk Tryz.prog pol (Task.call 136 [V.p 0 0, V.f 137 []] [lxO s (a : Int) e w b l]) = some (.t [], [lxO s ((a + ((s.drop a).takeWhile nameB).length : Nat) : Int) e w b l]) := by
 have h := run_name e w b l (s.drop a) (s.take a) (by rw [List.take_append_drop]; exact hs)
 rw [List.take_append_drop, List.length_take, Nat.min_eq_left ha] at h
 unfold lxO at h ⊢
 rw [t79n, interp_call_ret]
 exact h
end Go.Dn.Dec
namespace Go.Dn.Dec
open Go.Proofs
def behB (s : List UInt8) (a : Nat) : Bool := letB ((s.drop a).getD 0 0) || (s.drop a).getD 0 0 == 46
theorem behind_s (s : List UInt8) (a : Nat) (e w : Int) (b : Bool) (l : List D) (ha : a ≤ 1000000) : rk Tryz.prog pol (Task.call 141 [V.p 0 0] [lxO s (a : Int) e w b l]) =
  some (.t [], [if behB s a = true then lxO s a (if e = 0 then 2 else e) (if e = 0 then (a : Int) else w) b l else lxO s a e w b l]) := by
 have hp := peek_s s a 0 e w b l (by omega)
 rw [Int.natCast_zero] at hp
 have main : ∀ bb : Bool, rk Tryz.prog pol (Task.at_ 141 1 [true, true] (sv 22 [(0, V.p 0 0), (12, V.d (D.b bb))]) [] [lxO s (a : Int) e w b l]) =
   some (.t [], [if bb = true then lxO s a (if e = 0 then 2 else e) (if e = 0 then (a : Int) else w) b l else lxO s a e w b l]) := by
  intro bb
  have hf := fails_s s (a : Int) e w 2 (a : Int) b l
  unfold lxO at hf ⊢
  rw [t84_at7]
  cases bb with
  | false => rw [st_F, interp_ret, if_neg (by decide)]
  | true =>
   rw [st_T, st_ob (a := V.d (D.i .i64 (a : Int))) (by rfl), asD_d]
   rw [interp_asI, if_pos rfl, so_0 hf (by rfl) (by rfl), interp_ret, if_pos rfl]
 have e46 : ((((s.drop a).getD 0 0).toNat : Int) == 46) = ((s.drop a).getD 0 0 == 46) := by
  generalize (s.drop a).getD 0 0 = c
  by_cases h : c = 46
  ·subst h; rfl
  ·have : c.toNat ≠ 46 := fun e => h (UInt8.toNat_inj.1 e)
   rw [beq_eq_false_iff_ne.2 (by omega), beq_eq_false_iff_ne.2 h]
 unfold behB
 unfold lxO at hp main ⊢
 rw [t84, so_I hp (by rfl) (by rfl), st_B (letter_s _)]
 cases hl : letB ((s.drop a).getD 0 0) with
 | true => rw [st_T, interp_call_ret, main, Bool.true_or]
 | false => rw [st_F, interp_call_ret, e46, main, Bool.false_or]
end Go.Dn.Dec
namespace Go.Dn.Dec
open Go.Proofs
theorem findSub_le (t : List UInt8) : ∀ (s : List UInt8) (n : Nat), findSub t s = some n → n ≤ s.length
 | [], n, h => by
  unfold findSub at h
  split at h
  ·cases h; exact Nat.le_refl _
  ·cases h
 | c :: r, n, h => by
  unfold findSub at h
  split at h
  ·cases h; exact Nat.zero_le _
  ·cases he : findSub t r with
   | none => rw [he] at h; cases h
   | some m =>
    rw [he] at h
    have := findSub_le t r m he
    have e : m + 1 = n := Option.some.inj h
    rw [List.length_cons]; omega
theorem until_s (s t : List UInt8) (a : Nat) (e w : Int) (b : Bool) (l : List D) (ha : a ≤ s.length) (hs : s.length ≤ 100000) (ht : t.length ≤ 1000) : rk Tryz.prog pol (Task.call 87 [V.p 0 0, V.d (D.s t)] [lxO s (a : Int) e w b l]) =
  match findSub t (s.drop a) with
  | none => some (.d (.b false), [lxO s (a : Int) e w b l])
  | some n => some (.d (.b true), [lxO s ((a + (n + t.length) : Nat) : Int) e w b l]) := by
 have hd : List.take (s.length - (a : Int).toNat) (List.drop (a : Int).toNat s) = s.drop a := by
  rw [Int.toNat_natCast, List.take_of_length_le]; rw [List.length_drop]; exact Nat.le_refl _
 have hc : rk Tryz.prog pol (Task.call 123 [V.d (D.s (s.drop a)), V.d (D.s t)] []) = some (.d (.i .i64 (idxV (findSub t (s.drop a)))), []) := by
  rw [ext_call (g := indexExt) rfl]
  have : (s.drop a).length ≤ 100000 ∧ t.length ≤ 100000 := ⟨by rw [List.length_drop]; omega, by omega⟩
  simp only [indexExt, if_pos this]
 unfold lxO
 rw [t42, st_if (by omega), hd, st_I hc]
 cases hf : findSub t (s.drop a) with
 | none => rw [st_t (by show (-1 : Int) < 0; decide), interp_ret]
 | some n =>
  have hn := findSub_le t _ n hf
  rw [List.length_drop] at hn
  have w1 : IntKind.i64.wrap (idxV (some n) + (t.length : Int)) = ((n + t.length : Nat) : Int) := by
   show IntKind.i64.wrap ((n : Int) + (t.length : Int)) = _
   rw [wrap_i64] <;> omega
  have w2 : IntKind.i64.wrap ((a : Int) + ((n + t.length : Nat) : Int)) = ((a + (n + t.length) : Nat) : Int) := by rw [wrap_i64] <;> omega
  rw [st_f (by show ¬ ((n : Int) < 0); omega), w1, w2, interp_ret]
end Go.Dn.Dec
namespace Go.Dn.Dec
open Go.Proofs
theorem find_line : ∀ r : List UInt8, lineN r = match findSub [10] r with
  | none => r.length
  | some n => n + 1
 | [] => rfl
 | c :: r => by
  have ih := find_line r
  unfold findSub
  by_cases h : c = 10
  ·subst h
   rw [if_pos (by simp [List.isPrefixOf])]
   unfold lineN
   rw [List.dropWhile_cons, List.takeWhile_cons]
   simp
  ·have hp : ¬ ([10] : List UInt8).isPrefixOf (c :: r) = true := by
    simp [List.isPrefixOf]; exact fun e => h e.symm
   rw [if_neg hp]
   have e : lineN (c :: r) = lineN r + 1 := by
    have hb : (c != 10) = true := bne_iff_ne.2 h
    unfold lineN
    rw [List.dropWhile_cons, List.takeWhile_cons, hb, if_pos rfl, if_pos rfl]
    split
    ·rw [List.length_cons]
    ·rw [List.length_cons]
   rw [e, ih]
   cases findSub [10] r with
   | none => rw [List.length_cons]; rfl
   | some n => rfl
theorem find_end : ∀ r : List UInt8, endN r = (findSub [42, 47] r).map (· + 2)
 | [] => rfl
 | c :: r => by
  have ih := find_end r
  unfold endN findSub
  by_cases h : c = 42 ∧ r.head? = some 47
  ·rw [if_pos h]
   have hp : ([42, 47] : List UInt8).isPrefixOf (c :: r) = true := by
    obtain ⟨rfl, h2⟩ := h
    cases r with
    | nil => cases h2
    | cons d q => cases h2; simp [List.isPrefixOf]
   rw [if_pos hp]; rfl
  ·rw [if_neg h]
   have hp : ¬ ([42, 47] : List UInt8).isPrefixOf (c :: r) = true := by
    intro hp
    apply h
    cases r with
    | nil => simp [List.isPrefixOf] at hp
    | cons d q =>
     simp [List.isPrefixOf] at hp
     exact ⟨hp.1.symm, by rw [← hp.2]; rfl⟩
   rw [if_neg hp, ih]
   cases findSub [42, 47] r <;> rfl
theorem space_s (c : UInt8) : rk Tryz.prog pol (Task.call 85 [V.d (D.s [9, 10, 13, 32]), V.d (D.i .u8 (c.toNat : Int))] []) = some (.d (.i .i64 (idxV (([9, 10, 13, 32] : List UInt8).findIdx? fun d => d == c))), []) := by
 rw [ext_call (g := indexByteExt) rfl]
 have hlt := c.toNat_lt
 have h : ([9, 10, 13, 32] : List UInt8).length ≤ 100000 ∧ (0 : Int) ≤ (c.toNat : Int) ∧ (c.toNat : Int) < 256 := ⟨by decide, by omega, by omega⟩
 simp only [indexByteExt, if_pos h, Int.toNat_natCast, UInt8.ofNat_toNat]
theorem space_idx (c : UInt8) : decide (idxV (([9, 10, 13, 32] : List UInt8).findIdx? fun d => d == c) ≥ 0) = spB c := by
 unfold spB
 by_cases h1 : c = 9
 ·subst h1; decide
 ·by_cases h2 : c = 10
  ·subst h2; decide
  ·by_cases h3 : c = 13
   ·subst h3; decide
   ·by_cases h4 : c = 32
    ·subst h4; decide
    ·have e : (([9, 10, 13, 32] : List UInt8).findIdx? fun d => d == c) = none := by
      simp [List.findIdx?_cons, Ne.symm h1, Ne.symm h2, Ne.symm h3, Ne.symm h4]
     rw [e]
     simp [h1, h2, h3, h4, idxV]
end Go.Dn.Dec
namespace Go.Dn.Dec
open Go.Proofs
def partsR (s : List UInt8) (a : Nat) (w : Int) (b : Bool) (l : List D) : Option Out :=
 match s.drop a with
 | [] => some (.d (.b false), [lxO s a 0 w b l])
 | c :: q =>
  if spB c = true then some (.d (.b true), [lxO s ((a + 1 : Nat) : Int) 0 w b l])
  else if c = 35 ∨ (c = 47 ∧ q.head? = some 47) then some (.d (.b true), [lxO s ((a + lineN (c :: q) : Nat) : Int) 0 w b l])
  else if c = 47 ∧ q.head? = some 42 then
   match endN (q.drop 1) with
   | none => some (.d (.b false), [lxO s ((a + 2 : Nat) : Int) 2 (a : Int) b l])
   | some n => some (.d (.b true), [lxO s ((a + (2 + n) : Nat) : Int) 0 w b l])
  else some (.d (.b false), [lxO s a 0 w b l])
theorem u8_35 (c : UInt8) : ((c.toNat : Int) == 35) = decide (c = 35) := u8_eq c 35
theorem u8_47 (c : UInt8) : ((c.toNat : Int) == 47) = decide (c = 47) := u8_eq c 47
theorem u8_42 (c : UInt8) : ((c.toNat : Int) == 42) = decide (c = 42) := u8_eq c 42
theorem parts_line (s : List UInt8) (a : Nat) (ha : a ≤ s.length) (hs : s.length ≤ 10000) (w : Int) (b : Bool) (l : List D) :
  rk Tryz.prog pol (Task.at_ 43 1 [true, true, true, true, true, false, false, true, true] (sv 106 [(0, V.p 0 0), (3, V.d (D.i .i64 (a : Int))), (38, V.d (D.b true))]) [] [lxO s a 0 w b l]) =
   some (.d (.b true), [lxO s ((a + lineN (s.drop a) : Nat) : Int) 0 w b l]) := by
 have hu := until_s s [10] a 0 w b l ha (by omega) (by decide)
 rw [find_line (s.drop a)]
 cases hf : findSub [10] (s.drop a) with
 | none =>
  rw [hf] at hu
  simp only at hu ⊢
  rw [List.length_drop, show a + (s.length - a) = s.length by omega]
  unfold lxO at hu ⊢
  rw [t20_at1011, st_T, so_B hu (by rfl) (by rfl), st_nf, st_ob (a := V.d (D.s s)) (by rfl), asD_d, asS_s, Bool.and_true, st_if (by simp), interp_ret]
  rfl
 | some n =>
  rw [hf] at hu
  simp only at hu ⊢
  unfold lxO at hu ⊢
  rw [t20_at1011, st_T, so_B hu (by rfl) (by rfl), st_nt, interp_ret]
  rfl
theorem parts_note (s : List UInt8) (a : Nat) (ha : a + 2 ≤ s.length) (hs : s.length ≤ 10000) (w : Int) (b : Bool) (l : List D) :
  rk Tryz.prog pol (Task.at_ 43 1 [true, true, true, true, true, true, true, false, false, true, true] (sv 106 [(0, V.p 0 0), (3, V.d (D.i .i64 (a : Int))), (77, V.d (D.b true))]) [] [lxO s a 0 w b l]) =
   match endN (s.drop (a + 2)) with
   | none => some (.d (.b false), [lxO s ((a + 2 : Nat) : Int) 2 (a : Int) b l])
   | some n => some (.d (.b true), [lxO s ((a + (2 + n) : Nat) : Int) 0 w b l]) := by
 have hu := until_s s [42, 47] (a + 2) 0 w b l ha (by omega) (by decide)
 have w2 : IntKind.i64.wrap ((a : Int) + 2) = ((a + 2 : Nat) : Int) := by rw [wrap_i64] <;> omega
 rw [find_end (s.drop (a + 2))]
 cases hf : findSub [42, 47] (s.drop (a + 2)) with
 | none =>
  rw [hf] at hu
  have hfl := fails_s s ((a + 2 : Nat) : Int) 0 w 2 (a : Int) b l
  rw [if_pos rfl, if_pos rfl] at hfl
  simp only [Option.map_none] at hu ⊢
  unfold lxO at hu hfl ⊢
  rw [t20_at4083_1, st_T, w2, so_B hu (by rfl) (by rfl), st_nf, so_0 hfl (by rfl) (by rfl), interp_ret]
 | some n =>
  rw [hf] at hu
  simp only [Option.map_some] at hu ⊢
  rw [show a + (2 + (n + 2)) = a + 2 + (n + 2) by omega]
  unfold lxO at hu ⊢
  rw [t20_at4083_1, st_T, w2, so_B hu (by rfl) (by rfl), st_nt, interp_ret]
  rfl
theorem parts_s (s : List UInt8) (a : Nat) (ha : a ≤ s.length) (hs : s.length ≤ 10000) (w : Int) (b : Bool) (l : List D) :
  rk Tryz.prog pol (Task.call 43 [V.p 0 0] [lxO s a 0 w b l]) = partsR s a w b l := by
 unfold partsR
 have hlen : (s.drop a).length = s.length - a := List.length_drop ..
 cases hr : s.drop a with
 | nil =>
  rw [hr, List.length_nil] at hlen
  unfold lxO
  rw [t20, st_t (by omega), interp_ret]
 | cons c q =>
  rw [hr, List.length_cons] at hlen
  have g : getI s (a : Int) = some c := by
   rw [getI_nat]
   have := congrArg List.head? hr
   rw [List.head?_drop] at this
   simpa using this
  have hp : rk Tryz.prog pol (Task.call 86 [V.p 0 0, V.d (D.i .i64 1)] [lxO s (a : Int) 0 w b l]) = _ := peek_s s a 1 0 w b l (by omega)
  have hnx : ∀ d : UInt8, d ≠ 0 → ((s.drop a).getD 1 0 = d ↔ q.head? = some d) := by
   intro d hd
   rw [hr]
   cases q with
   | nil => simp [Ne.symm hd]
   | cons x q => simp
  have hpl := parts_line s a ha hs w b l
  rw [hr] at hpl
  have w1 : IntKind.i64.wrap ((a : Int) + 1) = ((a + 1 : Nat) : Int) := by rw [wrap_i64] <;> omega
  generalize (s.drop a).getD 1 0 = nx at hp hnx
  -- no line's note
  have rest : ¬ (c = 35 ∨ (c = 47 ∧ q.head? = some 47)) →
    rk Tryz.prog pol (Task.at_ 43 1 [true, true, true, true, true, false, false, true, true] (sv 106 [(0, V.p 0 0), (3, V.d (D.i .i64 (a : Int))), (38, V.d (D.b false))]) [] [lxO s a 0 w b l]) =
    (if c = 47 ∧ q.head? = some 42 then
   match endN (q.drop 1) with
   | none => some (.d (.b false), [lxO s ((a + 2 : Nat) : Int) 2 (a : Int) b l])
   | some n => some (.d (.b true), [lxO s ((a + (2 + n) : Nat) : Int) 0 w b l])
  else some (.d (.b false), [lxO s a 0 w b l])) := by
   intro _
   have stop : rk Tryz.prog pol (Task.at_ 43 1 [true, true, true, true, true, true, true, false, false, true, true] (sv 106 [(0, V.p 0 0), (3, V.d (D.i .i64 (a : Int))), (77, V.d (D.b false))]) [] [lxO s a 0 w b l]) = some (.d (.b false), [lxO s a 0 w b l]) := by
    unfold lxO
    rw [t20_at4083_1, st_F, interp_ret]
   by_cases h47 : c = 47
   ·by_cases h42 : nx = 42
    ·have hq := (hnx 42 (by decide)).1 h42
     have h2 : a + 2 ≤ s.length := by
      cases q with
      | nil => cases hq
      | cons x q => simp at hlen; omega
     have hn := parts_note s a h2 hs w b l
     have e2 : s.drop (a + 2) = q.drop 1 := by rw [← List.drop_drop, hr]; rfl
     rw [e2] at hn
     rw [if_pos ⟨h47, hq⟩, ← hn]
     unfold lxO at hp ⊢
     rw [t20_at1011, st_F, st_ob g, u8_47, st_t h47, so_I hp (by rfl) (by rfl), interp_call_ret, u8_42, decide_eq_true h42]
    ·rw [if_neg (fun h => h42 ((hnx 42 (by decide)).2 h.2)), ← stop]
     unfold lxO at hp ⊢
     rw [t20_at1011, st_F, st_ob g, u8_47, st_t h47, so_I hp (by rfl) (by rfl), interp_call_ret, u8_42, decide_eq_false h42]
   ·rw [if_neg (fun h => h47 h.1), ← stop]
    unfold lxO
    rw [t20_at1011, st_F, st_ob g, u8_47, st_f h47, interp_call_ret]
  simp only
  by_cases hsp : spB c = true
  ·rw [if_pos hsp]
   unfold lxO
   rw [t20, st_f (by omega), st_ob g, st_I (space_s c), space_idx, hsp, st_T, w1, interp_ret]
  ·have hsp' : spB c = false := by simpa using hsp
   rw [if_neg hsp]
   by_cases h35 : c = 35
   ·rw [if_pos (Or.inl h35), ← hpl]
    unfold lxO
    rw [t20, st_f (by omega), st_ob g, st_I (space_s c), space_idx, hsp', st_F, st_ob g, u8_35, st_t h35, interp_call_ret]
   ·by_cases h47 : c = 47
    ·by_cases hn : nx = 47
     ·rw [if_pos (Or.inr ⟨h47, (hnx 47 (by decide)).1 hn⟩), ← hpl]
      unfold lxO at hp ⊢
      rw [t20, st_f (by omega), st_ob g, st_I (space_s c), space_idx, hsp', st_F, st_ob g, u8_35, st_f h35, st_ob g, u8_47, st_t h47, so_I hp (by rfl) (by rfl), interp_call_ret, u8_47, decide_eq_true hn]
     ·have hno : ¬ (c = 35 ∨ (c = 47 ∧ q.head? = some 47)) := by
       rintro (h | ⟨-, h⟩)
       ·exact h35 h
       ·exact hn ((hnx 47 (by decide)).2 h)
      rw [if_neg hno, ← rest hno]
      unfold lxO at hp ⊢
      rw [t20, st_f (by omega), st_ob g, st_I (space_s c), space_idx, hsp', st_F, st_ob g, u8_35, st_f h35, st_ob g, u8_47, st_t h47, so_I hp (by rfl) (by rfl), interp_call_ret, u8_47, decide_eq_false hn]
    ·have hno : ¬ (c = 35 ∨ (c = 47 ∧ q.head? = some 47)) := by
      rintro (h | ⟨h, -⟩)
      ·exact h35 h
      ·exact h47 h
     rw [if_neg hno, ← rest hno]
     unfold lxO
     rw [t20, st_f (by omega), st_ob g, st_I (space_s c), space_idx, hsp', st_F, st_ob g, u8_35, st_f h35, st_ob g, u8_47, st_f h47, interp_call_ret]
end Go.Dn.Dec
namespace Go.Dn.Dec
open Go.Proofs
def Tok.D (t : Tok) : D := .g [.i .i64 (t.kind : Int), .s t.text, .i .i64 t.n, .i .u64 (t.d : Int), .i .i64 (t.at_ : Int)]
def tks (L : List Tok) : List D := L.map Tok.D
theorem tks_head (L : List Tok) : headOk 5 (tks L) = true := by cases L <;> rfl
theorem tks_len (L : List Tok) : (tks L).length = L.length := by simp [tks]
theorem tks_snoc (L : List Tok) (t : Tok) : tks L ++ [t.D] = tks (L ++ [t]) := by simp [tks]
def badName (t : List UInt8) : Bool := ([46] : List UInt8).isSuffixOf t || (findSub [46, 46] t).isSome
theorem name_end (s t : List UInt8) (a : Nat) (x e w : Int) (b : Bool) (L : List Tok) (hL : L.length ≤ 100000) :
  rk Tryz.prog pol (Task.at_ 90 1 [true, true, true, true] (sv 58 [(0, V.p 0 0), (2, V.d (D.i .i64 (a : Int))), (3, V.d (D.s t))]) [] [lxO s x e w b (tks L)]) =
   some (.t [], [lxO s x e w false (tks (L ++ [⟨1, t, 0, 0, a⟩]))]) := by
 have hsn := tks_snoc L ⟨1, t, 0, 0, a⟩
 have hD : Tok.D ⟨1, t, 0, 0, a⟩ = D.g [D.i .i64 1, D.s t, D.i .i64 0, D.i .u64 0, D.i .i64 (a : Int)] := rfl
 rw [hD] at hsn
 unfold lxO
 rw [t45_at31, st_ob (a := V.d (D.l b (tks L))) (by rfl)]
 show interp (rk Tryz.prog pol) (asD (V.d (D.l b (tks L))) _) = _
 rw [asD_d, asL_l, tks_head, st_ift, Bool.or_true, st_ift, st_if (by rw [tks_len]; omega), Bool.and_true, st_if (by simp), hsn, Bool.and_false, interp_ret]
 rfl
theorem name_s (s : List UInt8) (a : Nat) (ha : a ≤ s.length) (hs : s.length ≤ 10000) (w : Int) (b : Bool) (L : List Tok) (hL : L.length ≤ 100000) :
    rk Tryz.prog pol (Task.call 90 [V.p 0 0] [lxO s a 0 w b (tks L)]) =
      (let t := (s.drop a).takeWhile nameB
       let bad := if 120 < t.length then (4 : Int) else if badName t = true then 2 else 0
       some (.t [], [lxO s ((a + t.length : Nat) : Int) bad (if bad = 0 then w else (a : Int)) false (tks (L ++ [⟨1, t, 0, 0, a⟩]))])) := by
  have hr := run_name_s s a ha (by omega) 0 w b (tks L)
  have hself := take_self (s.drop a) nameB
  have hle := tw_len (s.drop a) nameB
  rw [List.length_drop] at hle
  have htk : List.take ((((a + ((s.drop a).takeWhile nameB).length : Nat) : Int)).toNat - (a : Int).toNat) (List.drop (a : Int).toNat s) = (s.drop a).takeWhile nameB := by
    rw [Int.toNat_natCast, Int.toNat_natCast, Nat.add_sub_cancel_left, ← hself]
  simp only
  generalize (s.drop a).takeWhile nameB = t at *
  have hend := fun (x e w : Int) => name_end s t a x e w b L hL
  have hfl4 := fails_s s ((a + t.length : Nat) : Int) 0 w 4 (a : Int) b (tks L)
  have hfl2 := fails_s s ((a + t.length : Nat) : Int) 0 w 2 (a : Int) b (tks L)
  rw [if_pos rfl, if_pos rfl] at hfl4 hfl2
  have bad2 : rk Tryz.prog pol (Task.at_ 90 1 [true, true, true, false, false, true, true, true] (sv 58 [(0, V.p 0 0), (2, V.d (D.i .i64 (a : Int))), (3, V.d (D.s t)), (34, V.d (D.b true))]) [] [lxO s ((a + t.length : Nat) : Int) 0 w b (tks L)]) =
      some (.t [], [lxO s ((a + t.length : Nat) : Int) 2 (a : Int) false (tks (L ++ [⟨1, t, 0, 0, a⟩]))]) := by
    have h := hend ((a + t.length : Nat) : Int) 2 (a : Int)
    unfold lxO at hfl2 h ⊢
    rw [t45_at487, st_T, so_0 hfl2 (by rfl) (by rfl), interp_call_ret, h]
  have good : rk Tryz.prog pol (Task.at_ 90 1 [true, true, true, false, false, true, true, true] (sv 58 [(0, V.p 0 0), (2, V.d (D.i .i64 (a : Int))), (3, V.d (D.s t)), (34, V.d (D.b false))]) [] [lxO s ((a + t.length : Nat) : Int) 0 w b (tks L)]) =
      some (.t [], [lxO s ((a + t.length : Nat) : Int) 0 w false (tks (L ++ [⟨1, t, 0, 0, a⟩]))]) := by
    have h := hend ((a + t.length : Nat) : Int) 0 w
    unfold lxO at h ⊢
    rw [t45_at487, st_F, interp_call_ret, h]
  have hs1 : rk Tryz.prog pol (Task.call 138 [V.d (D.s t), V.d (D.s [46])] []) = some (.d (.b (([46] : List UInt8).isSuffixOf t)), []) := by
    rw [ext_call (g := suffixExt) rfl]
    have : t.length ≤ 100000 ∧ ([46] : List UInt8).length ≤ 100000 := ⟨by omega, by decide⟩
    simp only [suffixExt, if_pos this]
  have hs2 : rk Tryz.prog pol (Task.call 57 [V.d (D.s t), V.d (D.s [46, 46])] []) = some (.d (.b (findSub [46, 46] t).isSome), []) := by
    rw [ext_call (g := containsExt) rfl]
    have : t.length ≤ 100000 ∧ ([46, 46] : List UInt8).length ≤ 100000 := ⟨by omega, by decide⟩
    simp only [containsExt, if_pos this]
  by_cases h120 : 120 < t.length
  · have h := hend ((a + t.length : Nat) : Int) 4 (a : Int)
    rw [if_pos h120, if_neg (show ¬ ((4 : Int) = 0) by decide)]
    unfold lxO at hr hfl4 h ⊢
    rw [t45, so_0 hr (by rfl) (by rfl), st_ob (a := V.d (D.s s)) (by rfl), asD_d, asS_s, st_ob (a := V.d (D.i .i64 ((a + t.length : Nat) : Int))) (by rfl), asD_d, st_asI, htk, st_if (by omega), st_if (by omega), st_t (by omega), so_0 hfl4 (by rfl) (by rfl), interp_call_ret, h]
  · rw [if_neg h120]
    unfold badName
    unfold lxO at hr bad2 good ⊢
    rw [t45, so_0 hr (by rfl) (by rfl), st_ob (a := V.d (D.s s)) (by rfl), asD_d, asS_s, st_ob (a := V.d (D.i .i64 ((a + t.length : Nat) : Int))) (by rfl), asD_d, st_asI, htk, st_if (by omega), st_if (by omega), st_f (by omega), st_B hs1]
    cases hx : ([46] : List UInt8).isSuffixOf t with
    | true => rw [st_T, interp_call_ret, bad2, Bool.true_or]; rfl
    | false =>
      rw [st_F, st_B hs2, interp_call_ret, Bool.false_or]
      cases hy : (findSub [46, 46] t).isSome with
      | true => rw [bad2]; rfl
      | false => rw [good]; rfl
end Go.Dn.Dec
namespace Go.Dn.Dec
open Go.Proofs
theorem numF_eq (d : List UInt8) : ∀ v, numF v d = v * 10 ^ d.length + numB d := by
 induction d with
 | nil => intro v; simp [numF, numB]
 | cons c d ih =>
  intro v
  have h1 : numF v (c :: d) = numF (v * 10 + digV c) d := rfl
  have h2 : numB (c :: d) = numF (0 * 10 + digV c) d := rfl
  rw [h1, h2, ih (v * 10 + digV c), ih (0 * 10 + digV c), Nat.zero_mul, Nat.zero_add, List.length_cons, Nat.pow_succ, Nat.add_mul, Nat.mul_assoc, Nat.mul_comm 10 (10 ^ d.length)]
  omega
theorem numB_zero_drop (d : List UInt8) : numB (d.dropWhile (· == 48)) = numB d := by
 induction d with
 | nil => rfl
 | cons c d ih =>
  rw [List.dropWhile_cons]
  split
  ·rename_i h
   have hc : c = 48 := by simpa using h
   rw [ih, hc]
   show numB d = numF (0 * 10 + digV 48) d
   rfl
  ·rfl
theorem big_of_len (d : List UInt8) (hd : ∀ c ∈ d, isDig c = true) (n : Nat) (hl : n < (d.dropWhile (· == 48)).length) : 10 ^ n ≤ numB d := by
 rw [← numB_zero_drop]
 have hdd : ∀ c ∈ d.dropWhile (· == 48), isDig c = true := fun c h => hd c ((List.dropWhile_sublist _).subset h)
 cases he : d.dropWhile (· == 48) with
 | nil => rw [he] at hl; simp at hl
 | cons c r =>
  have hc48 : ¬ (c == 48) = true := by
   have := List.head?_dropWhile_not (fun x : UInt8 => x == 48) d
   rw [he] at this
   simpa using this
  have hc := hdd c (by rw [he]; simp)
  have h1 : 1 ≤ digV c := by
   have h48 : c ≠ 48 := fun e => hc48 (by rw [e]; rfl)
   have hn : c.toNat ≠ 48 := fun e => h48 (UInt8.toNat_inj.1 e)
   have := (isDig_iff c).1 hc
   unfold digV; omega
  rw [he, List.length_cons] at hl
  have h2 := numF_eq r (0 * 10 + digV c)
  have h4 : 10 ^ n ≤ 10 ^ r.length := Nat.pow_le_pow_right (by decide) (by omega)
  have h5 : 1 * 10 ^ r.length ≤ (0 * 10 + digV c) * 10 ^ r.length := Nat.mul_le_mul_right _ (by omega)
  show 10 ^ n ≤ numF (0 * 10 + digV c) r
  omega
def wN (neg : Bool) (v : Nat) : Int := if neg = true then IntKind.i64.wrap (0 - IntKind.i64.wrap (v : Int)) else IntKind.i64.wrap (v : Int)
theorem whole_loop (neg : Bool) : ∀ (r p : List UInt8) (v : Nat), (∀ c ∈ r, isDig c = true) → (p ++ r).length ≤ 19 → v < 10 ^ p.length →
  rk Tryz.prog pol (Task.at_ 143 0 [false, true, false, true, true, true, true, true] (sv 40 [(4, V.d (D.b neg)), (5, V.d (D.s (p ++ r))), (6, V.d (D.i .u64 (v : Int))), (18, V.it 0)]) [] [Ob.iter (p ++ r) p.length]) =
   some (.t [.d (.i .i64 (wN neg (numF v r))), .d (.b (wholeB neg (numF v r)).2)], [])
 | [], p, v, hd, hl, hv => by
  rw [List.append_nil, t86_at351_1, st_f (by omega)]
  unfold wN wholeB
  have e1 : decide ((v : Int) ≤ 9223372036854775808) = decide (v ≤ 2 ^ 63) := by congr 1; exact propext (by omega)
  have e2 : decide ((v : Int) < 9223372036854775808) = decide (v < 2 ^ 63) := by congr 1; exact propext (by omega)
  cases neg with
  | true => rw [st_T, interp_ret, e1]; rfl
  | false => rw [st_F, interp_ret, e2]; rfl
 | c :: r, p, v, hd, hl, hv => by
  have hc := hd c (by simp)
  have hcl := digV_lt hc
  have hi : p.length < (p ++ c :: r).length := by simp
  have g : getI (p ++ c :: r) (p.length : Int) = some c := by rw [getI_nat]; simp
  have hdec := decode_dig (p ++ c :: r) p.length c (by simp) (by have := (isDig_iff c).1 hc; omega)
  have hpl : (p ++ [c]).length = p.length + 1 := by simp
  have hlen : p.length + (r.length + 1) ≤ 19 := by simpa using hl
  have hv2 : v * 10 + digV c < 10 ^ (p ++ [c]).length := by rw [hpl, Nat.pow_succ]; omega
  have hv1 : v < 10 ^ 18 := Nat.lt_of_lt_of_le hv (Nat.pow_le_pow_right (by decide) (by omega))
  have ih := whole_loop neg r (p ++ [c]) (v * 10 + digV c) (fun c h => hd c (by simp [h])) (by simpa using hl) hv2
  rw [List.append_assoc, List.singleton_append, hpl] at ih
  have w1 : IntKind.u64.wrap (10 * (v : Int)) = 10 * (v : Int) := by rw [u64_wrap]; omega
  have w2 : IntKind.u64.wrap ((digV c : Nat) : Int) = ((digV c : Nat) : Int) := by rw [u64_wrap]; omega
  have w3 : IntKind.u64.wrap (10 * (v : Int) + ((digV c : Nat) : Int)) = ((v * 10 + digV c : Nat) : Int) := by rw [u64_wrap]; omega
  rw [t86_at351_1, st_t hi, st_ob g, u8_sub hc, w1, w2, w3, hdec, interp_call_ret, ih]
  rfl
theorem whole_s (sg ds : List UInt8) (hsg : sg = [] ∨ sg = [43] ∨ sg = [45]) (hds : ∀ c ∈ ds, isDig c = true) (hne : sg ++ ds ≠ []) (hl : (sg ++ ds).length ≤ 10000) :
  ∃ N : Int, rk Tryz.prog pol (Task.call 143 [V.d (D.s (sg ++ ds))] []) = some (.t [.d (.i .i64 N), .d (.b (wholeB ((sg ++ ds).head? == some 45) (numB ds)).2)], []) ∧
   ((wholeB ((sg ++ ds).head? == some 45) (numB ds)).2 = true → N = (wholeB ((sg ++ ds).head? == some 45) (numB ds)).1) := by
 obtain ⟨c0, q0, hcq⟩ : ∃ c q, sg ++ ds = c :: q := by
  cases h : sg ++ ds with
  | nil => exact absurd h hne
  | cons c q => exact ⟨c, q, rfl⟩
 have g : getI (sg ++ ds) 0 = some c0 := by rw [hcq]; rfl
 have hneg : ((sg ++ ds).head? == some 45) = decide (c0 = 45) := by
  rw [hcq]
  show (some c0 == some 45) = _
  by_cases h : c0 = 45
  ·subst h; rfl
  ·rw [decide_eq_false h]
   exact beq_eq_false_iff_ne.2 (fun e => h (Option.some.inj e))
 have hdd : ds.dropWhile (fun c => c == 43 || c == 45) = ds := by
  cases ds with
  | nil => rfl
  | cons c r =>
   have hc := hds c (by simp)
   have h1 : c ≠ 43 := fun e => by rw [e] at hc; exact absurd hc (by decide)
   have h2 : c ≠ 45 := fun e => by rw [e] at hc; exact absurd hc (by decide)
   rw [List.dropWhile_cons, if_neg (by simp [h1, h2])]
 have ht1 : rk Tryz.prog pol (Task.call 183 [V.d (D.s (sg ++ ds)), V.d (D.s [43, 45])] []) = some (.d (.s ds), []) := by
  rw [ext_call (g := trimLeftExt) rfl]
  have e : (sg ++ ds).dropWhile (fun c => c == 43 || c == 45) = ds := by
   rcases hsg with rfl | rfl | rfl
   ·exact hdd
   ·exact hdd
   ·exact hdd
  have hl5 : (sg ++ ds).length ≤ 100000 := by omega
  simp only [trimLeftExt, if_pos hl5, e]
 have ht2 : rk Tryz.prog pol (Task.call 183 [V.d (D.s ds), V.d (D.s [48])] []) = some (.d (.s (ds.dropWhile (· == 48))), []) := by
  rw [ext_call (g := trimLeftExt) rfl]; rfl
 rw [hneg]
 by_cases h19 : 19 < (ds.dropWhile (· == 48)).length
 ·have hb := big_of_len ds hds 19 h19
  have hf : (wholeB (decide (c0 = 45)) (numB ds)).2 = false := by
   unfold wholeB
   split
   ·exact decide_eq_false (by omega)
   ·exact decide_eq_false (by omega)
  refine ⟨0, ?_, fun h => by rw [hf] at h; cases h⟩
  rw [t86, st_ob g, st_S ht1, st_S ht2, st_t (by omega), interp_ret, hf]
 ·have hL := whole_loop (decide (c0 = 45)) (ds.dropWhile (· == 48)) [] 0 (fun c h => hds c ((List.dropWhile_sublist _).subset h)) (by simpa using h19) (by decide)
  rw [List.nil_append, List.length_nil, Int.natCast_zero] at hL
  have hnum : numF 0 (ds.dropWhile (· == 48)) = numB ds := numB_zero_drop ds
  rw [hnum] at hL
  refine ⟨wN (decide (c0 = 45)) (numB ds), ?_, ?_⟩
  ·rw [t86, st_ob g, st_S ht1, st_S ht2, st_f (by omega), u8_45, interp_call_ret]
   exact hL
  ·intro h
   unfold wholeB at h ⊢
   unfold wN
   by_cases hn : c0 = 45
   ·rw [if_pos (by simpa using hn)] at h ⊢
    rw [if_pos (by simpa using hn)]
    have := of_decide_eq_true h
    rcases Nat.lt_or_ge (numB ds) (2 ^ 63) with h63 | h63
    ·rw [wrap_i64 (n := ((numB ds : Nat) : Int)) (by omega) (by omega), wrap_i64 (by omega) (by omega)]; simp
    ·have e : numB ds = 9223372036854775808 := by omega
     rw [e]; decide
   ·rw [if_neg (by simpa using hn)] at h ⊢
    rw [if_neg (by simpa using hn)]
    have := of_decide_eq_true h
    rw [wrap_i64 (by omega) (by omega)]
end Go.Dn.Dec
namespace Go.Dn.Dec
open Go.Proofs
theorem idx_take (c : UInt8) : ∀ q : List UInt8, (q.findIdx? fun d => d == c) = if q.dropWhile (· != c) = [] then none else some (q.takeWhile (· != c)).length
 | [] => rfl
 | d :: q => by
  have ih := idx_take c q
  rw [List.findIdx?_cons, List.dropWhile_cons, List.takeWhile_cons]
  by_cases h : d = c
  ·subst h; simp
  ·have h1 : (d == c) = false := beq_eq_false_iff_ne.2 h
   have h2 : (d != c) = true := bne_iff_ne.2 h
   rw [h1, h2, ih]
   simp only [Bool.false_eq_true, if_false, if_true]
   split <;> simp
theorem index_byte (t : List UInt8) (c : UInt8) (ht : t.length ≤ 100000) : rk Tryz.prog pol (Task.call 85 [V.d (D.s t), V.d (D.i .u8 (c.toNat : Int))] []) = some (.d (.i .i64 (idxV (if t.dropWhile (· != c) = [] then none else some (t.takeWhile (· != c)).length))), []) := by
 rw [ext_call (g := indexByteExt) rfl]
 have hlt := c.toNat_lt
 have h : t.length ≤ 100000 ∧ (0 : Int) ≤ (c.toNat : Int) ∧ (c.toNat : Int) < 256 := ⟨ht, by omega, by omega⟩
 simp only [indexByteExt, if_pos h, Int.toNat_natCast, UInt8.ofNat_toNat, idx_take]
theorem contains_drop (t : List UInt8) : (t.contains 10 = true) ↔ t.dropWhile (· != 10) ≠ [] := by
 induction t with
 | nil => simp
 | cons c t ih =>
  rw [List.dropWhile_cons]
  by_cases h : c = 10
  ·subst h; simp
  ·have h2 : (c != 10) = true := bne_iff_ne.2 h
   rw [h2, if_pos rfl, ← ih]
   simp [Ne.symm h]
theorem text_s (s : List UInt8) (a : Nat) (c : UInt8) (q : List UInt8) (hd : s.drop a = c :: q) (hs : s.length ≤ 10000) (w : Int) (b : Bool) (L : List Tok) (hL : L.length ≤ 100000) :
  rk Tryz.prog pol (Task.call 93 [V.p 0 0] [lxO s a 0 w b (tks L)]) =
   match textW c q a with
   | .inr (e, w') => some (.t [], [lxO s a e (w' : Int) b (tks L)])
   | .inl (t, n) => some (.t [], [lxO s ((a + n : Nat) : Int) 0 w false (tks (L ++ [t]))]) := by
 have hlen : (s.drop a).length = s.length - a := List.length_drop ..
 rw [hd, List.length_cons] at hlen
 have g : getI s (a : Int) = some c := by
  rw [getI_nat]
  have := congrArg List.head? hd
  rw [List.head?_drop] at this
  simpa using this
 have hd1 : s.drop (a + 1) = q := by rw [← List.drop_drop, hd]; rfl
 have w1 : IntKind.i64.wrap ((a : Int) + 1) = ((a + 1 : Nat) : Int) := by rw [wrap_i64] <;> omega
 have hc1 : List.take (s.length - (((a + 1 : Nat) : Int)).toNat) (List.drop (((a + 1 : Nat) : Int)).toNat s) = q := by
  rw [Int.toNat_natCast, hd1, List.take_of_length_le]; omega
 have hi := index_byte q c (by omega)
 have hfl := fails_s s (a : Int) 0 w 2 (a : Int) b (tks L)
 rw [if_pos rfl, if_pos rfl] at hfl
 have bad : ∀ n : Int, rk Tryz.prog pol (Task.at_ 93 1 [true, false, true, true, true] (sv 100 [(0, V.p 0 0), (2, V.d (D.i .i64 (a : Int))), (4, V.d (D.i .i64 n)), (60, V.d (D.b true))]) [] [lxO s a 0 w b (tks L)]) =
   some (.t [], [lxO s a 2 (a : Int) b (tks L)]) := by
  intro n
  unfold lxO at hfl ⊢
  rw [t48_at55, st_T, so_0 hfl (by rfl) (by rfl), interp_ret]
 unfold textW
 simp only
 by_cases h0 : q.dropWhile (· != c) = []
 ·rw [if_pos h0] at hi
  rw [if_pos (Or.inl h0)]
  simp only
  rw [← bad (idxV none)]
  unfold lxO
  rw [t48, st_ob g, w1, st_if (by omega), hc1, st_I hi, st_t (by show (-1 : Int) < 0; decide), interp_call_ret]
 ·rw [if_neg h0] at hi
  have hsum : (q.takeWhile (· != c)).length + (q.dropWhile (· != c)).length = q.length := by
   have := congrArg List.length (List.takeWhile_append_dropWhile (p := (· != c)) (l := q))
   rwa [List.length_append] at this
  have hpos : 0 < (q.dropWhile (· != c)).length := List.length_pos_iff.2 h0
  have hself := take_self q (· != c)
  generalize ht : q.takeWhile (· != c) = t at *
  have w2 : IntKind.i64.wrap (((a + 1 : Nat) : Int) + (t.length : Int)) = ((a + 1 + t.length : Nat) : Int) := by rw [wrap_i64] <;> omega
  have hc2 : List.take ((((a + 1 + t.length : Nat) : Int)).toNat - (((a + 1 : Nat) : Int)).toNat) (List.drop (((a + 1 : Nat) : Int)).toNat s) = t := by
   rw [Int.toNat_natCast, Int.toNat_natCast, Nat.add_sub_cancel_left, hd1, ← hself]
  have hi2 : rk Tryz.prog pol (Task.call 85 [V.d (D.s t), V.d (D.i .u8 10)] []) = _ := index_byte t 10 (by omega)
  have step : ∀ X : Option Out, (rk Tryz.prog pol (Task.at_ 93 1 [true, false, true, true, true] (sv 100 [(0, V.p 0 0), (2, V.d (D.i .i64 (a : Int))), (4, V.d (D.i .i64 (t.length : Int))), (60, V.d (D.b (decide (idxV (if t.dropWhile (· != 10) = [] then none else some (t.takeWhile (· != 10)).length) ≥ 0))))]) [] [lxO s a 0 w b (tks L)]) = X) →
    rk Tryz.prog pol (Task.call 93 [V.p 0 0] [lxO s a 0 w b (tks L)]) = X := by
   intro X hX
   rw [← hX]
   unfold lxO
   have ei : idxV (some t.length) = (t.length : Int) := rfl
   rw [t48, st_ob g, w1, st_if (by omega), hc1, st_I hi, ei, st_f (by omega), w2, st_if (by omega), st_if (by omega), hc2, st_I hi2, interp_call_ret]
  by_cases h10 : t.contains 10 = true
  ·rw [if_pos (Or.inr h10)]
   simp only
   have hne := (contains_drop t).1 h10
   refine step _ ?_
   rw [if_neg hne, show decide (idxV (some (t.takeWhile (· != 10)).length) ≥ 0) = true from decide_eq_true (Int.natCast_nonneg (t.takeWhile (· != 10)).length)]
   exact bad _
  ·have he : t.dropWhile (· != 10) = [] := by
    rcases Classical.em (t.dropWhile (· != 10) = []) with h | h
    ·exact h
    ·exact absurd ((contains_drop t).2 h) h10
   rw [if_neg (by rintro (h | h); exact h0 h; exact h10 h)]
   simp only
   refine step _ ?_
   have hsn := tks_snoc L ⟨4, t, 0, 0, a⟩
   have hD : Tok.D ⟨4, t, 0, 0, a⟩ = D.g [D.i .i64 4, D.s t, D.i .i64 0, D.i .u64 0, D.i .i64 (a : Int)] := rfl
   rw [hD] at hsn
   have w3 : IntKind.i64.wrap ((t.length : Int) + 2) = ((t.length + 2 : Nat) : Int) := by rw [wrap_i64] <;> omega
   have w4 : IntKind.i64.wrap ((a : Int) + ((t.length + 2 : Nat) : Int)) = ((a + (t.length + 2) : Nat) : Int) := by rw [wrap_i64] <;> omega
   rw [if_pos he, show decide (idxV none ≥ 0) = false from rfl]
   unfold lxO
   rw [t48_at55, st_F, w1, w2, st_if (by omega), st_if (by omega), tks_head, st_ift, Bool.or_true, st_ift, st_if (by rw [tks_len]; omega), hc2, w3, w4, hsn, Bool.and_false, interp_ret]
end Go.Dn.Dec
namespace Go.Dn.Dec
open Go.Proofs
theorem st_Iv {f : Task → Option Out} {t : Task} {k : IntKind} {n : Int} {v e : V} {K : Int → Tr} (h : f t = some (.t [.d (.i k n), v], [])) (hv : (bnd (V.t [V.d (D.i k n), v]) == 0) = true) :
  interp f (.call t fun o => ift o.snd.isEmpty (unT o.fst fun l => ift (l.length == 2) (asD (l.getD 0 e) fun d => asI k d fun x => ift (bnd (V.t [V.d (D.i k x), l.getD 1 e]) == 0) (K x)))) = interp f (K n) := by
 rw [st_call h]
 show interp f (asI k (.i k n) fun x => ift (bnd (V.t [V.d (D.i k x), v]) == 0) (K x)) = _
 rw [st_asI, hv, st_ift]
theorem take_all {α : Type} (p : α → Bool) (l : List α) : (l.takeWhile p).all p = true := by
 induction l with
 | nil => rfl
 | cons c l ih =>
  rw [List.takeWhile_cons]
  split
  ·rename_i h; rw [List.all_cons, h, ih]; rfl
  ·rfl
theorem hexes_end (s : List UInt8) (a v : Nat) (x e w : Int) (b : Bool) (L : List Tok) (hL : L.length ≤ 100000) (n : Int) (hn : n = IntKind.i64.wrap (v : Int)) :
  rk Tryz.prog pol (Task.at_ 140 1 [true, true, true, true, true, true, true] (sv 71 [(0, V.p 0 0), (1, V.d (D.i .i64 (a : Int))), (6, V.d (D.i .u64 (v : Int)))]) [] [lxO s x e w b (tks L)]) =
   some (.t [], [lxO s x e w false (tks (L ++ [⟨2, [], n, 0, a⟩]))]) := by
 have hsn := tks_snoc L ⟨2, [], n, 0, a⟩
 have hD : Tok.D ⟨2, [], n, 0, a⟩ = D.g [D.i .i64 2, D.s [], D.i .i64 n, D.i .u64 0, D.i .i64 (a : Int)] := rfl
 rw [hD] at hsn
 unfold lxO
 rw [t83_at255, st_ob (a := V.d (D.l b (tks L))) (by rfl), ← hn]
 show interp (rk Tryz.prog pol) (asD (V.d (D.l b (tks L))) _) = _
 rw [asD_d, asL_l, tks_head, st_ift, Bool.or_true, st_ift, st_if (by rw [tks_len]; omega), Bool.and_true, st_if (by simp), hsn, Bool.and_false, interp_ret]
 rfl
theorem hexes_s (s : List UInt8) (a : Nat) (ha : a + 2 ≤ s.length) (hs : s.length ≤ 10000) (w : Int) (b : Bool) (L : List Tok) (hL : L.length ≤ 100000) (hne : (s.drop (a + 2)).takeWhile hexB ≠ []) :
    ∃ T : Tok, rk Tryz.prog pol (Task.call 140 [V.p 0 0, V.d (D.i .i64 (a : Int))] [lxO s a 0 w b (tks L)]) =
      (let h := (s.drop (a + 2)).takeWhile hexB
       let bad := if 16 < h.length then (4 : Int) else if 2 ^ 63 ≤ hexV h then 5 else 0
       some (.t [], [lxO s ((a + 2 + h.length : Nat) : Int) bad (if bad = 0 then w else (a : Int)) false (tks (L ++ [T]))])) ∧
      (¬ 16 < ((s.drop (a + 2)).takeWhile hexB).length → ¬ 2 ^ 63 ≤ hexV ((s.drop (a + 2)).takeWhile hexB) → T = ⟨2, [], (hexV ((s.drop (a + 2)).takeWhile hexB) : Int), 0, a⟩) := by
  have hr := run_hex_s s (a + 2) ha (by omega) 0 w b (tks L)
  have hself := take_self (s.drop (a + 2)) hexB
  have hle := tw_len (s.drop (a + 2)) hexB
  have hall := take_all hexB (s.drop (a + 2))
  rw [List.length_drop] at hle
  have w2 : IntKind.i64.wrap ((a : Int) + 2) = ((a + 2 : Nat) : Int) := by rw [wrap_i64] <;> omega
  have htk : List.take ((((a + 2 + ((s.drop (a + 2)).takeWhile hexB).length : Nat) : Int)).toNat - (((a + 2 : Nat) : Int)).toNat) (List.drop (((a + 2 : Nat) : Int)).toNat s) = (s.drop (a + 2)).takeWhile hexB := by
    rw [Int.toNat_natCast, Int.toNat_natCast, Nat.add_sub_cancel_left, ← hself]
  simp only
  generalize (s.drop (a + 2)).takeWhile hexB = h at *
  by_cases h16 : 16 < h.length
  · have hfl := fails_s s ((a + 2 + h.length : Nat) : Int) 0 w 4 (a : Int) b (tks L)
    rw [if_pos rfl, if_pos rfl] at hfl
    have he := hexes_end s a 0 ((a + 2 + h.length : Nat) : Int) 4 (a : Int) b L hL _ rfl
    refine ⟨⟨2, [], IntKind.i64.wrap ((0 : Nat) : Int), 0, a⟩, ?_, fun x => absurd h16 x⟩
    rw [if_pos h16, if_neg (show ¬ ((4 : Int) = 0) by decide)]
    unfold lxO at hr hfl he ⊢
    rw [t83, w2, so_0 hr (by rfl) (by rfl), st_ob (a := V.d (D.s s)) (by rfl), asD_d, asS_s, st_ob (a := V.d (D.i .i64 ((a + 2 + h.length : Nat) : Int))) (by rfl), asD_d, st_asI, htk, st_if (by omega), st_if (by omega), st_t (by omega), so_0 hfl (by rfl) (by rfl), interp_call_ret, t83_at127, st_ne_f (by rfl), interp_call_ret]
    exact he
  · have hp : rk Tryz.prog pol (Task.call 182 [V.d (D.s h), V.d (D.i .i64 16), V.d (D.i .i64 64)] []) = some (.t [.d (.i .u64 (hexV h : Nat)), .nifc], []) := by
      rw [ext_call (g := parseHexExt) rfl]
      have hc : (16 : Int) = 16 ∧ (64 : Int) = 64 ∧ h ≠ [] ∧ h.length ≤ 16 ∧ h.all isHex = true := ⟨rfl, rfl, hne, by omega, hall⟩
      exact if_pos hc
    have hf : ((hexV h : Nat) : Int).fdiv 9223372036854775808 = ((hexV h / 9223372036854775808 : Nat) : Int) := by
      have := fdiv_nat (hexV h) 9223372036854775808
      exact this
    have go : rk Tryz.prog pol (Task.call 140 [V.p 0 0, V.d (D.i .i64 (a : Int))] [lxO s a 0 w b (tks L)]) =
        rk Tryz.prog pol (Task.at_ 140 1 [true, true, true, true, true, true] (sv 71 [(0, V.p 0 0), (1, V.d (D.i .i64 (a : Int))), (6, V.d (D.i .u64 ((hexV h : Nat) : Int)))]) [] [lxO s ((a + 2 + h.length : Nat) : Int) 0 w b (tks L)]) := by
      unfold lxO at hr ⊢
      rw [t83, w2, so_0 hr (by rfl) (by rfl), st_ob (a := V.d (D.s s)) (by rfl), asD_d, asS_s, st_ob (a := V.d (D.i .i64 ((a + 2 + h.length : Nat) : Int))) (by rfl), asD_d, st_asI, htk, st_if (by omega), st_if (by omega), st_f (by omega), st_Iv hp (by rfl), interp_call_ret]
    rw [go]
    by_cases h63 : 2 ^ 63 ≤ hexV h
    · have hfl := fails_s s ((a + 2 + h.length : Nat) : Int) 0 w 5 (a : Int) b (tks L)
      rw [if_pos rfl, if_pos rfl] at hfl
      have he := hexes_end s a (hexV h) ((a + 2 + h.length : Nat) : Int) 5 (a : Int) b L hL _ rfl
      refine ⟨⟨2, [], IntKind.i64.wrap ((hexV h : Nat) : Int), 0, a⟩, ?_, fun _ x => absurd h63 x⟩
      rw [if_neg h16, if_pos h63, if_neg (show ¬ ((5 : Int) = 0) by decide)]
      have hq : 0 < hexV h / 9223372036854775808 := Nat.div_pos (by omega) (by decide)
      unfold lxO at hfl he ⊢
      rw [t83_at127, hf, st_ne_t (by omega), so_0 hfl (by rfl) (by rfl), interp_call_ret]
      exact he
    · have he := hexes_end s a (hexV h) ((a + 2 + h.length : Nat) : Int) 0 w b L hL ((hexV h : Nat) : Int) (by rw [wrap_i64] <;> omega)
      refine ⟨⟨2, [], ((hexV h : Nat) : Int), 0, a⟩, ?_, fun _ _ => rfl⟩
      rw [if_neg h16, if_neg h63, if_pos rfl]
      have hq : hexV h / 9223372036854775808 = 0 := Nat.div_eq_of_lt (by omega)
      unfold lxO at he ⊢
      rw [t83_at127, hf, st_ne_f (by omega), interp_call_ret]
      exact he
end Go.Dn.Dec
namespace Go.Dn.Dec
open Go.Proofs
theorem dig_at (t : List UInt8) (k : Nat) : isDig (t.getD k 0) = true ↔ (t.drop k).takeWhile isDig ≠ [] := by
 rw [List.getD_eq_getElem?_getD]
 have h : t[k]? = (t.drop k).head? := by rw [List.head?_drop]
 rw [h]
 cases t.drop k with
 | nil => simp; decide
 | cons c q =>
  rw [List.takeWhile_cons]
  simp only [List.head?_cons, Option.getD_some]
  cases isDig c <;> simp
theorem set1 (a b c d e v : V) : [a, b, c, d, e].set 1 v = [a, v, c, d, e] := rfl
theorem tail_3 (s : List UInt8) (x k : Nat) (hk : k = 1 ∨ k = 2) (hx : x ≤ s.length) (hs : s.length ≤ 10000) (e w : Int) (b : Bool) (l : List D) (b0 : Bool) :
  rk Tryz.prog pol (Task.at_ 142 1 [true, true, false, true, false, true, true, false, true, true, true] (sv 73 [(0, V.p 0 0), (3, V.d (D.b b0)), (5, V.d (D.i .i64 1)), (51, V.d (D.b (k == 2)))]) [] [lxO s (x : Int) e w b l]) =
   if ((s.drop x).drop k).takeWhile isDig = [] then some (.d (.b b0), [lxO s (x : Int) e w b l])
   else some (.d (.b true), [lxO s ((x + k + (((s.drop x).drop k).takeWhile isDig).length : Nat) : Int) e w b l]) := by
 have hd := dig_at (s.drop x) k
 have hr : ((s.drop x).drop k).takeWhile isDig ≠ [] → rk Tryz.prog pol (Task.call 136 [V.p 0 0, V.f 91 []] [lxO s ((x + k : Nat) : Int) e w b l]) = some (.t [], [lxO s ((x + k + (((s.drop x).drop k).takeWhile isDig).length : Nat) : Int) e w b l]) := by
  intro hne
  have hle : x + k ≤ s.length := by
   rcases Nat.lt_or_ge s.length (x + k) with h | h
   ·exfalso; apply hne; rw [List.drop_drop, List.drop_eq_nil_of_le (by omega)]; rfl
   ·exact h
  have := run_digit_s s (x + k) hle (by omega) e w b l
  rwa [← List.drop_drop] at this
 rcases hk with rfl | rfl
 ·have hp : rk Tryz.prog pol (Task.call 86 [V.p 0 0, V.d (D.i .i64 1)] [lxO s (x : Int) e w b l]) = _ := peek_s s x 1 e w b l (by omega)
  have hg := digit_s ((s.drop x).getD 1 0)
  have w1 : IntKind.i64.wrap ((x : Int) + 1) = ((x + 1 : Nat) : Int) := by rw [wrap_i64] <;> omega
  by_cases hz : ((s.drop x).drop 1).takeWhile isDig = []
  ·have hf : isDig ((s.drop x).getD 1 0) = false := by
    cases h : isDig ((s.drop x).getD 1 0) with
    | false => rfl
    | true => exact absurd hz (hd.1 h)
   rw [if_pos hz]
   rw [hf] at hg
   unfold lxO at hp ⊢
   rw [t85_at3767, st_bf (by rfl), so_I hp (by rfl) (by rfl), st_B hg, st_F, interp_ret]
  ·have hr' := hr hz
   rw [hd.2 hz] at hg
   rw [if_neg hz]
   unfold lxO at hp hr' ⊢
   rw [t85_at3767, st_bf (by rfl), so_I hp (by rfl) (by rfl), st_B hg, st_T, st_ob (a := V.d (D.i .i64 (x : Int))) (by rfl), asD_d, st_asI, Bool.and_true, st_if (by simp), w1, set1]
   rw [so_0 hr' (by rfl) (by rfl), interp_ret]
 ·have hp : rk Tryz.prog pol (Task.call 86 [V.p 0 0, V.d (D.i .i64 2)] [lxO s (x : Int) e w b l]) = _ := peek_s s x 2 e w b l (by omega)
  have hg := digit_s ((s.drop x).getD 2 0)
  have w1 : IntKind.i64.wrap ((x : Int) + 2) = ((x + 2 : Nat) : Int) := by rw [wrap_i64] <;> omega
  by_cases hz : ((s.drop x).drop 2).takeWhile isDig = []
  ·have hf : isDig ((s.drop x).getD 2 0) = false := by
    cases h : isDig ((s.drop x).getD 2 0) with
    | false => rfl
    | true => exact absurd hz (hd.1 h)
   rw [if_pos hz]
   rw [hf] at hg
   unfold lxO at hp ⊢
   rw [t85_at3767, st_bt (by rfl), so_I hp (by rfl) (by rfl), st_B hg, st_F, interp_ret]
  ·have hr' := hr hz
   rw [hd.2 hz] at hg
   rw [if_neg hz]
   unfold lxO at hp hr' ⊢
   rw [t85_at3767, st_bt (by rfl), so_I hp (by rfl) (by rfl), st_B hg, st_T, st_ob (a := V.d (D.i .i64 (x : Int))) (by rfl), asD_d, st_asI, Bool.and_true, st_if (by simp), w1, set1]
   rw [so_0 hr' (by rfl) (by rfl), interp_ret]
end Go.Dn.Dec
namespace Go.Dn.Dec
open Go.Proofs
def isE (t : List UInt8) : Bool := t.getD 0 0 == 101 || t.getD 0 0 == 69
theorem u8_eqb (c d : UInt8) : ((c.toNat : Int) == (d.toNat : Int)) = (c == d) := by
 rw [u8_eq]
 by_cases h : c = d
 ·subst h; simp
 ·rw [decide_eq_false h, beq_eq_false_iff_ne.2 h]
theorem tail_2 (s : List UInt8) (x : Nat) (hx : x ≤ s.length) (hs : s.length ≤ 10000) (e w : Int) (b : Bool) (l : List D) (b0 : Bool) :
  rk Tryz.prog pol (Task.at_ 142 1 [true, true, false, true, true, true] (sv 73 [(0, V.p 0 0), (3, V.d (D.b b0)), (41, V.d (D.b (isE (s.drop x))))]) [] [lxO s (x : Int) e w b l]) =
   some (.d (.b (b0 || decide (expN (s.drop x) ≠ 0))), [lxO s ((x + expN (s.drop x) : Nat) : Int) e w b l]) := by
 cases hE : isE (s.drop x) with
 | false =>
  have h0 : expN (s.drop x) = 0 := by
   unfold expN
   split
   ·rfl
   ·rename_i c q hcq
    rw [hcq] at hE
    unfold isE at hE
    simp only [List.getD_cons_zero, Bool.or_eq_false_iff, beq_eq_false_iff_ne] at hE
    rw [if_neg (by rintro (h | h); exact hE.1 h; exact hE.2 h)]
  rw [h0]
  unfold lxO
  rw [t85_at119, st_F, interp_ret]
  simp
 | true =>
  have hp : rk Tryz.prog pol (Task.call 86 [V.p 0 0, V.d (D.i .i64 1)] [lxO s (x : Int) e w b l]) = _ := peek_s s x 1 e w b l (by omega)
  obtain ⟨c, q, hcq⟩ : ∃ c q, s.drop x = c :: q := by
   cases h : s.drop x with
   | nil => rw [h] at hE; exact absurd hE (by decide)
   | cons c q => exact ⟨c, q, rfl⟩
  have hce : c = 101 ∨ c = 69 := by
   rw [hcq] at hE
   unfold isE at hE
   simpa using hE
  have hd : (s.drop x).getD 1 0 = q.getD 0 0 := by rw [hcq]; rfl
  have hkk : expK q = if q.getD 0 0 = 43 ∨ q.getD 0 0 = 45 then 2 else 1 := by
   cases q with
   | nil => rfl
   | cons d q => rfl
  have hexp : expN (s.drop x) = if ((s.drop x).drop (expK q)).takeWhile isDig = [] then 0 else expK q + (((s.drop x).drop (expK q)).takeWhile isDig).length := by
   rw [hcq]
   show (if c = 101 ∨ c = 69 then _ else _) = _
   rw [if_pos hce]
  have h3 := tail_3 s x (expK q) (by rw [hkk]; split <;> simp) hx hs e w b l b0
  have hres : (if ((s.drop x).drop (expK q)).takeWhile isDig = [] then some (V.d (.b b0), [lxO s (x : Int) e w b l])
   else some (.d (.b true), [lxO s ((x + expK q + (((s.drop x).drop (expK q)).takeWhile isDig).length : Nat) : Int) e w b l])) =
   some (.d (.b (b0 || decide (expN (s.drop x) ≠ 0))), [lxO s ((x + expN (s.drop x) : Nat) : Int) e w b l]) := by
   rw [hexp]
   by_cases hz : ((s.drop x).drop (expK q)).takeWhile isDig = []
   ·rw [if_pos hz, if_pos hz]; simp
   ·have := List.length_pos_iff.2 hz
    rw [if_neg hz, if_neg hz, decide_eq_true (by omega), Bool.or_true, Nat.add_assoc]
  rw [← hres, ← h3]
  have e43 := u8_eqb ((s.drop x).getD 1 0) 43
  have e45 := u8_eqb ((s.drop x).getD 1 0) 45
  rw [hd] at e43 e45 hp
  have k43 : ((43 : UInt8).toNat : Int) = 43 := rfl
  have k45 : ((45 : UInt8).toNat : Int) = 45 := rfl
  rw [k43] at e43
  rw [k45] at e45
  rw [hkk]
  generalize q.getD 0 0 = d at *
  unfold lxO at hp ⊢
  rw [t85_at119, st_T, so_I hp (by rfl) (by rfl), e43, e45]
  by_cases h43 : d = 43
  ·rw [if_pos (Or.inl h43), st_bt (beq_iff_eq.2 h43), interp_call_ret]; rfl
  ·rw [st_bf (beq_eq_false_iff_ne.2 h43), interp_call_ret]
   by_cases h45 : d = 45
   ·rw [if_pos (Or.inr h45), beq_iff_eq.2 h45]; rfl
   ·rw [if_neg (by rintro (h | h); exact h43 h; exact h45 h), beq_eq_false_iff_ne.2 h45]; rfl
end Go.Dn.Dec
namespace Go.Dn.Dec
open Go.Proofs
theorem frac_eq (t : List UInt8) : fracN t = if t.getD 0 0 = 46 ∧ isDig (t.getD 1 0) = true then 1 + ((t.drop 1).takeWhile isDig).length else 0 := by
 match t with
 | [] => rfl
 | [c] =>
  show 0 = _
  rw [if_neg]
  rintro ⟨-, h⟩
  exact absurd (show isDig 0 = true from h) (by decide)
 | c :: d :: q => rfl
theorem tail_look (s : List UInt8) (y : Nat) (hy : y ≤ s.length) (hs : s.length ≤ 10000) (e w : Int) (b : Bool) (l : List D) (b0 : Bool) :
  interp (rk Tryz.prog pol) (brB ((((s.drop y).getD 0 0).toNat : Int) == 101)
   (Tr.call (Task.at_ 142 1 [true, true, false, true, true, true] (sv 73 [(0, V.p 0 0), (3, V.d (D.b b0)), (41, V.d (D.b true))]) [] [lxO s (y : Int) e w b l]) Tr.ret)
   (Tr.call (Task.at_ 142 1 [true, true, false, true, true, true] (sv 73 [(0, V.p 0 0), (3, V.d (D.b b0)), (41, V.d (D.b ((((s.drop y).getD 0 0).toNat : Int) == 69)))]) [] [lxO s (y : Int) e w b l]) Tr.ret)) =
   some (.d (.b (b0 || decide (expN (s.drop y) ≠ 0))), [lxO s ((y + expN (s.drop y) : Nat) : Int) e w b l]) := by
 rw [← tail_2 s y hy hs e w b l b0]
 have e101 : ((((s.drop y).getD 0 0).toNat : Int) == 101) = ((s.drop y).getD 0 0 == 101) := u8_eqb _ 101
 have e69 : ((((s.drop y).getD 0 0).toNat : Int) == 69) = ((s.drop y).getD 0 0 == 69) := u8_eqb _ 69
 rw [e101, e69]
 unfold isE
 cases h : ((s.drop y).getD 0 0 == 101) with
 | true => rw [st_T, interp_call_ret, Bool.true_or]
 | false => rw [st_F, interp_call_ret, Bool.false_or]
theorem tail_1f (s : List UInt8) (x : Nat) (hx : x ≤ s.length) (hs : s.length ≤ 10000) (e w : Int) (b : Bool) (l : List D) :
  rk Tryz.prog pol (Task.at_ 142 1 [true, false, true, true] (sv 73 [(0, V.p 0 0), (3, V.d (D.b false)), (18, V.d (D.b false))]) [] [lxO s (x : Int) e w b l]) =
   some (.d (.b (decide (expN (s.drop x) ≠ 0))), [lxO s ((x + expN (s.drop x) : Nat) : Int) e w b l]) := by
 have hp : rk Tryz.prog pol (Task.call 86 [V.p 0 0, V.d (D.i .i64 0)] [lxO s (x : Int) e w b l]) = _ := peek_s s x 0 e w b l (by omega)
 have h := tail_look s x hx hs e w b l false
 rw [Bool.false_or] at h
 rw [← h]
 unfold lxO at hp ⊢
 rw [t85_at27, st_F, so_I hp (by rfl) (by rfl)]
theorem tail_1t (s : List UInt8) (x : Nat) (hx : x + 1 ≤ s.length) (hs : s.length ≤ 10000) (e w : Int) (b : Bool) (l : List D) (y : Nat) (hy : y = x + 1 + ((s.drop (x + 1)).takeWhile isDig).length) :
  rk Tryz.prog pol (Task.at_ 142 1 [true, false, true, true] (sv 73 [(0, V.p 0 0), (3, V.d (D.b false)), (18, V.d (D.b true))]) [] [lxO s (x : Int) e w b l]) =
   some (.d (.b true), [lxO s ((y + expN (s.drop y) : Nat) : Int) e w b l]) := by
 have hle := tw_len (s.drop (x + 1)) isDig
 rw [List.length_drop] at hle
 have hr := run_digit_s s (x + 1) hx (by omega) e w b l
 rw [← hy] at hr
 have hp : rk Tryz.prog pol (Task.call 86 [V.p 0 0, V.d (D.i .i64 0)] [lxO s (y : Int) e w b l]) = _ := peek_s s y 0 e w b l (by omega)
 have h := tail_look s y (by omega) hs e w b l true
 rw [Bool.true_or] at h
 have w1 : IntKind.i64.wrap ((x : Int) + 1) = ((x + 1 : Nat) : Int) := by rw [wrap_i64] <;> omega
 rw [← h]
 unfold lxO at hr hp ⊢
 rw [t85_at27, st_T, st_ob (a := V.d (D.i .i64 (x : Int))) (by rfl), asD_d, st_asI, Bool.and_true, st_if (by simp), w1, set1, so_0 hr (by rfl) (by rfl), so_I hp (by rfl) (by rfl)]
theorem tail_s (s : List UInt8) (x : Nat) (hx : x ≤ s.length) (hs : s.length ≤ 10000) (e w : Int) (b : Bool) (l : List D) :
  rk Tryz.prog pol (Task.call 142 [V.p 0 0] [lxO s (x : Int) e w b l]) =
   some (.d (.b (decide (fracN (s.drop x) ≠ 0 ∨ expN ((s.drop x).drop (fracN (s.drop x))) ≠ 0))), [lxO s ((x + (fracN (s.drop x) + expN ((s.drop x).drop (fracN (s.drop x)))) : Nat) : Int) e w b l]) := by
 have hp0 : rk Tryz.prog pol (Task.call 86 [V.p 0 0, V.d (D.i .i64 0)] [lxO s (x : Int) e w b l]) = _ := peek_s s x 0 e w b l (by omega)
 have hp1 : rk Tryz.prog pol (Task.call 86 [V.p 0 0, V.d (D.i .i64 1)] [lxO s (x : Int) e w b l]) = _ := peek_s s x 1 e w b l (by omega)
 have hg := digit_s ((s.drop x).getD 1 0)
 have e46 : ((((s.drop x).getD 0 0).toNat : Int) == 46) = ((s.drop x).getD 0 0 == 46) := u8_eqb _ 46
 have hf := frac_eq (s.drop x)
 have h1f := tail_1f s x hx hs e w b l
 have none_ : fracN (s.drop x) = 0 → some (V.d (.b (decide (expN (s.drop x) ≠ 0))), [lxO s ((x + expN (s.drop x) : Nat) : Int) e w b l]) =
   some (V.d (.b (decide (fracN (s.drop x) ≠ 0 ∨ expN ((s.drop x).drop (fracN (s.drop x))) ≠ 0))), [lxO s ((x + (fracN (s.drop x) + expN ((s.drop x).drop (fracN (s.drop x)))) : Nat) : Int) e w b l]) := by
  intro h0
  rw [h0, List.drop_zero, Nat.zero_add]
  simp
 by_cases h46 : (s.drop x).getD 0 0 = 46
 ·cases hd : isDig ((s.drop x).getD 1 0) with
  | true =>
   rw [if_pos ⟨h46, hd⟩] at hf
   have hx1 : x + 1 ≤ s.length := by
    rcases Nat.lt_or_ge x s.length with h | h
    ·omega
    ·rw [List.drop_eq_nil_of_le h] at h46; exact absurd h46 (by decide)
   rw [hd] at hg
   have h1t := tail_1t s x hx1 hs e w b l (x + fracN (s.drop x)) (by rw [hf, List.drop_drop]; omega)
   rw [List.drop_drop, ← Nat.add_assoc, decide_eq_true (Or.inl (by omega)), ← h1t]
   unfold lxO at hp0 hp1 ⊢
   rw [t85, so_I hp0 (by rfl) (by rfl), e46, st_bt (beq_iff_eq.2 h46), so_I hp1 (by rfl) (by rfl), st_B hg, interp_call_ret]
  | false =>
   rw [if_neg (by rw [hd]; rintro ⟨-, h⟩; cases h)] at hf
   rw [hd] at hg
   rw [← none_ hf, ← h1f]
   unfold lxO at hp0 hp1 ⊢
   rw [t85, so_I hp0 (by rfl) (by rfl), e46, st_bt (beq_iff_eq.2 h46), so_I hp1 (by rfl) (by rfl), st_B hg, interp_call_ret]
 ·rw [if_neg (fun h => h46 h.1)] at hf
  rw [← none_ hf, ← h1f]
  unfold lxO at hp0 ⊢
  rw [t85, so_I hp0 (by rfl) (by rfl), e46, st_bf (beq_eq_false_iff_ne.2 h46), interp_call_ret]
end Go.Dn.Dec
namespace Go.Dn.Dec
open Go.Proofs
theorem set4 (a b c d e v : V) : [a, b, c, d, e].set 4 v = [a, b, c, d, v] := rfl
theorem num_end (s : List UInt8) (x : Nat) (hx : x ≤ 1000000) (e w : Int) (b : Bool) (L : List Tok) (hL : L.length ≤ 100000) (T : Tok) :
  rk Tryz.prog pol (Task.at_ 92 1 [true, true, true, true, true, true, true, true, true, true] (sv 192 [(0, V.p 0 0), (7, V.p 1 0)]) []
   [Ob.cells [V.d (D.i .i64 (T.kind : Int)), V.d (D.s T.text), V.d (D.i .i64 T.n), V.d (D.i .u64 (T.d : Int)), V.d (D.i .i64 (T.at_ : Int))] [], lxO s (x : Int) e w b (tks L)]) =
   some (.t [], [if behB s x = true then lxO s x (if e = 0 then 2 else e) (if e = 0 then (x : Int) else w) false (tks (L ++ [T])) else lxO s x e w false (tks (L ++ [T]))]) := by
 have hsn := tks_snoc L T
 unfold Tok.D at hsn
 have hb := behind_s s x e w false (tks (L ++ [T])) hx
 unfold lxO at hb ⊢
 rw [t47_at2047, st_ob (a := V.d (D.l b (tks L))) (by rfl)]
 show interp (rk Tryz.prog pol) (asD (V.d (D.l b (tks L))) _) = _
 rw [asD_d, asL_l, tks_head, st_ift, Bool.or_true, st_ift, st_if (by rw [tks_len]; omega), Bool.and_true, st_if (by simp), hsn, Bool.and_false, set4]
 cases hB : behB s x with
 | true =>
  rw [hB, if_pos rfl] at hb
  rw [so_0 hb (by rfl) (by rfl), interp_ret, if_pos rfl]
 | false =>
  rw [hB, if_neg (by decide)] at hb
  rw [so_0 hb (by rfl) (by rfl), interp_ret, if_neg (by decide)]
end Go.Dn.Dec
namespace Go.Dn.Dec
open Go.Proofs
def endO (s : List UInt8) (x : Nat) (e w : Int) (L : List Tok) (T : Tok) : Ob :=
 if behB s x = true then lxO s x (if e = 0 then 2 else e) (if e = 0 then (x : Int) else w) false (tks (L ++ [T])) else lxO s x e w false (tks (L ++ [T]))
def tkO (k n : Int) (d : Nat) (a : Nat) : Ob := .cells [V.d (D.i .i64 k), V.d (D.s []), V.d (D.i .i64 n), V.d (D.i .u64 (d : Int)), V.d (D.i .i64 (a : Int))] []
theorem num_dbl (s : List UInt8) (x a d : Nat) (hx : x ≤ 1000000) (e w : Int) (b : Bool) (L : List Tok) (hL : L.length ≤ 100000) :
  rk Tryz.prog pol (Task.at_ 92 1 [true, true, true, true, false, true, true, true, true, true, true, true, true, true] (sv 192 [(0, V.p 0 0), (7, V.p 1 0), (10, V.d (D.i .u64 (d : Int)))]) [] [tkO 3 0 0 a, lxO s (x : Int) e w b (tks L)]) =
   some (.t [], [endO s x e w L ⟨3, [], 0, d, a⟩]) := by
 have h := num_end s x hx e w b L hL ⟨3, [], 0, d, a⟩
 unfold endO tkO
 rw [← h]
 unfold lxO
 rw [t47_at32255, interp_call_ret]
 rfl
theorem num_int2 (s : List UInt8) (x a : Nat) (n : Int) (hx : x ≤ 1000000) (e w : Int) (b : Bool) (L : List Tok) (hL : L.length ≤ 100000) :
  rk Tryz.prog pol (Task.at_ 92 1 [true, true, true, false, true, false, true, true, true, true, true, true, true, true, true] (sv 192 [(0, V.p 0 0), (7, V.p 1 0), (8, V.d (D.i .i64 n))]) [] [tkO 3 0 0 a, lxO s (x : Int) e w b (tks L)]) =
   some (.t [], [endO s x e w L ⟨2, [], n, 0, a⟩]) := by
 have h := num_end s x hx e w b L hL ⟨2, [], n, 0, a⟩
 unfold endO tkO
 rw [← h]
 unfold lxO
 rw [t47_at62975, interp_call_ret]
 rfl
theorem num_int (s : List UInt8) (x a : Nat) (n : Int) (ok : Bool) (hx : x ≤ 1000000) (e w : Int) (b : Bool) (L : List Tok) (hL : L.length ≤ 100000) :
  rk Tryz.prog pol (Task.at_ 92 1 [true, true, false, true, false, true, true, true, true, true, true, true, true, true]
   (sv 192 [(0, V.p 0 0), (2, V.d (D.i .i64 (a : Int))), (7, V.p 1 0), (8, V.d (D.i .i64 n)), (9, V.d (D.b ok))]) [] [tkO 3 0 0 a, lxO s (x : Int) e w b (tks L)]) =
   some (.t [], [endO s x (if ok = true then e else if e = 0 then 5 else e) (if ok = true then w else if e = 0 then (a : Int) else w) L ⟨2, [], n, 0, a⟩]) := by
 cases ok with
 | true =>
  have h := num_int2 s x a n hx e w b L hL
  rw [if_pos rfl, if_pos rfl, ← h]
  unfold tkO lxO
  rw [t47_at30207, st_nt, interp_call_ret]
 | false =>
  have h := num_int2 s x a n hx (if e = 0 then 5 else e) (if e = 0 then (a : Int) else w) b L hL
  have hf := fails_s s (x : Int) e w 5 (a : Int) b (tks L)
  have e1 : (if false = true then e else if e = 0 then 5 else e) = if e = 0 then 5 else e := if_neg (by decide)
  have e2 : (if false = true then w else if e = 0 then (a : Int) else w) = if e = 0 then (a : Int) else w := if_neg (by decide)
  rw [e1, e2, ← h]
  unfold tkO
  unfold lxO at hf ⊢
  rw [t47_at30207, st_nf, so_0 hf (by rfl) (by rfl), interp_call_ret]
end Go.Dn.Dec
namespace Go.Dn.Dec
open Go.Proofs
def Wrote (s : List UInt8) (a : Nat) (w : Int) (L : List Tok) (r : WdR) (o : Option Out) : Prop :=
 match r with
 | .inr (e, w') => e ≠ 0 ∧ ∃ (x : Int) (b : Bool) (L' : List Tok), o = some (.t [], [lxO s x e (w' : Int) b (tks L')])
 | .inl (t, n) => o = some (.t [], [lxO s ((a + n : Nat) : Int) 0 w false (tks (L ++ [t]))])
theorem beh_eq (s : List UInt8) (a n : Nat) (t : Tok) : behW (s.drop a) n a t = if behB s (a + n) = true then .inr (2, a + n) else .inl (t, n) := by
 unfold behW behB
 rw [List.drop_drop]
 cases h : s.drop (a + n) with
 | nil => rfl
 | cons c q => rfl
def ndB (r : List UInt8) : Bool := !isDig (r.getD 0 0) && (!(r.getD 0 0 == 46 && isDig (r.getD 1 0)))
theorem nd_eq (r : List UInt8) : (ndB r = true) ↔ (r.takeWhile isDig = [] ∧ fracN r = 0) := by
 have h0 : isDig 0 = false := by decide
 unfold ndB
 rw [frac_eq]
 have hd := dig_at r 0
 rw [List.drop_zero] at hd
 cases h1 : isDig (r.getD 0 0) with
 | true =>
  have := hd.1 h1
  simp [this]
 | false =>
  have hn : r.takeWhile isDig = [] := by
   rcases Classical.em (r.takeWhile isDig = []) with h | h
   ·exact h
   ·have := hd.2 h; rw [h1] at this; cases this
  rw [hn]
  clear hd h1 hn
  generalize r.getD 0 0 = x
  generalize isDig (r.getD 1 0) = y
  by_cases h46 : x = 46 <;> cases y <;> simp [h46]
theorem num_13t (s : List UInt8) (a : Nat) (ha : a ≤ 10000) (w : Int) (b : Bool) (l : List D) :
  rk Tryz.prog pol (Task.at_ 92 1 [true, false, true] (sv 192 [(0, V.p 0 0), (2, V.d (D.i .i64 (a : Int))), (42, V.d (D.b true))]) [] [lxO s (a : Int) 0 w b l]) =
   rk Tryz.prog pol (Task.at_ 92 1 [true, false, true, true] (sv 192 [(0, V.p 0 0), (2, V.d (D.i .i64 (a : Int))), (103, V.d (D.b (ndB (s.drop (a + 1)))))]) [] [lxO s ((a + 1 : Nat) : Int) 0 w b l]) := by
 have hp0 : rk Tryz.prog pol (Task.call 86 [V.p 0 0, V.d (D.i .i64 0)] [lxO s ((a + 1 : Nat) : Int) 0 w b l]) = _ := peek_s s (a + 1) 0 0 w b l (by omega)
 have hp1 : rk Tryz.prog pol (Task.call 86 [V.p 0 0, V.d (D.i .i64 1)] [lxO s ((a + 1 : Nat) : Int) 0 w b l]) = _ := peek_s s (a + 1) 1 0 w b l (by omega)
 have hg0 := digit_s ((s.drop (a + 1)).getD 0 0)
 have hg1 := digit_s ((s.drop (a + 1)).getD 1 0)
 have e46 : ((((s.drop (a + 1)).getD 0 0).toNat : Int) == 46) = ((s.drop (a + 1)).getD 0 0 == 46) := u8_eqb _ 46
 have w1 : IntKind.i64.wrap ((a : Int) + 1) = ((a + 1 : Nat) : Int) := by rw [wrap_i64] <;> omega
 unfold ndB
 unfold lxO at hp0 hp1 ⊢
 rw [t47_at13, st_T, w1, so_I hp0 (by rfl) (by rfl), st_B hg0]
 cases h0 : isDig ((s.drop (a + 1)).getD 0 0) with
 | true => rw [st_nt, interp_call_ret, Bool.not_true, Bool.false_and]
 | false =>
  rw [st_nf, so_I hp0 (by rfl) (by rfl), e46]
  cases h1 : ((s.drop (a + 1)).getD 0 0 == 46) with
  | false => rw [st_F, interp_call_ret]; rfl
  | true => rw [st_T, so_I hp1 (by rfl) (by rfl), st_B hg1, interp_call_ret]; rfl
theorem num_61f (s : List UInt8) (u a : Nat) (hu : u ≤ 10000) (w : Int) (b : Bool) (l : List D) :
  rk Tryz.prog pol (Task.at_ 92 1 [true, true, true, false, true] (sv 192 [(0, V.p 0 0), (2, V.d (D.i .i64 (a : Int))), (77, V.d (D.b false))]) [] [lxO s (u : Int) 0 w b l]) =
   rk Tryz.prog pol (Task.at_ 92 1 [true, false, true, true] (sv 192 [(0, V.p 0 0), (2, V.d (D.i .i64 (a : Int))), (103, V.d (D.b (ndB (s.drop u))))]) [] [lxO s (u : Int) 0 w b l]) := by
 have hp0 : rk Tryz.prog pol (Task.call 86 [V.p 0 0, V.d (D.i .i64 0)] [lxO s (u : Int) 0 w b l]) = _ := peek_s s u 0 0 w b l (by omega)
 have hp1 : rk Tryz.prog pol (Task.call 86 [V.p 0 0, V.d (D.i .i64 1)] [lxO s (u : Int) 0 w b l]) = _ := peek_s s u 1 0 w b l (by omega)
 have hg0 := digit_s ((s.drop u).getD 0 0)
 have hg1 := digit_s ((s.drop u).getD 1 0)
 have e46 : ((((s.drop u).getD 0 0).toNat : Int) == 46) = ((s.drop u).getD 0 0 == 46) := u8_eqb _ 46
 unfold ndB
 unfold lxO at hp0 hp1 ⊢
 rw [t47_at61_1, st_F, so_I hp0 (by rfl) (by rfl), st_B hg0]
 cases h0 : isDig ((s.drop u).getD 0 0) with
 | true => rw [st_nt, interp_call_ret, Bool.not_true, Bool.false_and]
 | false =>
  rw [st_nf, so_I hp0 (by rfl) (by rfl), e46]
  cases h1 : ((s.drop u).getD 0 0 == 46) with
  | false => rw [st_F, interp_call_ret]; rfl
  | true => rw [st_T, so_I hp1 (by rfl) (by rfl), st_B hg1, interp_call_ret]; rfl
theorem wrote_end (s : List UInt8) (a n : Nat) (w : Int) (L : List Tok) (T : Tok) : Wrote s a w L (behW (s.drop a) n a T) (some (.t [], [endO s (a + n) 0 w L T])) := by
 rw [beh_eq]
 unfold endO
 cases h : behB s (a + n) with
 | true => exact ⟨by decide, _, _, _, rfl⟩
 | false => rfl
theorem wrote_err (s : List UInt8) (a x w' : Nat) (e w : Int) (he : e ≠ 0) (L : List Tok) (T : Tok) : Wrote s a w L (.inr (e, w')) (some (.t [], [endO s x e (w' : Int) L T])) := by
 unfold endO
 cases h : behB s x with
 | true => rw [if_pos rfl, if_neg he, if_neg he]; exact ⟨he, _, _, _, rfl⟩
 | false => exact ⟨he, _, _, _, rfl⟩
theorem num_27f (s : List UInt8) (a sg : Nat) (hs : s.length ≤ 10000) (hsg : (s.drop a).take sg = [] ∨ (s.drop a).take sg = [43] ∨ (s.drop a).take sg = [45]) (hsl : sg = ((s.drop a).take sg).length)
    (hnd : ndB (s.drop (a + sg)) = false) (ha : a + sg ≤ s.length) (w : Int) (b : Bool) (L : List Tok) (hL : L.length ≤ 100000) :
    Wrote s a w L
      (let u := s.drop (a + sg)
       let ds := u.takeWhile isDig
       let fa := fracN (u.drop ds.length)
       let fb := expN (u.drop (ds.length + fa))
       let n := sg + (ds.length + (fa + fb))
       if fa = 0 ∧ fb = 0 then
         let v := wholeB ((s.drop a).head? == some 45) (numB ds)
         if 60 < ds.length then .inr (4, a)
         else if v.2 = false then .inr (5, a)
         else behW (s.drop a) n a ⟨2, [], v.1, 0, a⟩
       else
         let p := parseB ((s.drop a).take n)
         if p.2 ≠ 0 then .inr (p.2, a) else behW (s.drop a) n a ⟨3, [], 0, p.1, a⟩)
      (rk Tryz.prog pol (Task.at_ 92 1 [true, false, true, true] (sv 192 [(0, V.p 0 0), (2, V.d (D.i .i64 (a : Int))), (103, V.d (D.b false))]) [] [lxO s ((a + sg : Nat) : Int) 0 w b (tks L)])) := by
  have hr := run_digit_s s (a + sg) ha (by omega) 0 w b (tks L)
  have hself := take_self (s.drop (a + sg)) isDig
  have hall := take_all isDig (s.drop (a + sg))
  have hle := tw_len (s.drop (a + sg)) isDig
  rw [List.length_drop] at hle
  have hnd' : ¬ ((s.drop (a + sg)).takeWhile isDig = [] ∧ fracN (s.drop (a + sg)) = 0) := fun h => by
    have := (nd_eq _).2 h; rw [hnd] at this; cases this
  simp only
  generalize hds : (s.drop (a + sg)).takeWhile isDig = ds at *
  have htl := tail_s s (a + sg + ds.length) (by omega) hs 0 w b (tks L)
  have hdd : s.drop (a + sg + ds.length) = (s.drop (a + sg)).drop ds.length := by rw [List.drop_drop]
  have hdd2 : (s.drop (a + sg + ds.length)).drop (fracN (s.drop (a + sg + ds.length))) = (s.drop (a + sg)).drop (ds.length + fracN ((s.drop (a + sg)).drop ds.length)) := by
    rw [hdd, List.drop_drop]
  rw [hdd2, hdd] at htl
  have hxl : a + sg + ds.length + (fracN ((s.drop (a + sg)).drop ds.length) + expN ((s.drop (a + sg)).drop (ds.length + fracN ((s.drop (a + sg)).drop ds.length)))) ≤ s.length := by
    have h2 := fracN_le ((s.drop (a + sg)).drop ds.length)
    have h3 := expN_le ((s.drop (a + sg)).drop (ds.length + fracN ((s.drop (a + sg)).drop ds.length)))
    rw [List.length_drop, List.length_drop] at h2 h3
    omega
  generalize hfa : fracN ((s.drop (a + sg)).drop ds.length) = fa at *
  generalize hfb : expN ((s.drop (a + sg)).drop (ds.length + fa)) = fb at *
  have ex : a + sg + ds.length + (fa + fb) = a + (sg + (ds.length + (fa + fb))) := by omega
  rw [ex] at htl hxl
  have hcut : List.take ((((a + (sg + (ds.length + (fa + fb))) : Nat) : Int)).toNat - (a : Int).toNat) (List.drop (a : Int).toNat s) = (s.drop a).take (sg + (ds.length + (fa + fb))) := by
    rw [Int.toNat_natCast, Int.toNat_natCast, Nat.add_sub_cancel_left]
  have hwr : IntKind.i64.wrap (((a + sg + ds.length : Nat) : Int) - ((a + sg : Nat) : Int)) = (ds.length : Int) := by rw [wrap_i64] <;> omega
  by_cases hd : fa = 0 ∧ fb = 0
  · rw [if_pos hd]
    obtain ⟨rfl, rfl⟩ := hd
    rw [decide_eq_false (by simp)] at htl
    rw [Nat.add_zero, Nat.add_zero] at *
    have htk : (s.drop a).take (sg + ds.length) = (s.drop a).take sg ++ ds := by
      rw [List.take_add, List.drop_drop, ← hself]
    have hds0 : ds ≠ [] := by
      intro e
      apply hnd'
      refine ⟨e, ?_⟩
      have := hfa
      rw [e] at this
      exact this
    have hne : (s.drop a).take sg ++ ds ≠ [] := by simp [hds0]
    have hh : ((s.drop a).take sg ++ ds).head? = (s.drop a).head? := by
      rw [← htk]
      have : sg + ds.length ≠ 0 := by have := List.length_pos_iff.2 hds0; omega
      rw [List.head?_take, if_neg this]
    obtain ⟨N, hW, hN⟩ := whole_s ((s.drop a).take sg) ds hsg (fun c h => List.all_eq_true.1 hall c h) hne (by rw [← htk, List.length_take, List.length_drop]; omega)
    rw [hh] at hW hN
    rw [← htk] at hW
    generalize hv : wholeB ((s.drop a).head? == some 45) (numB ds) = v at *
    have h4 := fails_s s ((a + (sg + ds.length) : Nat) : Int) 0 w 4 (a : Int) b (tks L)
    rw [if_pos rfl, if_pos rfl] at h4
    by_cases h60 : 60 < ds.length
    · rw [if_pos h60]
      have hI := num_int s (a + (sg + ds.length)) a N v.2 (by omega) 4 (a : Int) b L hL
      have e1 : (if v.2 = true then (4 : Int) else if (4 : Int) = 0 then 5 else 4) = 4 := by split <;> rfl
      have e2 : (if v.2 = true then (a : Int) else if (4 : Int) = 0 then (a : Int) else (a : Int)) = (a : Int) := by split <;> rfl
      rw [e1, e2] at hI
      have hgo : rk Tryz.prog pol (Task.at_ 92 1 [true, false, true, true] (sv 192 [(0, V.p 0 0), (2, V.d (D.i .i64 (a : Int))), (103, V.d (D.b false))]) [] [lxO s ((a + sg : Nat) : Int) 0 w b (tks L)]) =
          some (.t [], [endO s (a + (sg + ds.length)) 4 (a : Int) L ⟨2, [], N, 0, a⟩]) := by
        rw [← hI]
        unfold tkO
        unfold lxO at hr htl h4 ⊢
        rw [t47_at27, st_F, st_ob (a := V.d (D.i .i64 ((a + sg : Nat) : Int))) (by rfl), asD_d, st_asI, so_0 hr (by rfl) (by rfl), st_ob (a := V.d (D.i .i64 ((a + sg + ds.length : Nat) : Int))) (by rfl), asD_d, st_asI,
          so_B htl (by rfl) (by rfl), st_ob (a := V.d (D.s s)) (by rfl), asD_d, asS_s, st_ob (a := V.d (D.i .i64 ((a + (sg + ds.length) : Nat) : Int))) (by rfl), asD_d, st_asI, st_if (by omega), st_if (by omega), st_nf,
          hcut, st_IB hW, hwr, st_t (by omega), so_0 h4 (by rfl) (by rfl), interp_call_ret]
        rfl
      rw [hgo]
      exact wrote_err s a _ a 4 w (by decide) L _
    · rw [if_neg h60]
      have hI := num_int s (a + (sg + ds.length)) a N v.2 (by omega) 0 w b L hL
      have hgo : rk Tryz.prog pol (Task.at_ 92 1 [true, false, true, true] (sv 192 [(0, V.p 0 0), (2, V.d (D.i .i64 (a : Int))), (103, V.d (D.b false))]) [] [lxO s ((a + sg : Nat) : Int) 0 w b (tks L)]) =
          some (.t [], [endO s (a + (sg + ds.length)) (if v.2 = true then 0 else if (0 : Int) = 0 then 5 else 0) (if v.2 = true then w else if (0 : Int) = 0 then (a : Int) else w) L ⟨2, [], N, 0, a⟩]) := by
        rw [← hI]
        unfold tkO
        unfold lxO at hr htl ⊢
        rw [t47_at27, st_F, st_ob (a := V.d (D.i .i64 ((a + sg : Nat) : Int))) (by rfl), asD_d, st_asI, so_0 hr (by rfl) (by rfl), st_ob (a := V.d (D.i .i64 ((a + sg + ds.length : Nat) : Int))) (by rfl), asD_d, st_asI,
          so_B htl (by rfl) (by rfl), st_ob (a := V.d (D.s s)) (by rfl), asD_d, asS_s, st_ob (a := V.d (D.i .i64 ((a + (sg + ds.length) : Nat) : Int))) (by rfl), asD_d, st_asI, st_if (by omega), st_if (by omega), st_nf,
          hcut, st_IB hW, hwr, st_f (by omega), interp_call_ret]
        rfl
      rw [hgo]
      cases hv2 : v.2 with
      | false => exact wrote_err s a _ a 5 w (by decide) L _
      | true =>
        rw [hN hv2]
        exact wrote_end s a _ w L _
  · rw [if_neg hd]
    have hdd3 : decide (fa ≠ 0 ∨ fb ≠ 0) = true := decide_eq_true (by omega)
    rw [hdd3] at htl
    generalize hn : sg + (ds.length + (fa + fb)) = n at *
    have hps := parse_s ((s.drop a).take n) (by rw [List.length_take, List.length_drop]; omega)
    generalize parseB ((s.drop a).take n) = p at *
    by_cases hp : p.2 ≠ 0
    · rw [if_pos hp]
      have hf := fails_s s ((a + n : Nat) : Int) 0 w p.2 (a : Int) b (tks L)
      rw [if_pos rfl, if_pos rfl] at hf
      have hI := num_dbl s (a + n) a p.1 (by omega) p.2 (a : Int) b L hL
      have hgo : rk Tryz.prog pol (Task.at_ 92 1 [true, false, true, true] (sv 192 [(0, V.p 0 0), (2, V.d (D.i .i64 (a : Int))), (103, V.d (D.b false))]) [] [lxO s ((a + sg : Nat) : Int) 0 w b (tks L)]) =
          some (.t [], [endO s (a + n) p.2 (a : Int) L ⟨3, [], 0, p.1, a⟩]) := by
        rw [← hI]
        unfold tkO
        unfold lxO at hr htl hf ⊢
        rw [t47_at27, st_F, st_ob (a := V.d (D.i .i64 ((a + sg : Nat) : Int))) (by rfl), asD_d, st_asI, so_0 hr (by rfl) (by rfl), st_ob (a := V.d (D.i .i64 ((a + sg + ds.length : Nat) : Int))) (by rfl), asD_d, st_asI,
          so_B htl (by rfl) (by rfl), st_ob (a := V.d (D.s s)) (by rfl), asD_d, asS_s, st_ob (a := V.d (D.i .i64 ((a + n : Nat) : Int))) (by rfl), asD_d, st_asI, st_if (by omega), st_if (by omega), st_nt,
          hcut, st_II hps, st_ne_t hp, so_0 hf (by rfl) (by rfl), interp_call_ret]
        rfl
      rw [hgo]
      exact wrote_err s a _ a p.2 w hp L _
    · rw [if_neg hp]
      have hp0 : p.2 = 0 := by omega
      have hI := num_dbl s (a + n) a p.1 (by omega) 0 w b L hL
      have hgo : rk Tryz.prog pol (Task.at_ 92 1 [true, false, true, true] (sv 192 [(0, V.p 0 0), (2, V.d (D.i .i64 (a : Int))), (103, V.d (D.b false))]) [] [lxO s ((a + sg : Nat) : Int) 0 w b (tks L)]) =
          some (.t [], [endO s (a + n) 0 w L ⟨3, [], 0, p.1, a⟩]) := by
        rw [← hI]
        unfold tkO
        unfold lxO at hr htl ⊢
        rw [t47_at27, st_F, st_ob (a := V.d (D.i .i64 ((a + sg : Nat) : Int))) (by rfl), asD_d, st_asI, so_0 hr (by rfl) (by rfl), st_ob (a := V.d (D.i .i64 ((a + sg + ds.length : Nat) : Int))) (by rfl), asD_d, st_asI,
          so_B htl (by rfl) (by rfl), st_ob (a := V.d (D.s s)) (by rfl), asD_d, asS_s, st_ob (a := V.d (D.i .i64 ((a + n : Nat) : Int))) (by rfl), asD_d, st_asI, st_if (by omega), st_if (by omega), st_nt,
          hcut, st_II hps, st_ne_f hp0, interp_call_ret]
        rfl
      rw [hgo]
      exact wrote_end s a n w L _
end Go.Dn.Dec
namespace Go.Dn.Dec
open Go.Proofs
theorem num_27t (s : List UInt8) (a : Nat) (x w : Int) (b : Bool) (L : List Tok) :
  Wrote s a w L (.inr (2, a)) (rk Tryz.prog pol (Task.at_ 92 1 [true, false, true, true] (sv 192 [(0, V.p 0 0), (2, V.d (D.i .i64 (a : Int))), (103, V.d (D.b true))]) [] [lxO s x 0 w b (tks L)])) := by
 have hf := fails_s s x 0 w 2 (a : Int) b (tks L)
 rw [if_pos rfl, if_pos rfl] at hf
 refine ⟨by decide, x, b, L, ?_⟩
 unfold lxO at hf ⊢
 rw [t47_at27, st_T, so_0 hf (by rfl) (by rfl), interp_ret]
def numT (r : List UInt8) (sg a : Nat) : WdR :=
 let u := r.drop sg
 if u.takeWhile isDig = [] ∧ fracN u = 0 then .inr (2, a)
 else
  let ds := u.takeWhile isDig
  let fa := fracN (u.drop ds.length)
  let fb := expN (u.drop (ds.length + fa))
  let n := sg + (ds.length + (fa + fb))
  if fa = 0 ∧ fb = 0 then
   let v := wholeB (r.head? == some 45) (numB ds)
   if 60 < ds.length then .inr (4, a)
   else if v.2 = false then .inr (5, a)
   else behW r n a ⟨2, [], v.1, 0, a⟩
  else
   let p := parseB (r.take n)
   if p.2 ≠ 0 then .inr (p.2, a) else behW r n a ⟨3, [], 0, p.1, a⟩
theorem numW_eq (r : List UInt8) (a : Nat) : numW r a =
  if signN r = 0 ∧ r.head? = some 48 ∧ (r.drop 1).head? = some 120 ∧ ((r.drop 2).takeWhile hexB) ≠ [] then hexW r a else numT r (signN r) a := rfl
theorem num_27 (s : List UInt8) (a sg : Nat) (hs : s.length ≤ 10000) (hsg : (s.drop a).take sg = [] ∨ (s.drop a).take sg = [43] ∨ (s.drop a).take sg = [45]) (hsl : sg = ((s.drop a).take sg).length)
  (ha : a + sg ≤ s.length) (w : Int) (b : Bool) (L : List Tok) (hL : L.length ≤ 100000) :
  Wrote s a w L (numT (s.drop a) sg a)
   (rk Tryz.prog pol (Task.at_ 92 1 [true, false, true, true] (sv 192 [(0, V.p 0 0), (2, V.d (D.i .i64 (a : Int))), (103, V.d (D.b (ndB (s.drop (a + sg)))))]) [] [lxO s ((a + sg : Nat) : Int) 0 w b (tks L)])) := by
 cases h : ndB (s.drop (a + sg)) with
 | true =>
  have := (nd_eq _).1 h
  unfold numT
  simp only
  rw [List.drop_drop, if_pos this]
  exact num_27t s a _ w b L
 | false =>
  have hn : ¬ ((s.drop (a + sg)).takeWhile isDig = [] ∧ fracN (s.drop (a + sg)) = 0) := fun e => by have := (nd_eq _).2 e; rw [h] at this; cases this
  have := num_27f s a sg hs hsg hsl h ha w b L hL
  unfold numT
  simp only at this ⊢
  rw [List.drop_drop, if_neg hn]
  exact this
theorem hex_at (t : List UInt8) (k : Nat) : hexB (t.getD k 0) = true ↔ (t.drop k).takeWhile hexB ≠ [] := by
 have h0 : hexB 0 = false := by decide
 have hh : t.getD k 0 = (t.drop k).getD 0 0 := by
  rw [List.getD_eq_getElem?_getD, List.getD_eq_getElem?_getD, List.getElem?_drop, Nat.add_zero]
 rw [hh]
 cases t.drop k with
 | nil => simp [h0]
 | cons c q =>
  show hexB c = true ↔ _
  rw [List.takeWhile_cons]
  cases hexB c <;> simp
theorem hex_go (s : List UInt8) (a y : Nat) (w : Int) (b : Bool) (L : List Tok) (T : Tok) (er ew : Int) (hy : y ≤ 1000000)
  (h1 : rk Tryz.prog pol (Task.call 140 [V.p 0 0, V.d (D.i .i64 (a : Int))] [lxO s a 0 w b (tks L)]) = some (.t [], [lxO s (y : Int) er ew false (tks (L ++ [T]))])) :
  rk Tryz.prog pol (Task.at_ 92 1 [true, true, true, false, true] (sv 192 [(0, V.p 0 0), (2, V.d (D.i .i64 (a : Int))), (77, V.d (D.b true))]) [] [lxO s (a : Int) 0 w b (tks L)]) =
   some (.t [], [endO s y er ew L T]) := by
 have hb := behind_s s y er ew false (tks (L ++ [T])) hy
 unfold endO
 cases hB : behB s y with
 | true =>
  rw [hB, if_pos rfl] at hb
  rw [if_pos rfl]
  unfold lxO at h1 hb ⊢
  rw [t47_at61_1, st_T, so_0 h1 (by rfl) (by rfl), so_0 hb (by rfl) (by rfl), interp_ret]
 | false =>
  rw [hB, if_neg (by decide)] at hb
  rw [if_neg (by decide)]
  unfold lxO at h1 hb ⊢
  rw [t47_at61_1, st_T, so_0 h1 (by rfl) (by rfl), so_0 hb (by rfl) (by rfl), interp_ret]
theorem num_hex (s : List UInt8) (a : Nat) (ha : a + 2 ≤ s.length) (hs : s.length ≤ 10000) (w : Int) (b : Bool) (L : List Tok) (hL : L.length ≤ 100000) (hne : ((s.drop a).drop 2).takeWhile hexB ≠ []) :
  Wrote s a w L (hexW (s.drop a) a)
   (rk Tryz.prog pol (Task.at_ 92 1 [true, true, true, false, true] (sv 192 [(0, V.p 0 0), (2, V.d (D.i .i64 (a : Int))), (77, V.d (D.b true))]) [] [lxO s (a : Int) 0 w b (tks L)])) := by
 rw [List.drop_drop] at hne
 obtain ⟨T, h1, h2⟩ := hexes_s s a ha hs w b L hL hne
 have hle := tw_len (s.drop (a + 2)) hexB
 rw [List.length_drop] at hle
 unfold hexW
 rw [List.drop_drop]
 simp only at h1 ⊢
 generalize (s.drop (a + 2)).takeWhile hexB = h at *
 have hgo := hex_go s a (a + 2 + h.length) w b L T _ _ (by omega) h1
 rw [hgo]
 by_cases h16 : 16 < h.length
 ·rw [if_pos h16, if_pos h16]
  exact wrote_err s a _ a 4 w (by decide) L T
 ·by_cases h63 : 2 ^ 63 ≤ hexV h
  ·rw [if_neg h16, if_pos h63, if_neg h16, if_pos h63]
   exact wrote_err s a _ a 5 w (by decide) L T
  ·rw [if_neg h16, if_neg h63, if_neg h16, if_neg h63, if_pos rfl, h2 h16 h63, Nat.add_assoc]
   exact wrote_end s a (2 + h.length) w L _
theorem numtok_s (s : List UInt8) (a : Nat) (c : UInt8) (q : List UInt8) (hd : s.drop a = c :: q) (hs : s.length ≤ 10000) (w : Int) (b : Bool) (L : List Tok) (hL : L.length ≤ 100000) :
    Wrote s a w L (numW (s.drop a) a) (rk Tryz.prog pol (Task.call 92 [V.p 0 0] [lxO s (a : Int) 0 w b (tks L)])) := by
  have hlen : (s.drop a).length = s.length - a := List.length_drop ..
  rw [hd, List.length_cons] at hlen
  have g : getI s (a : Int) = some c := by
    rw [getI_nat]
    have := congrArg List.head? hd
    rw [List.head?_drop] at this
    simpa using this
  have e43 : ((c.toNat : Int) == 43) = (c == 43) := u8_eqb c 43
  have e45 : ((c.toNat : Int) == 45) = (c == 45) := u8_eqb c 45
  have e48 : ((c.toNat : Int) == 48) = (c == 48) := u8_eqb c 48
  rw [numW_eq]
  by_cases hsgn : c = 43 ∨ c = 45
  · have hsg : signN (s.drop a) = 1 := by rw [hd]; exact if_pos hsgn
    rw [hsg, if_neg (by omega)]
    have ht : (s.drop a).take 1 = [c] := by rw [hd]; rfl
    have hgo : rk Tryz.prog pol (Task.call 92 [V.p 0 0] [lxO s (a : Int) 0 w b (tks L)]) =
        rk Tryz.prog pol (Task.at_ 92 1 [true, false, true] (sv 192 [(0, V.p 0 0), (2, V.d (D.i .i64 (a : Int))), (42, V.d (D.b true))]) [] [lxO s (a : Int) 0 w b (tks L)]) := by
      unfold lxO
      rw [t47, st_ob g, e43]
      rcases hsgn with rfl | rfl
      · rw [st_bt (by rfl), interp_call_ret]
      · rw [st_bf (by rfl), st_ob g, e45, interp_call_ret]; rfl
    rw [hgo, num_13t s a (by omega) w b (tks L)]
    refine num_27 s a 1 hs ?_ (by rw [ht]; rfl) (by omega) w b L hL
    rw [ht]
    rcases hsgn with rfl | rfl
    · exact Or.inr (Or.inl rfl)
    · exact Or.inr (Or.inr rfl)
  · have hsg : signN (s.drop a) = 0 := by rw [hd]; exact if_neg hsgn
    have h43 : (c == 43) = false := beq_eq_false_iff_ne.2 fun e => hsgn (Or.inl e)
    have h45 : (c == 45) = false := beq_eq_false_iff_ne.2 fun e => hsgn (Or.inr e)
    have ht : (s.drop a).take 0 = [] := rfl
    rw [hsg]
    have hgo : rk Tryz.prog pol (Task.call 92 [V.p 0 0] [lxO s (a : Int) 0 w b (tks L)]) =
        rk Tryz.prog pol (Task.at_ 92 1 [true, false, true] (sv 192 [(0, V.p 0 0), (2, V.d (D.i .i64 (a : Int))), (42, V.d (D.b false))]) [] [lxO s (a : Int) 0 w b (tks L)]) := by
      unfold lxO
      rw [t47, st_ob g, e43, st_bf h43, st_ob g, e45, h45, interp_call_ret]
    rw [hgo]
    have dec : ∀ bb : Bool, rk Tryz.prog pol (Task.at_ 92 1 [true, false, true] (sv 192 [(0, V.p 0 0), (2, V.d (D.i .i64 (a : Int))), (42, V.d (D.b false))]) [] [lxO s (a : Int) 0 w b (tks L)]) =
          rk Tryz.prog pol (Task.at_ 92 1 [true, true, true, false, true] (sv 192 [(0, V.p 0 0), (2, V.d (D.i .i64 (a : Int))), (77, V.d (D.b bb))]) [] [lxO s (a : Int) 0 w b (tks L)]) →
        (bb = true ↔ ((s.drop a).head? = some 48 ∧ ((s.drop a).drop 1).head? = some 120 ∧ (((s.drop a).drop 2).takeWhile hexB) ≠ [])) →
        Wrote s a w L (if 0 = 0 ∧ (s.drop a).head? = some 48 ∧ ((s.drop a).drop 1).head? = some 120 ∧ (((s.drop a).drop 2).takeWhile hexB) ≠ [] then hexW (s.drop a) a else numT (s.drop a) 0 a)
          (rk Tryz.prog pol (Task.at_ 92 1 [true, false, true] (sv 192 [(0, V.p 0 0), (2, V.d (D.i .i64 (a : Int))), (42, V.d (D.b false))]) [] [lxO s (a : Int) 0 w b (tks L)])) := by
      intro bb hg hb
      rw [hg]
      cases bb with
      | true =>
        have h := hb.1 rfl
        rw [if_pos ⟨rfl, h⟩]
        refine num_hex s a ?_ hs w b L hL h.2.2
        have h3 := h.2.2
        rcases Nat.lt_or_ge s.length (a + 2) with hl | hl
        · rw [List.drop_drop, List.drop_eq_nil_of_le (by omega)] at h3; exact absurd rfl h3
        · exact hl
      | false =>
        rw [if_neg (fun h => by have := hb.2 h.2; cases this), num_61f s a a (by omega) w b (tks L)]
        exact num_27 s a 0 hs (Or.inl ht) (by rw [ht]; rfl) (by omega) w b L hL
    have hp1 : rk Tryz.prog pol (Task.call 86 [V.p 0 0, V.d (D.i .i64 1)] [lxO s (a : Int) 0 w b (tks L)]) = _ := peek_s s a 1 0 w b (tks L) (by omega)
    have hp2 : rk Tryz.prog pol (Task.call 86 [V.p 0 0, V.d (D.i .i64 2)] [lxO s (a : Int) 0 w b (tks L)]) = _ := peek_s s a 2 0 w b (tks L) (by omega)
    have hx := hex_s ((s.drop a).getD 2 0)
    have e120 : ((((s.drop a).getD 1 0).toNat : Int) == 120) = ((s.drop a).getD 1 0 == 120) := u8_eqb _ 120
    have hh1 : ((s.drop a).drop 1).head? = some 120 ↔ (s.drop a).getD 1 0 = 120 := by
      rw [List.head?_drop, List.getD_eq_getElem?_getD]
      cases h : (s.drop a)[1]? with
      | none => simp
      | some d => simp
    by_cases h48 : c = 48
    · have hh0 : (s.drop a).head? = some 48 := by rw [hd, h48]; rfl
      by_cases h120 : (s.drop a).getD 1 0 = 120
      · refine dec (hexB ((s.drop a).getD 2 0)) ?_ ?_
        · unfold lxO at hp1 hp2 ⊢
          rw [t47_at13, st_F, st_ob g, e48, st_bt (by rw [h48]; rfl), so_I hp1 (by rfl) (by rfl), e120, st_bt (beq_iff_eq.2 h120), so_I hp2 (by rfl) (by rfl), st_B hx, interp_call_ret]
        · rw [hex_at]
          exact ⟨fun h => ⟨hh0, hh1.2 h120, h⟩, fun h => h.2.2⟩
      · refine dec false ?_ ⟨fun h => (by cases h), fun h => absurd (hh1.1 h.2.1) h120⟩
        unfold lxO at hp1 ⊢
        rw [t47_at13, st_F, st_ob g, e48, st_bt (by rw [h48]; rfl), so_I hp1 (by rfl) (by rfl), e120, st_bf (beq_eq_false_iff_ne.2 h120), interp_call_ret]
    · refine dec false ?_ ⟨fun h => (by cases h), fun h => ?_⟩
      · unfold lxO
        rw [t47_at13, st_F, st_ob g, e48, st_bf (beq_eq_false_iff_ne.2 h48), interp_call_ret]
      · rw [hd] at h
        exact absurd (Option.some.inj h.1) h48
end Go.Dn.Dec
namespace Go.Dn.Dec
open Go.Proofs
theorem dots_eq : ∀ t : List UInt8, (findSub [46, 46] t).isSome = dotsB t
 | [] => rfl
 | c :: r => by
  have ih := dots_eq r
  have hp : ([46, 46] : List UInt8).isPrefixOf (c :: r) = (c == 46 && r.head? == some 46) := by
   cases r with
   | nil => simp [List.isPrefixOf]
   | cons d r =>
    have e1 : ((46 : UInt8) == c) = (c == 46) := by rw [Bool.eq_iff_iff, beq_iff_eq, beq_iff_eq]; exact eq_comm
    have e2 : ((46 : UInt8) == d) = (some d == some (46 : UInt8)) := by
     rw [Bool.eq_iff_iff, beq_iff_eq, beq_iff_eq]
     exact ⟨fun h => by rw [h], fun h => (Option.some.inj h).symm⟩
    show ((46 : UInt8) == c && ((46 : UInt8) == d && true)) = _
    rw [Bool.and_true, e1, e2]; rfl
  unfold findSub dotsB
  rw [hp]
  cases h : (c == 46 && r.head? == some 46) with
  | true => rfl
  | false =>
   rw [if_neg (by decide), Bool.false_or, ← ih]
   cases findSub [46, 46] r <;> rfl
theorem suffix_dot (t : List UInt8) : ([46] : List UInt8).isSuffixOf t = true ↔ t.getLast? = some 46 := by
 rw [List.isSuffixOf_iff_suffix]
 constructor
 ·rintro ⟨p, rfl⟩
  simp
 ·intro h
  obtain ⟨ne, he⟩ := List.getLast?_eq_some_iff.1 h
  exact ⟨ne, he.symm⟩
theorem bad_eq (t : List UInt8) : badName t = true ↔ (t.getLast? = some 46 ∨ dotsB t = true) := by
 unfold badName
 rw [Bool.or_eq_true, suffix_dot, dots_eq]
theorem name_w (s : List UInt8) (a : Nat) (ha : a ≤ s.length) (hs : s.length ≤ 10000) (w : Int) (b : Bool) (L : List Tok) (hL : L.length ≤ 100000) :
  Wrote s a w L (nameW (s.drop a) a) (rk Tryz.prog pol (Task.call 90 [V.p 0 0] [lxO s (a : Int) 0 w b (tks L)])) := by
 rw [name_s s a ha hs w b L hL]
 unfold nameW
 simp only
 by_cases h1 : 120 < ((s.drop a).takeWhile nameB).length
 ·rw [if_pos h1, if_pos h1]
  exact ⟨by decide, _, _, _, rfl⟩
 ·by_cases h2 : badName ((s.drop a).takeWhile nameB) = true
  ·rw [if_neg h1, if_pos h2, if_neg h1, if_pos ((bad_eq _).1 h2)]
   exact ⟨by decide, _, _, _, rfl⟩
  ·rw [if_neg h1, if_neg h2, if_neg h1, if_neg (fun h => h2 ((bad_eq _).2 h)), if_pos rfl]
   rfl
theorem text_w (s : List UInt8) (a : Nat) (c : UInt8) (q : List UInt8) (hd : s.drop a = c :: q) (hs : s.length ≤ 10000) (w : Int) (b : Bool) (L : List Tok) (hL : L.length ≤ 100000) :
  Wrote s a w L (textW c q a) (rk Tryz.prog pol (Task.call 93 [V.p 0 0] [lxO s (a : Int) 0 w b (tks L)])) := by
 rw [text_s s a c q hd hs w b L hL]
 unfold textW
 simp only
 split
 ·exact ⟨by decide, _, _, _, rfl⟩
 ·rfl
theorem signs_idx (c : UInt8) : decide (idxV (if signsB.dropWhile (· != c) = [] then none else some (signsB.takeWhile (· != c)).length) ≥ 0) = signsB.contains c := by
 have h : ∀ t : List UInt8, t.contains c = true ↔ t.dropWhile (· != c) ≠ [] := by
  intro t
  induction t with
  | nil => simp
  | cons d t ih =>
   rw [List.dropWhile_cons]
   by_cases h : d = c
   ·subst h; simp
   ·have h2 : (d != c) = true := bne_iff_ne.2 h
    rw [h2, if_pos rfl, ← ih]
    simp [Ne.symm h]
 have h0 := h signsB
 by_cases hc : signsB.dropWhile (· != c) = []
 ·rw [if_pos hc]
  have : signsB.contains c = false := by
   cases e : signsB.contains c with
   | false => rfl
   | true => exact absurd hc (h0.1 e)
  rw [this]; rfl
 ·rw [if_neg hc, h0.2 hc]
  exact decide_eq_true (Int.natCast_nonneg _)
theorem signs_utf (c : UInt8) (h : signsB.contains c = true) : (Utf8.encode (IntKind.i32.wrap (c.toNat : Int))).data.toList = [c] := by
 have hm : c ∈ signsB := by simpa using h
 unfold signsB at hm
 simp only [List.mem_cons, List.not_mem_nil, or_false] at hm
 rcases hm with rfl | rfl | rfl | rfl | rfl | rfl | rfl | rfl | rfl | rfl | rfl | rfl | rfl <;> decide
theorem sign_w (s : List UInt8) (a : Nat) (c : UInt8) (q : List UInt8) (hd : s.drop a = c :: q) (hs : s.length ≤ 10000) (w : Int) (b : Bool) (L : List Tok) (hL : L.length ≤ 100000) :
  Wrote s a w L (if signsB.contains c = true then .inl (⟨5, [c], 0, 0, a⟩, 1) else .inr (2, a))
   (rk Tryz.prog pol (Task.at_ 44 1 [true, true, true, true, true, false, true] (sv 85 [(0, V.p 0 0), (2, V.d (D.i .u8 (c.toNat : Int))), (45, V.d (D.b false))]) [] [lxO s (a : Int) 0 w b (tks L)])) := by
 have hlen : (s.drop a).length = s.length - a := List.length_drop ..
 rw [hd, List.length_cons] at hlen
 have hi : rk Tryz.prog pol (Task.call 85 [V.d (D.s [123, 125, 40, 41, 91, 93, 60, 62, 44, 59, 58, 61, 42]), V.d (D.i .u8 (c.toNat : Int))] []) = _ := index_byte signsB c (by decide)
 have hx := signs_idx c
 cases hc : signsB.contains c with
 | true =>
  rw [hc] at hx
  have hsn := tks_snoc L ⟨5, [c], 0, 0, a⟩
  have hD : Tok.D ⟨5, [c], 0, 0, a⟩ = D.g [D.i .i64 5, D.s [c], D.i .i64 0, D.i .u64 0, D.i .i64 (a : Int)] := rfl
  rw [hD] at hsn
  have w1 : IntKind.i64.wrap ((a : Int) + 1) = ((a + 1 : Nat) : Int) := by rw [wrap_i64] <;> omega
  show _ = _
  unfold lxO
  rw [t21_at253, st_F, st_I hi, st_bt hx, tks_head, st_ift, Bool.or_true, st_ift, st_if (by rw [tks_len]; omega), w1, signs_utf c hc, hsn, Bool.and_false, interp_ret]
 | false =>
  rw [hc] at hx
  have hf := fails_s s (a : Int) 0 w 2 (a : Int) b (tks L)
  rw [if_pos rfl, if_pos rfl] at hf
  refine ⟨by decide, (a : Int), b, L, ?_⟩
  unfold lxO at hf ⊢
  rw [t21_at253, st_F, st_I hi, st_bf hx, so_0 hf (by rfl) (by rfl), interp_ret]
theorem word_s (s : List UInt8) (a : Nat) (ha : a < s.length) (hs : s.length ≤ 10000) (w : Int) (b : Bool) (L : List Tok) (hL : L.length ≤ 100000) :
  Wrote s a w L (wordW (s.drop a) a) (rk Tryz.prog pol (Task.call 44 [V.p 0 0] [lxO s (a : Int) 0 w b (tks L)])) := by
 have hlen : (s.drop a).length = s.length - a := List.length_drop ..
 have hpass : ∀ (r : WdR) (k : Nat), Wrote s a w L r (rk Tryz.prog pol (Task.call k [V.p 0 0] [lxO s (a : Int) 0 w b (tks L)])) →
   (∀ cs : List V, cs.length = 5 → rk Tryz.prog pol (Task.call k [V.p 0 0] [lxO s (a : Int) 0 w b (tks L)]) = some (.t [], [.cells cs [(4, 5)]]) →
    rk Tryz.prog pol (Task.call 44 [V.p 0 0] [lxO s (a : Int) 0 w b (tks L)]) = some (.t [], [.cells cs [(4, 5)]])) →
   Wrote s a w L r (rk Tryz.prog pol (Task.call 44 [V.p 0 0] [lxO s (a : Int) 0 w b (tks L)])) := by
  intro r k hw hk
  match r, hw with
  | .inr (e, w'), ⟨he, x, b', L', h⟩ => exact ⟨he, x, b', L', hk _ rfl h⟩
  | .inl (t, n), h => exact hk _ rfl h
 cases hd : s.drop a with
 | nil => rw [hd, List.length_nil] at hlen; omega
 | cons c q =>
  have g : getI s (a : Int) = some c := by
   rw [getI_nat]
   have := congrArg List.head? hd
   rw [List.head?_drop] at this
   simpa using this
  have e43 : ((c.toNat : Int) == 43) = (c == 43) := u8_eqb c 43
  have e45 : ((c.toNat : Int) == 45) = (c == 45) := u8_eqb c 45
  have e46 : ((c.toNat : Int) == 46) = (c == 46) := u8_eqb c 46
  have e34 : ((c.toNat : Int) == 34) = (c == 34) := u8_eqb c 34
  have e39 : ((c.toNat : Int) == 39) = (c == 39) := u8_eqb c 39
  have hl := letter_s c
  have hg := digit_s c
  unfold wordW
  simp only
  cases hlt : letB c with
  | true =>
   rw [if_pos rfl, ← hd]
   refine hpass _ 90 (name_w s a (by omega) hs w b L hL) ?_
   intro cs hcs h
   rw [hlt] at hl
   unfold lxO at h ⊢
   rw [t21, st_ob g, st_B hl, st_T, so_0 h hcs (by rfl), interp_ret]
  | false =>
   rw [if_neg (by decide)]
   rw [hlt] at hl
   -- the checks of a number
   have h61 : rk Tryz.prog pol (Task.call 44 [V.p 0 0] [lxO s (a : Int) 0 w b (tks L)]) =
     rk Tryz.prog pol (Task.at_ 44 1 [true, true, true, false, true] (sv 85 [(0, V.p 0 0), (2, V.d (D.i .u8 (c.toNat : Int))), (28, V.d (D.b (isDig c || (c == 43 || (c == 45 || c == 46)))))]) [] [lxO s (a : Int) 0 w b (tks L)]) := by
    unfold lxO
    rw [t21, st_ob g, st_B hl, st_F, st_B hg]
    cases hgd : isDig c with
    | true => rw [st_T, interp_call_ret]; rfl
    | false =>
     rw [st_F, e43]
     cases h43 : (c == 43) with
     | true => rw [st_T, interp_call_ret]; rfl
     | false =>
      rw [st_F, e45]
      cases h45 : (c == 45) with
      | true => rw [st_T, interp_call_ret]; rfl
      | false => rw [st_F, interp_call_ret, e46]; rfl
   by_cases hn : isDig c = true ∨ c = 43 ∨ c = 45 ∨ c = 46
   ·rw [if_pos hn, ← hd]
    have hb : (isDig c || (c == 43 || (c == 45 || c == 46))) = true := by simpa using hn
    rw [hb] at h61
    refine hpass _ 92 (numtok_s s a c q hd hs w b L hL) ?_
    intro cs hcs h
    rw [h61]
    unfold lxO at h ⊢
    rw [t21_at61, st_T, so_0 h hcs (by rfl), interp_ret]
   ·rw [if_neg hn]
    have hb : (isDig c || (c == 43 || (c == 45 || c == 46))) = false := by
     cases e : (isDig c || (c == 43 || (c == 45 || c == 46))) with
     | false => rfl
     | true => exact absurd (by simpa using e) hn
    rw [hb] at h61
    have h253 : rk Tryz.prog pol (Task.call 44 [V.p 0 0] [lxO s (a : Int) 0 w b (tks L)]) =
      rk Tryz.prog pol (Task.at_ 44 1 [true, true, true, true, true, false, true] (sv 85 [(0, V.p 0 0), (2, V.d (D.i .u8 (c.toNat : Int))), (45, V.d (D.b (c == 34 || c == 39)))]) [] [lxO s (a : Int) 0 w b (tks L)]) := by
     rw [h61]
     unfold lxO
     rw [t21_at61, st_F, e34]
     cases h34 : (c == 34) with
     | true => rw [st_T, interp_call_ret]; rfl
     | false => rw [st_F, interp_call_ret, e39]; rfl
    by_cases ht : c = 34 ∨ c = 39
    ·rw [if_pos ht]
     have hb2 : (c == 34 || c == 39) = true := by simpa using ht
     rw [hb2] at h253
     refine hpass _ 93 (text_w s a c q hd hs w b L hL) ?_
     intro cs hcs h
     rw [h253]
     unfold lxO at h ⊢
     rw [t21_at253, st_T, so_0 h hcs (by rfl), interp_ret]
    ·rw [if_neg ht]
     have hb2 : (c == 34 || c == 39) = false := by
      cases e : (c == 34 || c == 39) with
      | false => rfl
      | true => exact absurd (by simpa using e) ht
     rw [hb2] at h253
     rw [h253]
     exact sign_w s a c q hd hs w b L hL
end Go.Dn.Dec
namespace Go.Dn.Dec
open Go.Proofs
def lxT (s : List UInt8) (o : Ob) : Task := Task.at_ 19 0 [false, false, false, false, false, true, true, true] (sv 72 [(0, V.d (D.s s)), (5, V.p 0 0)]) [] [o]
def lxOut (r : LxR) : Out := (.t [.d (.l r.1.isEmpty (tks r.1)), .d (.i .i64 r.2.1), .d (.i .i64 (r.2.2 : Int))], [])
theorem skip_t (s : List UInt8) (a a' : Nat) (w : Int) (b : Bool) (l : List D) (h : rk Tryz.prog pol (Task.call 43 [V.p 0 0] [lxO s (a : Int) 0 w b l]) = some (.d (.b true), [lxO s (a' : Int) 0 w b l])) :
  rk Tryz.prog pol (lxT s (lxO s (a : Int) 0 w b l)) = rk Tryz.prog pol (lxT s (lxO s (a' : Int) 0 w b l)) := by
 unfold lxT
 unfold lxO at h ⊢
 rw [t10_at263, so_B h (by rfl) (by rfl), st_T, interp_call_ret]
theorem skip_bad (s : List UInt8) (a w' : Nat) (x w : Int) (b : Bool) (l : List D) (h : rk Tryz.prog pol (Task.call 43 [V.p 0 0] [lxO s (a : Int) 0 w b l]) = some (.d (.b false), [lxO s x 2 (w' : Int) b l])) :
  rk Tryz.prog pol (lxT s (lxO s (a : Int) 0 w b l)) = some (lxOut ([], 2, w')) := by
 unfold lxT
 unfold lxO at h ⊢
 rw [t10_at263, so_B h (by rfl) (by rfl), st_F, st_ob (a := V.d (D.i .i64 2)) (by rfl), asD_d, st_asI, st_ne_t (by decide), st_ob (a := V.d (D.i .i64 2)) (by rfl), asD_d, st_asI,
  st_ob (a := V.d (D.i .i64 (w' : Int))) (by rfl), asD_d, st_asI, interp_ret]
 rfl
theorem lex_end (s : List UInt8) (a : Nat) (ha : s.length ≤ a) (w : Int) (b : Bool) (L : List Tok) (hL : L.length ≤ 100000)
  (h : rk Tryz.prog pol (Task.call 43 [V.p 0 0] [lxO s (a : Int) 0 w b (tks L)]) = some (.d (.b false), [lxO s (a : Int) 0 w b (tks L)])) :
  rk Tryz.prog pol (lxT s (lxO s (a : Int) 0 w b (tks L))) = some (lxOut (L ++ [⟨6, [], 0, 0, s.length⟩], 0, 0)) := by
 have hsn := tks_snoc L ⟨6, [], 0, 0, s.length⟩
 have hD : Tok.D ⟨6, [], 0, 0, s.length⟩ = D.g [D.i .i64 6, D.s [], D.i .i64 0, D.i .u64 0, D.i .i64 (s.length : Int)] := rfl
 rw [hD] at hsn
 have hemp : (L ++ [(⟨6, [], 0, 0, s.length⟩ : Tok)]).isEmpty = false := by cases L <;> rfl
 unfold lxOut
 simp only
 rw [hemp]
 unfold lxT
 unfold lxO at h ⊢
 rw [t10_at263, so_B h (by rfl) (by rfl), st_F, st_ob (a := V.d (D.i .i64 0)) (by rfl), asD_d, st_asI, st_ne_f rfl, st_ob (a := V.d (D.i .i64 (a : Int))) (by rfl), asD_d, st_asI,
  st_ob (a := V.d (D.s s)) (by rfl), asD_d, asS_s, st_t (by omega), st_ob (a := V.d (D.l b (tks L))) (by rfl)]
 show interp (rk Tryz.prog pol) (asD (V.d (D.l b (tks L))) _) = _
 rw [asD_d, asL_l, tks_head, st_ift, Bool.or_true, st_ift, st_if (by rw [tks_len]; omega), interp_ret, Bool.and_false, hsn]
 rfl
theorem lex_word (s : List UInt8) (a : Nat) (ha : a < s.length) (hs : s.length ≤ 10000) (w : Int) (b : Bool) (L : List Tok) (hL : L.length ≤ 100000)
  (h : rk Tryz.prog pol (Task.call 43 [V.p 0 0] [lxO s (a : Int) 0 w b (tks L)]) = some (.d (.b false), [lxO s (a : Int) 0 w b (tks L)])) :
  match wordW (s.drop a) a with
  | .inr (e, w') => rk Tryz.prog pol (lxT s (lxO s (a : Int) 0 w b (tks L))) = some (lxOut ([], e, w'))
  | .inl (t, n) => rk Tryz.prog pol (lxT s (lxO s (a : Int) 0 w b (tks L))) = rk Tryz.prog pol (lxT s (lxO s ((a + n : Nat) : Int) 0 w false (tks (L ++ [t])))) := by
 have hw := word_s s a ha hs w b L hL
 generalize wordW (s.drop a) a = W at *
 match W, hw with
 | .inr (e, w'), ⟨he, x, b', L', hw⟩ =>
  simp only
  unfold lxT
  unfold lxO at h hw ⊢
  rw [t10_at263, so_B h (by rfl) (by rfl), st_F, st_ob (a := V.d (D.i .i64 0)) (by rfl), asD_d, st_asI, st_ne_f rfl, st_ob (a := V.d (D.i .i64 (a : Int))) (by rfl), asD_d, st_asI,
   st_ob (a := V.d (D.s s)) (by rfl), asD_d, asS_s, st_f (by omega), so_0 hw (by rfl) (by rfl), st_ob (a := V.d (D.i .i64 e)) (by rfl), asD_d, st_asI, st_ne_t he,
   st_ob (a := V.d (D.i .i64 e)) (by rfl), asD_d, st_asI, st_ob (a := V.d (D.i .i64 (w' : Int))) (by rfl), asD_d, st_asI, interp_ret]
  rfl
 | .inl (t, n), hw =>
  have hw : rk Tryz.prog pol (Task.call 44 [V.p 0 0] [lxO s (a : Int) 0 w b (tks L)]) = some (.t [], [lxO s ((a + n : Nat) : Int) 0 w false (tks (L ++ [t]))]) := hw
  simp only
  unfold lxT
  unfold lxO at h hw ⊢
  rw [t10_at263, so_B h (by rfl) (by rfl), st_F, st_ob (a := V.d (D.i .i64 0)) (by rfl), asD_d, st_asI, st_ne_f rfl, st_ob (a := V.d (D.i .i64 (a : Int))) (by rfl), asD_d, st_asI,
   st_ob (a := V.d (D.s s)) (by rfl), asD_d, asS_s, st_f (by omega), so_0 hw (by rfl) (by rfl), st_ob (a := V.d (D.i .i64 0)) (by rfl), asD_d, st_asI, st_ne_f rfl, interp_call_ret, t10_at23, interp_call_ret]
theorem skip_s (s : List UInt8) (a : Nat) (hs : s.length ≤ 10000) (w : Int) (b : Bool) (l : List D) : ∀ (f k : Nat), s.length ≤ a + k + f → a + k ≤ s.length →
  match skipF f (s.drop (a + k)) k with
  | (k', false) => rk Tryz.prog pol (lxT s (lxO s ((a + k : Nat) : Int) 0 w b l)) = some (lxOut ([], 2, a + k'))
  | (k', true) => rk Tryz.prog pol (lxT s (lxO s ((a + k : Nat) : Int) 0 w b l)) = rk Tryz.prog pol (lxT s (lxO s ((a + k' : Nat) : Int) 0 w b l)) ∧
    rk Tryz.prog pol (Task.call 43 [V.p 0 0] [lxO s ((a + k' : Nat) : Int) 0 w b l]) = some (.d (.b false), [lxO s ((a + k' : Nat) : Int) 0 w b l])
 | 0, k, hf, hk => by
  have hp := parts_s s (a + k) hk hs w b l
  unfold partsR at hp
  rw [List.drop_eq_nil_of_le (by omega)] at hp
  exact ⟨rfl, hp⟩
 | f + 1, k, hf, hk => by
  have hp := parts_s s (a + k) hk hs w b l
  have hlen : (s.drop (a + k)).length = s.length - (a + k) := List.length_drop ..
  unfold partsR at hp
  unfold skipF
  cases hd : s.drop (a + k) with
  | nil =>
   rw [hd] at hp
   exact ⟨rfl, hp⟩
  | cons c q =>
   have hln := (lineN_le (s.drop (a + k))).1
   have hln1 := (lineN_le (s.drop (a + k))).2 (by rw [hd]; simp)
   rw [hd] at hp hln hln1
   rw [hd, List.length_cons] at hlen
   rw [List.length_cons] at hln
   simp only at hp ⊢
   have nxt : ∀ m : Nat, 1 ≤ m → a + k + m ≤ s.length → rk Tryz.prog pol (Task.call 43 [V.p 0 0] [lxO s ((a + k : Nat) : Int) 0 w b l]) = some (.d (.b true), [lxO s ((a + k + m : Nat) : Int) 0 w b l]) →
     match skipF f ((c :: q).drop m) (k + m) with
     | (k', false) => rk Tryz.prog pol (lxT s (lxO s ((a + k : Nat) : Int) 0 w b l)) = some (lxOut ([], 2, a + k'))
     | (k', true) => rk Tryz.prog pol (lxT s (lxO s ((a + k : Nat) : Int) 0 w b l)) = rk Tryz.prog pol (lxT s (lxO s ((a + k' : Nat) : Int) 0 w b l)) ∧
       rk Tryz.prog pol (Task.call 43 [V.p 0 0] [lxO s ((a + k' : Nat) : Int) 0 w b l]) = some (.d (.b false), [lxO s ((a + k' : Nat) : Int) 0 w b l]) := by
    intro m h1 h2 h3
    have ih := skip_s s a hs w b l f (k + m) (by omega) (by omega)
    rw [skip_t s (a + k) (a + k + m) w b l h3]
    rw [← hd, List.drop_drop, Nat.add_assoc]
    exact ih
   by_cases h1 : spB c = true
   ·rw [if_pos h1] at hp ⊢
    exact nxt 1 (by omega) (by omega) hp
   ·rw [if_neg h1] at hp ⊢
    by_cases h2 : c = 35 ∨ (c = 47 ∧ q.head? = some 47)
    ·rw [if_pos h2] at hp ⊢
     exact nxt _ hln1 (by omega) hp
    ·rw [if_neg h2] at hp ⊢
     by_cases h3 : c = 47 ∧ q.head? = some 42
     ·rw [if_pos h3] at hp ⊢
      cases he : endN (q.drop 1) with
      | none =>
       rw [he] at hp
       exact skip_bad s (a + k) (a + k) _ w b l hp
      | some n =>
       rw [he] at hp
       have hn := endN_le _ _ he
       rw [List.length_drop] at hn
       have hq1 : 1 ≤ q.length := by
        cases q with
        | nil => exact absurd h3.2 (by simp)
        | cons d q => rw [List.length_cons]; omega
       exact nxt (2 + n) (by omega) (by omega) hp
     ·rw [if_neg h3] at hp ⊢
      exact ⟨rfl, hp⟩
theorem lex_loop (s : List UInt8) (hs : s.length ≤ 10000) (w : Int) : ∀ (f a : Nat) (b : Bool) (L : List Tok), s.length - a < f → a ≤ s.length → L.length ≤ a →
  rk Tryz.prog pol (lxT s (lxO s (a : Int) 0 w b (tks L))) = some (lxOut (lexF f (s.drop a) a L))
 | 0, a, b, L, h, _, _ => by omega
 | f + 1, a, b, L, h, ha, hL => by
  have hlen : (s.drop a).length = s.length - a := List.length_drop ..
  have hk := skip_ok (s.drop a).length (s.drop a) 0
  have hsk := skip_s s a hs w b (tks L) (s.drop a).length 0 (by omega) (by omega)
  unfold lexF
  rw [Nat.add_zero] at hsk
  generalize skipF (s.drop a).length (s.drop a) 0 = K at *
  obtain ⟨k, bb⟩ := K
  simp only at hk
  cases bb with
  | false => exact hsk
  | true =>
   simp only at hsk ⊢
   rw [hsk.1]
   by_cases he : (s.drop a).length ≤ k
   ·rw [if_pos he]
    have e1 : a + (s.drop a).length = s.length := by omega
    rw [e1]
    exact lex_end s (a + k) (by omega) w b L (by omega) hsk.2
   ·rw [if_neg he]
    have hw := lex_word s (a + k) (by omega) hs w b L (by omega) hsk.2
    have hok := word_ok (s.drop (a + k)) (a + k)
    rw [List.drop_drop]
    generalize wordW (s.drop (a + k)) (a + k) = W at *
    match W, hw, hok with
    | .inr (e, w'), hw, hok => exact hw
    | .inl (t, n), hw, hok =>
     simp only at hw ⊢
     obtain ⟨-, h1, h2, -⟩ := hok
     rw [List.length_drop] at h2
     rw [hw, List.drop_drop, ← Nat.add_assoc]
     exact lex_loop s hs w f (a + k + n) false (L ++ [t]) (by omega) (by omega) (by rw [List.length_append, List.length_singleton]; omega)
theorem lex_s (s : List UInt8) : rk Tryz.prog pol (Task.call 19 [V.d (D.s s)] []) = some (lxOut (lexB s)) := by
 unfold lexB
 by_cases h : 2000 < s.length
 ·rw [t10, st_t (by omega), interp_ret, if_pos h]
  rfl
 ·rw [t10, st_f (by omega), interp_call_ret, if_neg h, t10_at23, interp_call_ret]
  have := lex_loop s (by omega) 0 (s.length + 1) 0 true [] (by omega) (by omega) (by simp)
  exact this
end Go.Dn.Dec
