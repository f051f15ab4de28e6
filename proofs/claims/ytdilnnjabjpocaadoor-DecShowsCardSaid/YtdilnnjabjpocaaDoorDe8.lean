/- the document's answer: Parse. -/
import Derived.Test.YtdilnnjabjpocaaDoorDe7
import Derived.Test.YtdilnnjabjpocaaDoorDe3
import Derived.Test.YtdilnnjabjpocaaDoorDe5
namespace Go.Dn.Dec
open Go.Proofs
section
variable {f : Task → Option Out}
theorem st_IBI {t : Task} {k j : IntKind} {n m : Int} {b : Bool} {e e' e'' : V} {K : Int → Bool → Int → Tr} (h : f t = some (.t [.d (.i k n), .d (.b b), .d (.i j m)], [])) :
    interp f (.call t fun o => ift o.snd.isEmpty (unT o.fst fun l => ift (l.length == 3) (asD (l.getD 0 e) fun d => asI k d fun x => asD (l.getD 1 e') fun d' => asB d' fun y => asD (l.getD 2 e'') fun d'' => asI j d'' fun z => K x y z))) = interp f (K n b m) := by
  rw [st_call h]
  show interp f (asI k (.i k n) fun x => asB (.b b) fun y => asI j (.i j m) fun z => K x y z) = _
  rw [interp_asI, if_pos rfl, asB_b, interp_asI, if_pos rfl]
end
/-! ### The exponent -/
def capF (v : Nat) (d : List UInt8) : Nat := d.foldl (fun a c => min (a * 10 + digV c) 100000) v
theorem capF_eq : ∀ (d : List UInt8) (v u : Nat), v = min u 100000 → capF v d = min (numF u d) 100000
  | [], v, u, h => h
  | c :: d, v, u, h => capF_eq d (min (v * 10 + digV c) 100000) (u * 10 + digV c) (by omega)
def expB (s : List UInt8) : Int × Bool × Int :=
  match s with
  | [] => (0, false, 0)
  | c :: r => if c ≠ 101 ∧ c ≠ 69 then (0, false, 2)
    else if (signB r).2 = [] then (0, false, 2)
    else if (signB r).2.all isDig = true then ((if (signB r).1 = true then -(capF 0 (signB r).2 : Int) else (capF 0 (signB r).2 : Int)), decide (400 < capF 0 (signB r).2), 0)
    else (0, false, 2)
def o3 (x : Int × Bool × Int) : Option Out := some (.t [.d (.i .i64 x.1), .d (.b x.2.1), .d (.i .i64 x.2.2)], [])
theorem exp_loop (m : Bool) : ∀ (r p : List UInt8) (v : Nat), (p ++ r).length ≤ 1000000 → v ≤ 100000 →
    rk Tryd.prog pol (Task.at_ 27 0 [false, true, false, true, true, true, true, true, true, true, true] (sv 75 [(0, V.d (D.s (p ++ r))), (5, V.d (D.b m)), (6, V.d (D.i .i64 (v : Int))), (7, V.d (D.i .i64 (p.length : Int)))]) [] []) =
      o3 (if r.all isDig = true then ((if m = true then -(capF v r : Int) else (capF v r : Int)), decide (400 < capF v r), 0) else (0, false, 2))
  | [], p, v, hl, hv => by
    have hw : IntKind.i64.wrap (0 - (v : Int)) = -(v : Int) := by rw [wrap_i64] <;> omega
    have hd : decide ((v : Int) > 400) = decide (400 < v) := by
      by_cases h : 400 < v
      · rw [decide_eq_true h, decide_eq_true (by omega)]
      · rw [decide_eq_false h, decide_eq_false (by omega)]
    rw [List.append_nil, f27_at2815, st_f (by omega), if_pos (by rfl)]
    cases m with
    | true => rw [st_T, interp_ret, hw, hd]; rfl
    | false => rw [st_F, interp_ret, hd]; rfl
  | c :: r, p, v, hl, hv => by
    have hi : p.length < (p ++ c :: r).length := by simp
    have g : getI (p ++ c :: r) (p.length : Int) = some c := by rw [getI_nat]; simp
    have hpl : (p ++ [c]).length = p.length + 1 := by simp
    have hlen : p.length + (r.length + 1) ≤ 1000000 := by simpa using hl
    have bad : isDig c = false → o3 (if (c :: r).all isDig = true then ((if m = true then -(capF v (c :: r) : Int) else (capF v (c :: r) : Int)), decide (400 < capF v (c :: r)), 0) else (0, false, 2)) = o3 (0, false, 2) := by
      intro h
      rw [List.all_cons, h]; rfl
    rw [f27_at2815, st_t (by omega), st_ob g]
    by_cases h1 : c.toNat < 48
    · have hd : isDig c = false := by simp [isDig]; omega
      rw [st_t (by omega), interp_call_ret, f27_at201471, st_T, interp_ret, bad hd]
      rfl
    · rw [st_f (by omega), st_ob g, interp_call_ret, f27_at201471]
      by_cases h2 : c.toNat ≤ 57
      · have hd : isDig c = true := by simp [isDig]; omega
        have hlt := digV_lt hd
        rw [show decide ((c.toNat : Int) > 57) = false from decide_eq_false (by omega), st_F, st_ob g, u8_sub hd]
        have w1 : IntKind.i64.wrap ((v : Int) * 10) = ((v * 10 : Nat) : Int) := by rw [wrap_i64] <;> omega
        have w2 : IntKind.i64.wrap ((digV c : Nat) : Int) = ((digV c : Nat) : Int) := by rw [wrap_i64] <;> omega
        have w3 : IntKind.i64.wrap (((v * 10 : Nat) : Int) + ((digV c : Nat) : Int)) = ((v * 10 + digV c : Nat) : Int) := by rw [wrap_i64] <;> omega
        have w4 : (if (100000 : Int) < ((v * 10 + digV c : Nat) : Int) then 100000 else ((v * 10 + digV c : Nat) : Int)) = ((min (v * 10 + digV c) 100000 : Nat) : Int) := by split <;> omega
        have w5 : IntKind.i64.wrap ((p.length : Int) + 1) = (((p ++ [c]).length : Nat) : Int) := by rw [hpl, wrap_i64] <;> omega
        have ih := exp_loop m r (p ++ [c]) (min (v * 10 + digV c) 100000) (by simpa using hl) (by omega)
        rw [List.append_assoc, List.singleton_append] at ih
        rw [w1, w2, w3, w4, w5, interp_call_ret, ih, List.all_cons, hd]
        rfl
      · have hd : isDig c = false := by simp [isDig]; omega
        rw [show decide ((c.toNat : Int) > 57) = true from decide_eq_true (by omega), st_T, interp_ret, bad hd]
        rfl
theorem exponent_s (s : List UInt8) (hs : s.length ≤ 1000000) : rk Tryd.prog pol (Task.call 27 [V.d (D.s s)] []) = o3 (expB s) := by
  rw [f27]
  cases s with
  | nil => rw [st_eq (show (([] : List UInt8).length : Int) = 0 from rfl), interp_ret]; rfl
  | cons c r =>
    have hl : r.length ≤ 1000000 := by simp at hs; omega
    have g : getI (c :: r) 0 = some c := rfl
    have tl : List.take ((c :: r).length - 1) (List.drop 1 (c :: r)) = r := by simp
    have hle : ((0 : Int) ≤ 1 ∧ (1 : Int) ≤ (((c :: r).length : Nat) : Int)) := ⟨by decide, by rw [List.length_cons]; omega⟩
    have hne : (((c :: r).length : Nat) : Int) ≠ 0 := by rw [List.length_cons]; omega
    have main : ¬ (c ≠ 101 ∧ c ≠ 69) → rk Tryd.prog pol (Task.at_ 27 0 [true, false, true, true] (sv 75 [(0, V.d (D.s (c :: r))), (18, V.d (D.b false))]) [] []) = o3 (expB (c :: r)) := by
      intro hc
      unfold expB
      simp only [if_neg hc]
      rw [f27_at27, st_F, st_if hle, tl]
      cases r with
      | nil =>
        rw [st_f (by decide), interp_call_ret, f27_at223, st_F, st_eq (show (([] : List UInt8).length : Int) = 0 from rfl), interp_ret]
        rfl
      | cons d q =>
        have g2 : getI (d :: q) 0 = some d := rfl
        have tl2 : List.take ((d :: q).length - 1) (List.drop 1 (d :: q)) = q := by simp
        have hle2 : ((0 : Int) ≤ 1 ∧ (1 : Int) ≤ (((d :: q).length : Nat) : Int)) := ⟨by decide, by rw [List.length_cons]; omega⟩
        have hl2 : q.length ≤ 1000000 := by simp at hl; omega
        have signed : d = 43 ∨ d = 45 → rk Tryd.prog pol (Task.at_ 27 0 [true, false, true, true, true, true, true] (sv 75 [(0, V.d (D.s (d :: q))), (5, V.d (D.b false)), (33, V.d (D.b true))]) [] []) =
            o3 (if (signB (d :: q)).2 = [] then (0, false, 2)
    else if (signB (d :: q)).2.all isDig = true then ((if (signB (d :: q)).1 = true then -(capF 0 (signB (d :: q)).2 : Int) else (capF 0 (signB (d :: q)).2 : Int)), decide (400 < capF 0 (signB (d :: q)).2), 0)
    else (0, false, 2)) := by
          intro hd
          have hsg : signB (d :: q) = (decide (d = 45), q) := by
            rcases hd with rfl | rfl <;> rfl
          rw [hsg, f27_at223, st_T, st_ob g2, st_if hle2, tl2, u8_45]
          by_cases hq : q = []
          · subst hq
            rw [st_eq (show (([] : List UInt8).length : Int) = 0 from rfl), interp_ret]; rfl
          · have hq0 : ((q.length : Nat) : Int) ≠ 0 := by
              have := List.length_pos_iff.2 hq; omega
            have hL := exp_loop (decide (d = 45)) q [] 0 (by simpa using hl2) (by decide)
            rw [List.nil_append] at hL
            rw [st_ne hq0, interp_call_ret, if_neg hq]
            exact hL
        rw [st_t (by rw [List.length_cons]; omega), st_ob g2, u8_43]
        by_cases h43 : d = 43
        · rw [st_t h43, interp_call_ret]
          exact signed (Or.inl h43)
        · rw [st_f h43, st_ob g2, u8_45, interp_call_ret]
          by_cases h45 : d = 45
          · rw [decide_eq_true h45]
            exact signed (Or.inr h45)
          · have hsg : signB (d :: q) = (false, d :: q) := by simp [signB, h43, h45]
            have hL := exp_loop false (d :: q) [] 0 (by simpa using hl) (by decide)
            rw [List.nil_append] at hL
            rw [decide_eq_false h45, hsg, f27_at223, st_F, st_ne (by rw [List.length_cons]; omega), interp_call_ret, if_neg (by simp)]
            exact hL
    rw [st_ne hne, st_ob g, u8_101]
    by_cases h1 : c = 101
    · rw [st_f (by simpa using h1), interp_call_ret]
      exact main (by simp [h1])
    · rw [st_t h1, st_ob g, u8_69, interp_call_ret]
      by_cases h2 : c = 69
      · rw [decide_eq_false (by simpa using h2)]
        exact main (by simp [h2])
      · rw [decide_eq_true h2, f27_at27, st_T, interp_ret]
        simp [expB, h1, h2, o3]
/-! ### The digits -/
def dv (l : List UInt8) : List D := ints .u8 (l.map fun c => ((digV c : Nat) : Int))
theorem dv_len (l : List UInt8) : (dv l).length = l.length := by simp [dv]
theorem dv_snoc (l : List UInt8) (c : UInt8) : dv l ++ [D.i .u8 ((digV c : Nat) : Int)] = dv (l ++ [c]) := by simp [dv, ints]
def rpL (s : List UInt8) (sg : Nat) (b : Bool) (acc : List UInt8) (pt : Bool) (af : Nat) : Task :=
  Task.at_ 14 0 [false, false, true, true, true, true, true] (sv 133 [(0, V.d (D.s s)), (4, V.d (D.i .u64 (sg : Int))), (5, V.d (D.l b (dv acc))), (6, V.d (D.b pt)), (7, V.d (D.i .i64 (af : Int)))]) [(5, 1)] []
def rpS (s : List UInt8) (sg : Nat) (b : Bool) (acc : List UInt8) (pt : Bool) (af : Nat) (go : Bool) : Task :=
  Task.at_ 14 0 [true, false, false, false, false, true, true, true, true, true] (sv 133 [(0, V.d (D.s s)), (4, V.d (D.i .u64 (sg : Int))), (5, V.d (D.l b (dv acc))), (6, V.d (D.b pt)), (7, V.d (D.i .i64 (af : Int))), (55, V.d (D.b go))]) [(5, 1)] []
theorem scan_nil (sg : Nat) (b : Bool) (acc : List UInt8) (pt : Bool) (af : Nat) : rk Tryd.prog pol (rpL [] sg b acc pt af) = rk Tryd.prog pol (rpS [] sg b acc pt af false) := by
  unfold rpL rpS
  rw [f14_at159, st_f (by decide), interp_call_ret]
theorem scan_cut (c : UInt8) (r : List UInt8) : List.take ((c :: r).length - 1) (List.drop 1 (c :: r)) = r := by simp
theorem scan_le (c : UInt8) (r : List UInt8) : ((0 : Int) ≤ 1 ∧ (1 : Int) ≤ (((c :: r).length : Nat) : Int)) := ⟨by decide, by rw [List.length_cons]; omega⟩
theorem scan_dig (c : UInt8) (r : List UInt8) (hc : isDig c = true) (sg : Nat) (b : Bool) (acc : List UInt8) (pt : Bool) (af : Nat) (ha : acc.length ≤ 1000000) (haf : af ≤ 1000000) :
    rk Tryd.prog pol (rpL (c :: r) sg b acc pt af) = rk Tryd.prog pol (rpL r sg false (acc ++ [c]) pt (if pt = true then af + 1 else af)) := by
  have h := (isDig_iff c).1 hc
  have g : getI (c :: r) 0 = some c := rfl
  have h46 : (c.toNat : Int) ≠ 46 := by omega
  have hw : IntKind.i64.wrap ((af : Int) + 1) = ((af + 1 : Nat) : Int) := by rw [wrap_i64] <;> omega
  have hh : headOk 1 (dv acc) = true := head_ints _ _
  unfold rpL
  rw [f14_at159, st_t (by rw [List.length_cons]; omega), st_ob g, st_t (by omega), st_ob g, st_t (by omega), interp_call_ret, f14_at1567, st_T, st_ob g, st_ne h46, st_ob g, hh, st_ift, Bool.or_true, st_ift, st_if (by rw [dv_len]; omega), u8_sub hc, dv_snoc, Bool.and_false]
  cases pt with
  | true => rw [st_T, hw, interp_call_ret, f14_at3359, st_if (scan_le c r), scan_cut, interp_call_ret, if_pos rfl]
  | false => rw [st_F, interp_call_ret, f14_at3359, st_if (scan_le c r), scan_cut, interp_call_ret, if_neg (by decide)]
theorem scan_dot (r : List UInt8) (sg : Nat) (b : Bool) (acc : List UInt8) (af : Nat) :
    rk Tryd.prog pol (rpL (46 :: r) sg b acc false af) = rk Tryd.prog pol (rpL r sg b acc true af) := by
  have g : getI ((46 : UInt8) :: r) 0 = some 46 := rfl
  unfold rpL
  rw [f14_at159, st_t (by rw [List.length_cons]; omega), st_ob g, st_f (by decide), st_ob g, st_eq (by rfl), interp_call_ret, f14_at1567, st_nf, st_ob g, st_eq (by rfl), interp_call_ret, f14_at3359, st_if (scan_le 46 r), scan_cut, interp_call_ret]
theorem scan_stop (c : UInt8) (r : List UInt8) (hc : isDig c = false) (sg : Nat) (b : Bool) (acc : List UInt8) (pt : Bool) (af : Nat) (hp : c = 46 → pt = true) :
    rk Tryd.prog pol (rpL (c :: r) sg b acc pt af) = rk Tryd.prog pol (rpS (c :: r) sg b acc pt af false) := by
  have h := mt (isDig_iff c).2 (by rw [hc]; decide)
  have g : getI (c :: r) 0 = some c := rfl
  unfold rpL rpS
  rw [f14_at159, st_t (by rw [List.length_cons]; omega), st_ob g]
  have fin : interp (rk Tryd.prog pol) (brB ((c.toNat : Int) == 46)
      (Tr.call (Task.at_ 14 0 [true, false, false, false, false, true, true, true, true, true] (sv 133 [(0, V.d (D.s (c :: r))), (4, V.d (D.i .u64 (sg : Int))), (5, V.d (D.l b (dv acc))), (6, V.d (D.b pt)), (7, V.d (D.i .i64 (af : Int))), (55, V.d (D.b !pt))]) [(5, 1)] []) Tr.ret)
      (Tr.call (Task.at_ 14 0 [true, false, false, false, false, true, true, true, true, true] (sv 133 [(0, V.d (D.s (c :: r))), (4, V.d (D.i .u64 (sg : Int))), (5, V.d (D.l b (dv acc))), (6, V.d (D.b pt)), (7, V.d (D.i .i64 (af : Int))), (55, V.d (D.b false))]) [(5, 1)] []) Tr.ret)) =
      rk Tryd.prog pol (Task.at_ 14 0 [true, false, false, false, false, true, true, true, true, true] (sv 133 [(0, V.d (D.s (c :: r))), (4, V.d (D.i .u64 (sg : Int))), (5, V.d (D.l b (dv acc))), (6, V.d (D.b pt)), (7, V.d (D.i .i64 (af : Int))), (55, V.d (D.b false))]) [(5, 1)] []) := by
    rw [u8_46]
    by_cases hd : c = 46
    · rw [st_t hd, interp_call_ret, hp hd]; rfl
    · rw [st_f hd, interp_call_ret]
  by_cases h1 : c.toNat < 48
  · rw [st_f (by omega), st_ob g]; exact fin
  · rw [st_t (by omega), st_ob g, st_f (by omega), st_ob g]; exact fin
theorem scan_after (sg : Nat) : ∀ (r : List UInt8) (b : Bool) (acc : List UInt8) (af : Nat), acc.length + r.length ≤ 1000 → af + r.length ≤ 1000 →
    ∃ b', rk Tryd.prog pol (rpL r sg b acc true af) = rk Tryd.prog pol (rpS (r.dropWhile isDig) sg b' (acc ++ r.takeWhile isDig) true (af + (r.takeWhile isDig).length) false)
  | [], b, acc, af, _, _ => ⟨b, by rw [scan_nil]; simp⟩
  | c :: r, b, acc, af, h1, h2 => by
    rw [List.length_cons] at h1 h2
    by_cases hc : isDig c = true
    · obtain ⟨b', hb⟩ := scan_after sg r false (acc ++ [c]) (af + 1) (by simp; omega) (by omega)
      refine ⟨b', ?_⟩
      rw [scan_dig c r hc sg b acc true af (by omega) (by omega), if_pos rfl, hb, List.dropWhile_cons, List.takeWhile_cons, hc, if_pos rfl, if_pos rfl, List.append_assoc, List.singleton_append, List.length_cons, show af + 1 + (r.takeWhile isDig).length = af + ((r.takeWhile isDig).length + 1) by omega]
    · have hc' : isDig c = false := by simpa using hc
      refine ⟨b, ?_⟩
      rw [scan_stop c r hc' sg b acc true af (fun _ => rfl), List.dropWhile_cons, List.takeWhile_cons, hc', if_neg (by decide), if_neg (by decide), List.append_nil]; rfl
/-- What is read ahead of the exponent: the rest, all digits, whether there is a point, the digits behind it. -/
def scanB (s : List UInt8) : List UInt8 × List UInt8 × Bool × List UInt8 :=
  match s.dropWhile isDig with
  | [] => ([], s.takeWhile isDig, false, [])
  | c :: r => if c = 46 then (r.dropWhile isDig, s.takeWhile isDig, true, r.takeWhile isDig) else (c :: r, s.takeWhile isDig, false, [])
theorem scan_all (sg : Nat) : ∀ (r : List UInt8) (b : Bool) (acc : List UInt8), acc.length + r.length ≤ 1000 →
    ∃ b', rk Tryd.prog pol (rpL r sg b acc false 0) = rk Tryd.prog pol (rpS (scanB r).1 sg b' (acc ++ (scanB r).2.1 ++ (scanB r).2.2.2) (scanB r).2.2.1 (scanB r).2.2.2.length false)
  | [], b, acc, _ => ⟨b, by rw [scan_nil]; simp [scanB]⟩
  | c :: r, b, acc, h1 => by
    rw [List.length_cons] at h1
    by_cases hc : isDig c = true
    · obtain ⟨b', hb⟩ := scan_all sg r false (acc ++ [c]) (by simp; omega)
      refine ⟨b', ?_⟩
      have e : scanB (c :: r) = ((scanB r).1, c :: (scanB r).2.1, (scanB r).2.2.1, (scanB r).2.2.2) := by
        unfold scanB
        rw [List.dropWhile_cons, List.takeWhile_cons, hc, if_pos rfl, if_pos rfl]
        split
        · rfl
        · split <;> rfl
      rw [scan_dig c r hc sg b acc false 0 (by omega) (by omega), if_neg (by decide), hb, e]
      simp
    · have hc' : isDig c = false := by simpa using hc
      by_cases hd : c = 46
      · subst hd
        obtain ⟨b', hb⟩ := scan_after sg r b acc 0 (by omega) (by omega)
        refine ⟨b', ?_⟩
        have e : scanB (46 :: r) = (r.dropWhile isDig, [], true, r.takeWhile isDig) := by
          unfold scanB
          rw [List.dropWhile_cons, List.takeWhile_cons, hc', if_neg (by decide), if_neg (by decide)]
          simp
        rw [scan_dot, hb, e]
        simp
      · refine ⟨b, ?_⟩
        have e : scanB (c :: r) = (c :: r, [], false, []) := by
          unfold scanB
          rw [List.dropWhile_cons, List.takeWhile_cons, hc', if_neg (by decide), if_neg (by decide)]
          simp [hd]
        rw [scan_stop c r hc' sg b acc false 0 (fun h => absurd h hd), e]
        simp
/-! ### The number -/
def rpN (sg : Nat) (b : Bool) (ds : List UInt8) (af : Nat) (ex : Int) (bx : Bool) (x i : Nat) (fl : List (Nat × Nat)) : Task :=
  Task.at_ 14 0 [false, true, false, true, true, true, true, true, true, true, true, true, true, true, true] (sv 133 [(4, V.d (D.i .u64 (sg : Int))), (5, V.d (D.l b (dv ds))), (7, V.d (D.i .i64 (af : Int))), (8, V.d (D.i .i64 ex)), (11, V.d (D.l bx (ws x))), (12, V.d (D.i .i64 (i : Int)))]) fl []
def sgV (neg : Bool) : Nat := if neg = true then 9223372036854775808 else 0
def outR (neg : Bool) (x : Nat) (m : Int) : Nat × Int :=
  if (bitsN (ratB m x).1 (ratB m x).2).2 = false then (0, 5) else (signV neg (bitsN (ratB m x).1 (ratB m x).2).1, 0)
def o2 (x : Nat × Int) : Option Out := some (.t [.d (.i .u64 (x.1 : Nat)), .d (.i .i64 x.2)], [])
theorem sg_or (neg : Bool) {v : Nat} (h : v < 2 ^ 63) : IntKind.u64.wrap (((BitVec.ofInt IntKind.u64.bits ((sgV neg : Nat) : Int) ||| BitVec.ofInt IntKind.u64.bits (v : Int)).toNat : Nat) : Int) = ((signV neg v : Nat) : Int) := by
  cases neg with
  | true =>
    have := (sign_or h).1
    rw [show (BitVec.ofInt IntKind.u64.bits ((sgV true : Nat) : Int) ||| BitVec.ofInt IntKind.u64.bits (v : Int)) = (BitVec.ofInt IntKind.u64.bits (v : Int) ||| BitVec.ofInt IntKind.u64.bits 9223372036854775808) from BitVec.or_comm ..]
    exact this
  | false =>
    have := or_nat (a := 0) (b := v) (by decide) (by omega)
    rw [Nat.zero_or] at this
    have e : (BitVec.ofInt IntKind.u64.bits ((sgV false : Nat) : Int) ||| BitVec.ofInt IntKind.u64.bits (v : Int)).toNat = v := this
    rw [e, u64_wrap]
    show (v : Int) % _ = (v : Int)
    omega
theorem last_s (neg : Bool) (b c : Bool) (p q : Nat) (hp : Mid p) (hq : Mid q) (hq0 : 0 < q) (fl : List (Nat × Nat)) (hfl : fl = [] ∨ fl = [(11, 1)]) :
    rk Tryd.prog pol (Task.at_ 14 0 [true, true, true, true, true, true, true, true, true, true, true, true, true, true, true, true] (sv 133 [(4, V.d (D.i .u64 ((sgV neg : Nat) : Int))), (11, V.d (D.l b (ws p))), (13, V.d (D.l c (ws q)))]) fl []) =
      o2 (if (bitsN p q).2 = false then (0, 5) else (signV neg (bitsN p q).1, 0)) := by
  have h := rround_ws b c p q hp hq hq0
  have hlt := bitsN_lt p q hq0
  have hor := sg_or neg hlt
  rcases hfl with rfl | rfl
  · rw [f14_at131071, st_IB h, hor]
    cases (bitsN p q).2 with
    | true => rw [st_nt, interp_ret]; rfl
    | false => rw [st_nf, interp_ret]; rfl
  · rw [f14_at131071_1, st_IB h, hor]
    cases (bitsN p q).2 with
    | true => rw [st_nt, interp_ret]; rfl
    | false => rw [st_nf, interp_ret]; rfl
theorem num_end (neg : Bool) (b : Bool) (ds : List UInt8) (af : Nat) (ex : Int) (bx : Bool) (x i : Nat) (fl : List (Nat × Nat)) (hfl : fl = [(11, 1), (5, 1)] ∨ fl = [(5, 1)]) (hi : i = ds.length) (hx : x < 10 ^ 60) (hm1 : -500 ≤ ex - af) (hm2 : ex - af ≤ 500) (haf : af ≤ 1000) :
    rk Tryd.prog pol (rpN (sgV neg) b ds af ex bx x i fl) = o2 (outR neg x (ex - af)) := by
  have hmx : Mid x := mid_lt (Nat.lt_trans hx (pow10_lt (n := 60) (by decide)))
  have w1 : IntKind.i64.wrap (ex - (af : Int)) = ex - (af : Int) := by rw [wrap_i64] <;> omega
  unfold outR
  rw [ratB_eq]
  obtain ⟨m, hm⟩ : ∃ m : Int, m = ex - (af : Int) := ⟨_, rfl⟩
  rw [← hm] at hm1 hm2 w1 ⊢
  have m1 : Mid (x * 10 ^ m.toNat) := by
    have := (ratB_mid (m := m) hx hm1 hm2).1
    rw [ratB_eq] at this; exact this
  have m2 : Mid (10 ^ (-m).toNat) := mid_lt (pow10_lt (by omega))
  have p2 : 0 < 10 ^ (-m).toNat := Nat.pow_pos (by decide)
  have fin : ∀ X : Option Out, (∀ (b1 b2 : Bool) (fl' : List (Nat × Nat)), fl' = [] ∨ fl' = [(11, 1)] → rk Tryd.prog pol (Task.at_ 14 0 [true, true, true, true, true, true, true, true, true, true, true, true, true, true, true, true] (sv 133 [(4, V.d (D.i .u64 ((sgV neg : Nat) : Int))), (11, V.d (D.l b1 (ws (x * 10 ^ m.toNat)))), (13, V.d (D.l b2 (ws (10 ^ (-m).toNat))))]) fl' []) = X) → rk Tryd.prog pol (rpN (sgV neg) b ds af ex bx x i fl) = X := by
    intro X hX
    unfold rpN
    by_cases h : m ≥ 0
    · have ht := rten_ws m.toNat (by omega)
      rw [show ((m.toNat : Nat) : Int) = m by omega] at ht
      have hmul := rmul_ws bx (tb m.toNat) x (10 ^ m.toNat) hmx.fits (mid_lt (pow10_lt (by omega))).fits
      have h1 := hX (nb (x * 10 ^ m.toNat)) true [] (Or.inl rfl)
      rw [show (-m).toNat = 0 by omega, Nat.pow_zero, ws_one] at h1
      rcases hfl with rfl | rfl
      · rw [f14_at45055, dv_len, st_f (by omega), ← hm, w1, st_t h, st_L ht, st_L hmul, interp_call_ret]
        exact h1
      · rw [f14_at45055_1, dv_len, st_f (by omega), ← hm, w1, st_t h, st_L ht, st_L hmul, interp_call_ret]
        exact h1
    · have ht := rten_ws (-m).toNat (by omega)
      have w2 : IntKind.i64.wrap (0 - m) = (((-m).toNat : Nat) : Int) := by rw [wrap_i64] <;> omega
      have h1 := hX bx (tb (-m).toNat) [(11, 1)] (Or.inr rfl)
      have h2 := hX bx (tb (-m).toNat) [] (Or.inl rfl)
      rw [show m.toNat = 0 by omega, Nat.pow_zero, Nat.mul_one] at h1 h2
      rcases hfl with rfl | rfl
      · rw [f14_at45055, dv_len, st_f (by omega), ← hm, w1, st_f h, w2, st_L ht, interp_call_ret]
        exact h1
      · rw [f14_at45055_1, dv_len, st_f (by omega), ← hm, w1, st_f h, w2, st_L ht, interp_call_ret]
        exact h2
  exact fin _ fun b1 b2 fl' hfl' => last_s neg b1 b2 _ _ m1 m2 p2 fl' hfl'
theorem num_all (neg : Bool) (b : Bool) (ds : List UInt8) (hds : ∀ c ∈ ds, isDig c = true) (hdl : ds.length ≤ 60) (af : Nat) (ex : Int) (hm1 : -500 ≤ ex - af) (hm2 : ex - af ≤ 500) (haf : af ≤ 1000) : ∀ (d i : Nat) (bx : Bool) (fl : List (Nat × Nat)), i + d = ds.length → (fl = [(11, 1), (5, 1)] ∨ fl = [(5, 1)]) →
    rk Tryd.prog pol (rpN (sgV neg) b ds af ex bx (numB (ds.take i)) i fl) = o2 (outR neg (numB ds) (ex - af))
  | 0, i, bx, fl, hi, hfl => by
    have h1 : ds.take i = ds := List.take_of_length_le (by omega)
    rw [h1]
    exact num_end neg b ds af ex bx (numB ds) i fl hfl (by omega) (Nat.lt_of_lt_of_le (numB_lt ds hds) (Nat.pow_le_pow_right (by decide) hdl)) hm1 hm2 haf
  | d + 1, i, bx, fl, hi, hfl => by
    have hil : i < ds.length := by omega
    have hc : isDig ds[i] = true := hds _ (List.getElem_mem hil)
    have hlt := digV_lt hc
    have hx : numB (ds.take i) < 10 ^ 60 := Nat.lt_of_lt_of_le (numB_lt _ fun c h => hds c (List.mem_of_mem_take h)) (Nat.pow_le_pow_right (by decide) (by rw [List.length_take]; omega))
    have hstep : numB (ds.take (i + 1)) = numB (ds.take i) * 10 + digV ds[i] := by
      rw [List.take_add_one, List.getElem?_eq_getElem hil, Option.toList_some, numB_append]
      have h1 : numB [ds[i]] = 0 * 10 + digV ds[i] := rfl
      rw [h1, Nat.zero_mul, Nat.zero_add]; rfl
    have ih := num_all neg b ds hds hdl af ex hm1 hm2 haf d (i + 1) (nb (numB (ds.take (i + 1)))) [(5, 1)] (by omega) (Or.inr rfl)
    have hgd : (dv ds)[i]? = some (D.i .u8 ((digV ds[i] : Nat) : Int)) := by
      unfold dv
      rw [get_ints, List.getElem?_map, List.getElem?_eq_getElem hil]; rfl
    have hgI : getI (dv ds) (i : Int) = some (D.i .u8 ((digV ds[i] : Nat) : Int)) := by rw [getI_nat, hgd]
    have fx : ∀ k, k < 10 ^ 61 → Fits k := fun k hk => (mid_lt (Nat.lt_trans hk (pow10_lt (n := 61) (by decide)))).fits
    have hm : rk Tryd.prog pol (Task.call 29 [V.d (D.l bx (ws (numB (ds.take i)))), V.d (D.l true [D.i IntKind.u32 10])] []) = some (.d (.l (nb (numB (ds.take i) * 10)) (ws (numB (ds.take i) * 10))), []) := by
      have := rmul_ws bx true (numB (ds.take i)) 10 (fx _ (by omega)) (fx _ (by omega))
      rw [show ws 10 = [D.i IntKind.u32 10] by rw [ws, limbs_pos (by decide), show 10 / W = 0 by decide, limbs_zero]; rfl] at this
      exact this
    have hw : IntKind.u64.wrap ((digV ds[i] : Nat) : Int) = ((digV ds[i] : Nat) : Int) := by rw [u64_wrap]; omega
    have ho := rof_ws (digV ds[i]) (by omega)
    have ha := radd_ws (nb (numB (ds.take i) * 10)) (nb (digV ds[i])) (numB (ds.take i) * 10) (digV ds[i]) (fx _ (by omega)) (fx _ (by omega))
    have hw2 : IntKind.i64.wrap ((i : Int) + 1) = ((i + 1 : Nat) : Int) := by rw [wrap_i64] <;> omega
    rw [← hstep] at ha
    rw [← ih]
    unfold rpN
    rcases hfl with rfl | rfl
    · rw [f14_at45055, dv_len, st_t (by omega), st_L hm, st_ob hgI, width1_i, st_ift, Int.toNat_natCast, st_ob hgd, st_ob (cells0_i _ _), st_asI, hw, st_L ho, st_L ha, hw2, interp_call_ret]
    · rw [f14_at45055_1, dv_len, st_t (by omega), st_L hm, st_ob hgI, width1_i, st_ift, Int.toNat_natCast, st_ob hgd, st_ob (cells0_i _ _), st_asI, hw, st_L ho, st_L ha, hw2, interp_call_ret]
end Go.Dn.Dec
namespace Go.Dn.Dec
open Go.Proofs
set_option exponentiation.threshold 5000000
/-- What the document's Parse answers, from what it read. -/
def refB (s : List UInt8) : Nat × Int :=
  let n := (signB s).1
  let q := scanB (signB s).2
  if q.2.1 ++ q.2.2.2 = [] ∨ (q.2.2.1 = true ∧ q.2.2.2 = []) then (0, 2)
  else if (expB q.1).2.2 ≠ 0 then (0, (expB q.1).2.2)
  else if 60 < (q.2.1 ++ q.2.2.2).length then (0, 4)
  else if (expB q.1).2.1 = true then (0, 5)
  else outR n (numB (q.2.1 ++ q.2.2.2)) ((expB q.1).1 - (q.2.2.2.length : Int))
theorem expB_ok (s : List UInt8) : (expB s).2.2 = 0 ∨ (expB s) = (0, false, 2) := by
  unfold expB
  split
  · exact Or.inl rfl
  · split
    · exact Or.inr rfl
    · split
      · exact Or.inr rfl
      · split
        · exact Or.inl rfl
        · exact Or.inr rfl
theorem expB_le (s : List UInt8) (h : (expB s).2.1 = false) : -400 ≤ (expB s).1 ∧ (expB s).1 ≤ 400 := by
  unfold expB at h ⊢
  split
  · exact ⟨by decide, by decide⟩
  · rename_i c r
    simp only at h ⊢
    split
    · exact ⟨by decide, by decide⟩
    · rename_i h1
      rw [if_neg h1] at h
      split
      · exact ⟨by decide, by decide⟩
      · rename_i h2
        rw [if_neg h2] at h
        split
        · rename_i h3
          rw [if_pos h3] at h
          have := of_decide_eq_false h
          simp only
          split <;> omega
        · exact ⟨by decide, by decide⟩
theorem scanB_dig (s : List UInt8) : (∀ c ∈ (scanB s).2.1 ++ (scanB s).2.2.2, isDig c = true) ∧ (scanB s).1.length ≤ s.length ∧ (scanB s).2.2.2.length ≤ s.length ∧ ((scanB s).2.1 ++ (scanB s).2.2.2).length ≤ s.length := by
  have h1 := take_dig s
  have hl : (s.takeWhile isDig).length + (s.dropWhile isDig).length = s.length := by
    have := congrArg List.length (List.takeWhile_append_dropWhile (p := isDig) (l := s))
    rwa [List.length_append] at this
  unfold scanB
  split
  · rename_i e
    rw [e] at hl
    refine ⟨by simpa using h1, by simp, by simp, by simp only [List.append_nil]; simp at hl; omega⟩
  · rename_i c r e
    rw [e, List.length_cons] at hl
    have hr : (r.takeWhile isDig).length + (r.dropWhile isDig).length = r.length := by
      have := congrArg List.length (List.takeWhile_append_dropWhile (p := isDig) (l := r))
      rwa [List.length_append] at this
    split
    · exact ⟨app_dig h1 (take_dig r), by simp only; omega, by simp only; omega, by simp only [List.length_append]; omega⟩
    · refine ⟨by simpa using h1, by simp only [List.length_cons]; omega, by simp, by simp only [List.append_nil]; omega⟩
/-- Behind the digits. -/
theorem ref_stop (neg : Bool) (t : List UInt8) (b : Bool) (ds : List UInt8) (hds : ∀ c ∈ ds, isDig c = true) (pt : Bool) (af : Nat) (ht : t.length ≤ 1000) (haf : af ≤ 100) (hdl : ds.length ≤ 1000) :
    rk Tryd.prog pol (rpS t (sgV neg) b ds pt af false) = o2 (if ds = [] ∨ (pt = true ∧ af = 0) then (0, 2)
      else if (expB t).2.2 ≠ 0 then (0, (expB t).2.2) else if 60 < ds.length then (0, 4) else if (expB t).2.1 = true then (0, 5) else outR neg (numB ds) ((expB t).1 - (af : Int))) := by
  have he := exponent_s t (by omega)
  have rest : ∀ bad : Bool, rk Tryd.prog pol (Task.at_ 14 0 [true, false, true, true, true, true, true, true]
      (sv 133 [(0, V.d (D.s t)), (4, V.d (D.i .u64 ((sgV neg : Nat) : Int))), (5, V.d (D.l b (dv ds))), (7, V.d (D.i .i64 (af : Int))), (79, V.d (D.b bad))]) [(5, 1)] []) =
      o2 (if bad = true then (0, 2) else if (expB t).2.2 ≠ 0 then (0, (expB t).2.2) else if 60 < ds.length then (0, 4) else if (expB t).2.1 = true then (0, 5) else outR neg (numB ds) ((expB t).1 - (af : Int))) := by
    intro bad
    rw [f14_at447]
    cases bad with
    | true => rw [st_T, interp_ret, if_pos rfl]; rfl
    | false =>
      rw [st_F, st_IBI he, if_neg (by decide)]
      by_cases h1 : (expB t).2.2 ≠ 0
      · rw [st_ne_t h1, interp_ret, if_pos h1]; rfl
      · have h1' : (expB t).2.2 = 0 := by omega
        rw [st_ne_f h1', if_neg h1, dv_len]
        by_cases h2 : 60 < ds.length
        · rw [st_t (by omega), interp_ret, if_pos h2]; rfl
        · rw [st_f (by omega), if_neg h2]
          cases h3 : (expB t).2.1 with
          | true => rw [st_T, interp_ret, if_pos rfl]; rfl
          | false =>
            have hle := expB_le t h3
            have hN := num_all neg b ds hds (by omega) af (expB t).1 (by omega) (by omega) (by omega) ds.length 0 true [(11, 1), (5, 1)] (by omega) (Or.inl rfl)
            rw [List.take_zero, show numB [] = 0 from rfl] at hN
            unfold rpN at hN
            rw [ws_zero, Int.natCast_zero] at hN
            rw [st_F, interp_call_ret, if_neg (by decide)]
            exact hN
  unfold rpS
  rw [f14_at1567, st_F, dv_len]
  by_cases h0 : ds = []
  · have hl0 : ((ds.length : Nat) : Int) = 0 := by rw [h0]; rfl
    rw [st_eq hl0, interp_call_ret, rest true, if_pos rfl, if_pos (Or.inl h0)]
  · have hl0 : ((ds.length : Nat) : Int) ≠ 0 := by
      have := List.length_pos_iff.2 h0; omega
    rw [st_ne hl0]
    cases pt with
    | false => rw [st_F, interp_call_ret, rest false, if_neg (show ¬ (false = true) by decide), if_neg (show ¬ (ds = [] ∨ (false = true ∧ af = 0)) by simp [h0])]
    | true =>
      rw [st_T, interp_call_ret, rest _]
      by_cases ha : af = 0
      · rw [if_pos (by rw [beq_iff_eq]; omega), if_pos (Or.inr ⟨rfl, ha⟩)]
      · have hn : ¬ (ds = [] ∨ (true = true ∧ af = 0)) := by
          rintro (h | ⟨-, h⟩)
          · exact h0 h
          · exact ha h
        rw [if_neg (show ¬ (((af : Int) == 0) = true) by rw [beq_iff_eq]; omega), if_neg hn]
theorem rparse_ref (s : List UInt8) (hs : s.length ≤ 80) : rk Tryd.prog pol (Task.call 14 [V.d (D.s s)] []) = o2 (refB s) := by
  have main : ∀ (neg : Bool) (u : List UInt8), u.length ≤ 80 → rk Tryd.prog pol (rpL u (sgV neg) true [] false 0) = o2 (
      let q := scanB u
      if q.2.1 ++ q.2.2.2 = [] ∨ (q.2.2.1 = true ∧ q.2.2.2 = []) then (0, 2)
      else if (expB q.1).2.2 ≠ 0 then (0, (expB q.1).2.2)
      else if 60 < (q.2.1 ++ q.2.2.2).length then (0, 4)
      else if (expB q.1).2.1 = true then (0, 5)
      else outR neg (numB (q.2.1 ++ q.2.2.2)) ((expB q.1).1 - (q.2.2.2.length : Int))) := by
    intro neg u hu
    obtain ⟨b', hb⟩ := scan_all (sgV neg) u true [] (by simp; omega)
    obtain ⟨s1, s2, s3, s4⟩ := scanB_dig u
    rw [hb, List.nil_append, ref_stop neg _ b' _ s1 _ _ (by omega) (by omega) (by omega)]
    have e : ((scanB u).2.2.2.length = 0) = ((scanB u).2.2.2 = []) := propext List.length_eq_zero_iff
    simp only [e]
  have sgn : ∀ (neg : Bool) (c : UInt8) (r : List UInt8), (c :: r).length ≤ 80 → rk Tryd.prog pol (Task.at_ 14 0 [true, false, true, false, true, true] (sv 133 [(0, V.d (D.s (c :: r))), (4, V.d (D.i .u64 ((sgV neg : Nat) : Int)))]) [] []) = rk Tryd.prog pol (rpL r (sgV neg) true [] false 0) := by
    intro neg c r h
    rw [f14_at107, st_if (scan_le c r), scan_cut, interp_call_ret]; rfl
  rw [f14]
  unfold refB
  cases s with
  | nil =>
    rw [st_f (by decide), interp_call_ret, f14_at27, st_F, interp_call_ret]
    exact main false [] (by decide)
  | cons c r =>
    have g : getI (c :: r) 0 = some c := rfl
    have hr : r.length ≤ 80 := by simp at hs; omega
    rw [st_t (by rw [List.length_cons]; omega), st_ob g, u8_43]
    by_cases h43 : c = 43
    · rw [st_t h43, interp_call_ret, f14_at27, st_T, st_ob g, u8_45, st_f (by rw [h43]; decide), interp_call_ret]
      have e : signB (c :: r) = (false, r) := by rw [h43]; rfl
      have := sgn false c r hs
      rw [main false r hr] at this
      rw [e]
      exact this
    · rw [st_f h43, st_ob g, u8_45, interp_call_ret, f14_at27]
      by_cases h45 : c = 45
      · rw [decide_eq_true h45, st_T, st_ob g, u8_45, st_t h45, interp_call_ret]
        have e : signB (c :: r) = (true, r) := by rw [h45]; rfl
        have := sgn true c r hs
        rw [main true r hr] at this
        rw [e]
        exact this
      · rw [decide_eq_false h45, st_F, interp_call_ret]
        have e : signB (c :: r) = (false, c :: r) := by simp [signB, h43, h45]
        rw [e]
        exact main false (c :: r) hs
/-! ### The two answers are one -/
theorem numB_zero_drop (d : List UInt8) : numB (d.dropWhile (· == 48)) = numB d := by
  induction d with
  | nil => rfl
  | cons c d ih =>
    rw [List.dropWhile_cons]
    split
    · rename_i h
      have hc : c = 48 := by simpa using h
      rw [ih, hc]
      show numB d = numF (0 * 10 + digV 48) d
      rfl
    · rfl
theorem numF_ge : ∀ (d : List UInt8) (v : Nat), v * 10 ^ d.length ≤ numF v d := by
  intro d v
  rw [numF_eq]; exact Nat.le_add_right _ _
theorem big_pow (t : Tx) (hd : ∀ c ∈ t.ex, isDig c = true) : powB t = (if 400 < numB t.ex then ((powB t).1, false) else ((if t.en = true then -(numB t.ex : Int) else (numB t.ex : Int)), true)) := by
  have hz := numB_zero_drop t.ex
  have hdd : ∀ c ∈ t.ex.dropWhile (· == 48), isDig c = true := fun c h => hd c ((List.dropWhile_sublist _).subset h)
  by_cases h3 : 3 < (t.ex.dropWhile (· == 48)).length
  · -- four digits, the first not nought
    have hbig : 400 < numB t.ex := by
      rw [← hz]
      cases he : t.ex.dropWhile (· == 48) with
      | nil => rw [he] at h3; simp at h3
      | cons c r =>
        have hc48 : ¬ (c == 48) = true := by
          have := List.head?_dropWhile_not (fun x : UInt8 => x == 48) t.ex
          rw [he] at this
          simpa using this
        have hc := hdd c (by rw [he]; simp)
        have h1 : 1 ≤ digV c := by
          have h48 : c ≠ 48 := fun e => hc48 (by rw [e]; rfl)
          have hn : c.toNat ≠ 48 := fun e => h48 (UInt8.toNat_inj.1 e)
          have := (isDig_iff c).1 hc
          unfold digV; omega
        rw [he, List.length_cons] at h3
        have h2 := numF_ge r (0 * 10 + digV c)
        have h4 : 10 ^ 3 ≤ 10 ^ r.length := Nat.pow_le_pow_right (by decide) (by omega)
        have h5 : 1 * 10 ^ r.length ≤ (0 * 10 + digV c) * 10 ^ r.length := Nat.mul_le_mul_right _ (by omega)
        show 400 < numF (0 * 10 + digV c) r
        omega
    rw [if_pos hbig]
    have e : (powB t).2 = false := by unfold powB; rw [if_pos h3]
    exact Prod.ext rfl e
  · unfold powB
    rw [if_neg h3]
    simp only [hz]
    by_cases hb : 400 < numB t.ex
    · rw [if_pos hb]
      refine Prod.ext rfl ?_
      simp only
      cases t.en
      · simp; omega
      · simp; omega
    · rw [if_neg hb]
      refine Prod.ext rfl ?_
      simp only
      cases t.en
      · simp; omega
      · simp; omega
theorem all_take {d : List UInt8} (h : d.all isDig = true) : d.takeWhile isDig = d ∧ d.dropWhile isDig = [] := by
  rw [List.all_eq_true] at h
  have h1 := takeW d [] h rfl
  have h2 := dropW d [] h rfl
  rw [List.append_nil] at h1 h2
  exact ⟨h1, h2⟩
theorem drop_all {d : List UInt8} (h : d.dropWhile isDig = []) : d.all isDig = true := by
  have h1 : d.takeWhile isDig ++ d.dropWhile isDig = d := List.takeWhile_append_dropWhile
  rw [h, List.append_nil] at h1
  rw [← h1, List.all_eq_true]
  exact take_dig d
/-- What the exponent tells, in both. -/
theorem exp_fin (n : Bool) (w p t : List UInt8) (h : ¬ (w = [] ∧ p = [])) :
    ((finB n w p t).2 = false ∧ (expB t).2.2 = 2) ∨
    ((finB n w p t).2 = true ∧ (expB t).2.2 = 0 ∧ (((expB t).2.1 = true ∧ (powB (finB n w p t).1).2 = false) ∨ ((expB t).2.1 = false ∧ powB (finB n w p t).1 = ((expB t).1, true)))) := by
  unfold finB
  rw [if_neg h]
  cases t with
  | nil => exact Or.inr ⟨rfl, rfl, Or.inr ⟨rfl, rfl⟩⟩
  | cons c r =>
    by_cases h1 : c ≠ 101 ∧ c ≠ 69
    · simp only [expB, if_pos h1]
      exact Or.inl ⟨by trivial, by trivial⟩
    · simp only [expB, if_neg h1]
      by_cases h2 : (signB r).2 = []
      · rw [if_pos h2, h2]
        exact Or.inl ⟨rfl, rfl⟩
      · rw [if_neg h2]
        by_cases h3 : (signB r).2.all isDig = true
        · obtain ⟨e1, e2⟩ := all_take h3
          rw [if_pos h3, e1, e2]
          refine Or.inr ⟨by simp [h2], rfl, ?_⟩
          rw [List.all_eq_true] at h3
          have hb := big_pow ⟨n, w, p, (signB r).1, (signB r).2⟩ h3
          have hcap : capF 0 (signB r).2 = min (numB (signB r).2) 100000 := capF_eq _ 0 0 rfl
          simp only at hb ⊢
          rw [hcap]
          by_cases hbig : 400 < numB (signB r).2
          · rw [if_pos hbig] at hb
            refine Or.inl ⟨decide_eq_true (by omega), ?_⟩
            rw [hb]
          · rw [if_neg hbig] at hb
            refine Or.inr ⟨decide_eq_false (by omega), ?_⟩
            rw [hb, show min (numB (signB r).2) 100000 = numB (signB r).2 by omega]
        · rw [if_neg h3]
          refine Or.inl ⟨?_, rfl⟩
          have : (signB r).2.dropWhile isDig ≠ [] := fun e => h3 (drop_all e)
          simp [this]
theorem refB_eq (s : List UInt8) : refB s = parseB s := by
  have key : ∀ (n : Bool) (w p t : List UInt8), ¬ (w = [] ∧ p = []) →
      (if (expB t).2.2 ≠ 0 then (0, (expB t).2.2) else if 60 < (w ++ p).length then (0, 4) else if (expB t).2.1 = true then (0, 5) else outR n (numB (w ++ p)) ((expB t).1 - (p.length : Int))) =
      (if (finB n w p t).2 = false then (0, 2)
        else if 60 < (finB n w p t).1.whole.length + (finB n w p t).1.part.length then (0, 4)
        else if (powB (finB n w p t).1).2 = false then (0, 5)
        else
          let r := ratB ((powB (finB n w p t).1).1 - (finB n w p t).1.part.length) (numB ((finB n w p t).1.whole ++ (finB n w p t).1.part))
          if (bitsN r.1 r.2).2 = false then (0, 5) else (signV (finB n w p t).1.neg (bitsN r.1 r.2).1, 0)) := by
    intro n w p t h
    obtain ⟨f1, f2⟩ := finB_len n w p t
    have f3 : (finB n w p t).1.neg = n := by
      unfold finB
      split
      · rfl
      · split
        · rfl
        · split <;> rfl
    rw [f1, f2, f3, List.length_append]
    rcases exp_fin n w p t h with ⟨h1, h2⟩ | ⟨h1, h2, h3⟩
    · rw [if_pos h1, h2]; rfl
    · rw [h1, h2, if_neg (show ¬ ((0 : Int) ≠ 0) by decide), if_neg (show ¬ (true = false) by decide)]
      by_cases h60 : 60 < w.length + p.length
      · rw [if_pos h60, if_pos h60]
      · rw [if_neg h60, if_neg h60]
        rcases h3 with ⟨h3, h4⟩ | ⟨h3, h4⟩
        · rw [if_pos h3, if_pos h4]
        · rw [h3, h4, if_neg (show ¬ (false = true) by decide), if_neg (show ¬ (true = false) by decide)]
          rfl
  have none_ : ∀ (n : Bool) (t : List UInt8), (finB n [] [] t).2 = false := fun n t => by unfold finB; rw [if_pos ⟨rfl, rfl⟩]
  unfold refB parseB splitB
  simp only
  generalize (signB s).1 = n
  generalize (signB s).2 = u
  unfold scanB
  cases hd : u.dropWhile isDig with
  | nil =>
    simp only [List.append_nil, Bool.false_eq_true, false_and, or_false]
    by_cases hw : u.takeWhile isDig = []
    · rw [if_pos hw, hw, if_pos (none_ n [])]
    · rw [if_neg hw]
      have := key n (u.takeWhile isDig) [] [] (fun h => hw h.1)
      rw [List.append_nil] at this
      exact this
  | cons c r =>
    by_cases h46 : c = 46
    · simp only [if_pos h46]
      by_cases hp : r.takeWhile isDig = []
      · rw [if_pos (Or.inr ⟨trivial, hp⟩), if_pos hp]
        rfl
      · have hne : ¬ (u.takeWhile isDig = [] ∧ r.takeWhile isDig = []) := fun h => hp h.2
        rw [if_neg (by rintro (h | ⟨-, h⟩); exact hne ⟨(List.append_eq_nil_iff.1 h).1, (List.append_eq_nil_iff.1 h).2⟩; exact hp h), if_neg hp]
        exact key n (u.takeWhile isDig) (r.takeWhile isDig) (r.dropWhile isDig) hne
    · simp only [if_neg h46, List.append_nil, Bool.false_eq_true, false_and, or_false]
      by_cases hw : u.takeWhile isDig = []
      · rw [if_pos hw, hw, if_pos (none_ n (c :: r))]
      · rw [if_neg hw]
        have := key n (u.takeWhile isDig) [] (c :: r) (fun h => hw h.1)
        rw [List.append_nil] at this
        exact this
theorem parses_s (s : List UInt8) : rk Tryd.prog pol (Task.call 3 [V.d (D.s s)] []) = some (.d (.b true), []) := by
  rw [f3, st_B begun_s, st_nt]
  by_cases h : s.length > 80
  · rw [st_t (by omega), interp_ret]
  · have h1 := parse_s s (by omega)
    have h2 := rparse_ref s (by omega)
    rw [refB_eq] at h2
    rw [st_f (by omega), st_II h1, st_II h2, st_eq rfl, interp_ret, beq_self_eq_true]
end Go.Dn.Dec
