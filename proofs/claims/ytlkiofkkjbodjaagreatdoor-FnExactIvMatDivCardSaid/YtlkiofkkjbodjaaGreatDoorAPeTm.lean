/- Lists of intervals among a row's arguments. -/
import Derived.Test.YtlkiofkkjbodjaaGreatDoorAPeTk
import Derived.Test.YtlkiofkkjbodjaaGreatDoorAPeTi
import Derived.Test.YtlkiofkkjbodjaaGreatDoorAEvD
set_option linter.unusedSimpArgs false
set_option linter.unusedVariables false
namespace Go.Pe
open Go Go.Dg

theorem rq_dn {n d : Nat} (hd : 0 < d) (s : Bool) : ∃ z N : Int, z = (if s = true then -((rq true n d 3 : Nat) : Int) else ((rq false n d 3 : Nat) : Int)) ∧ N = (if s = true then -(n : Int) else n) ∧ z * d ≤ N ∧ N < (z + 1) * d := by
 obtain ⟨Q, hQ⟩ : ∃ Q, Q = n / d := ⟨_, rfl⟩
 obtain ⟨r, hr⟩ : ∃ r, r = n % d := ⟨_, rfl⟩
 obtain ⟨p, hp⟩ : ∃ p : Int, p = (Q : Int) * d := ⟨_, rfl⟩
 have h1 := Nat.div_add_mod n d
 have h2 := Nat.mod_lt n hd
 rw [← hQ, ← hr] at h1
 rw [← hr] at h2
 have h3 : (n : Int) = p + r := by rw [hp, Int.mul_comm, ← Int.natCast_mul]; omega
 refine ⟨_, _, rfl, rfl, ?_⟩
 have e1 : ∀ z : Int, (z + 1) * (d : Int) = z * d + d := fun z => by rw [Int.add_mul, Int.one_mul]
 have e2 : (-(Q : Int)) * d = -p := by rw [Int.neg_mul, hp]
 have e3 : (-(Q : Int) - 1) * d = -p - d := by rw [Int.sub_mul, e2, Int.one_mul]
 cases s
 ·rw [if_neg (by decide), if_neg (by decide), e1]
  have : rq false n d 3 = Q := by
   by_cases h : n % d = 0
   ·rw [rq_exact h, hQ]
   ·rw [rq_down h (by unfold rup; rfl), hQ]
  rw [this, ← hp]
  omega
 ·rw [if_pos rfl, if_pos rfl, e1]
  by_cases h : n % d = 0
  ·rw [rq_exact h, ← hQ, e2]
   rw [← hr] at h
   omega
  ·rw [rq_up h (by unfold rup; rfl), ← hQ, show (-((Q + 1 : Nat) : Int)) = -(Q : Int) - 1 by omega, e3]
   rw [← hr] at h
   omega

theorem rq_ups {n d : Nat} (hd : 0 < d) (s : Bool) : ∃ z N : Int, z = (if s = true then -((rq true n d 2 : Nat) : Int) else ((rq false n d 2 : Nat) : Int)) ∧ N = (if s = true then -(n : Int) else n) ∧ N ≤ z * d ∧ (z - 1) * d < N := by
 obtain ⟨Q, hQ⟩ : ∃ Q, Q = n / d := ⟨_, rfl⟩
 obtain ⟨r, hr⟩ : ∃ r, r = n % d := ⟨_, rfl⟩
 obtain ⟨p, hp⟩ : ∃ p : Int, p = (Q : Int) * d := ⟨_, rfl⟩
 have h1 := Nat.div_add_mod n d
 have h2 := Nat.mod_lt n hd
 rw [← hQ, ← hr] at h1
 rw [← hr] at h2
 have h3 : (n : Int) = p + r := by rw [hp, Int.mul_comm, ← Int.natCast_mul]; omega
 refine ⟨_, _, rfl, rfl, ?_⟩
 have e1 : ∀ z : Int, (z - 1) * (d : Int) = z * d - d := fun z => by rw [Int.sub_mul, Int.one_mul]
 have e2 : (-(Q : Int)) * d = -p := by rw [Int.neg_mul, hp]
 have e3 : ((Q : Int) + 1) * d = p + d := by rw [Int.add_mul, ← hp, Int.one_mul]
 cases s
 ·rw [if_neg (by decide), if_neg (by decide), e1]
  by_cases h : n % d = 0
  ·rw [rq_exact h, ← hQ, ← hp]
   rw [← hr] at h
   omega
  ·rw [rq_up h (by unfold rup; rfl), ← hQ, show ((Q + 1 : Nat) : Int) = (Q : Int) + 1 by omega, e3]
   rw [← hr] at h
   omega
 ·rw [if_pos rfl, if_pos rfl, e1]
  have : rq true n d 2 = Q := by
   by_cases h : n % d = 0
   ·rw [rq_exact h, hQ]
   ·rw [rq_down h (by unfold rup; rfl), hQ]
  rw [this, e2]
  omega

theorem mk_le (a b e : Int) : mk a e ≤ mk b e ↔ a ≤ b := by
 rw [← Std.not_lt, mk_lt]; omega

theorem divD_scale {a b : Dyadic} {low m : Int} (hb : 0 < cZ b) : ∃ (n d : Nat) (e : Int), 0 < d ∧ a = mk (if decide (cZ a < 0) = true then -(n : Int) else n) e ∧ b * mk 1 low = mk d e ∧
  zover (cZ a) (cZ b) (cE a - cE b - low) m = (if decide (cZ a < 0) = true then -((rq true n d m : Nat) : Int) else ((rq false n d m : Nat) : Int)) ∧ ∀ z : Int, mk z low * b = mk (z * d) e := by
 obtain ⟨K, hK⟩ : ∃ K, K = cE a - cE b - low := ⟨_, rfl⟩
 have hd : 0 < (cZ b).natAbs * 2 ^ (-K).toNat := Nat.mul_pos (by omega) (Nat.two_pow_pos _)
 have hbz : (((cZ b).natAbs * 2 ^ (-K).toNat : Nat) : Int) = cZ b * 2 ^ (-K).toNat := by
  rw [Int.natCast_mul, Int.natAbs_of_nonneg (by omega), Int.natCast_pow]; rfl
 have hall : ∀ z : Int, mk z low * b = mk (z * (((cZ b).natAbs * 2 ^ (-K).toNat : Nat) : Int)) (cE a - K.toNat) := by
  intro z
  have h1 : mk z low * b = mk (z * cZ b) (low + cE b) := by
   have := mk_mul z (cZ b) low (cE b)
   rw [mk_canon] at this
   exact this
  rw [h1, hbz, ← Int.mul_assoc, show cE a - K.toNat = (low + cE b) - ((-K).toNat : Nat) by omega, mk_shift]
 refine ⟨(cZ a).natAbs * 2 ^ K.toNat, (cZ b).natAbs * 2 ^ (-K).toNat, cE a - K.toNat, hd, ?_, ?_, ?_, hall⟩
 ·have h1 : (if decide (cZ a < 0) = true then -((((cZ a).natAbs * 2 ^ K.toNat : Nat) : Int)) else (((cZ a).natAbs * 2 ^ K.toNat : Nat) : Int)) = cZ a * 2 ^ K.toNat := by
   rw [Int.natCast_mul, Int.natCast_pow, ← Int.neg_mul]
   by_cases h : cZ a < 0
   ·rw [if_pos (decide_eq_true h), show -((cZ a).natAbs : Int) = cZ a by omega]; rfl
   ·rw [if_neg (by rw [decide_eq_true_eq]; exact h), show ((cZ a).natAbs : Int) = cZ a by omega]; rfl
  rw [h1, mk_shift, mk_canon]
 ·have := hall 1
  rw [Int.one_mul] at this
  rw [← this]
  grind
 ·unfold zover
  rw [← hK, show decide (cZ b < 0) = false from decide_eq_false (by omega), Bool.bne_false]

theorem divD_dn {a b : Dyadic} {low : Int} (hb : 0 < cZ b) : divD a b low 3 * b ≤ a ∧ a < (divD a b low 3 + mk 1 low) * b := by
 obtain ⟨n, d, e, hd, ha, hb1, hz, hall⟩ := divD_scale (a := a) (low := low) (m := 3) hb
 obtain ⟨z, N, h1, h2, h3, h4⟩ := rq_dn (n := n) hd (decide (cZ a < 0))
 rw [← h1] at hz
 rw [← h2] at ha
 unfold divD
 rw [hz, mk_add, hall, hall, ha, mk_le, mk_lt]
 exact ⟨h3, h4⟩

theorem divD_ups {a b : Dyadic} {low : Int} (hb : 0 < cZ b) : a ≤ divD a b low 2 * b ∧ (divD a b low 2 - mk 1 low) * b < a := by
 obtain ⟨n, d, e, hd, ha, hb1, hz, hall⟩ := divD_scale (a := a) (low := low) (m := 2) hb
 obtain ⟨z, N, h1, h2, h3, h4⟩ := rq_ups (n := n) hd (decide (cZ a < 0))
 rw [← h1] at hz
 rw [← h2] at ha
 have hs : ∀ x : Int, mk x low - mk 1 low = mk (x - 1) low := fun x => by
  have h5 := mk_add (x - 1) 1 low
  rw [Int.sub_add_cancel] at h5
  rw [← h5]; grind
 unfold divD
 rw [hz, hs, hall, hall, ha, mk_le, mk_lt]
 exact ⟨h3, h4⟩

theorem mul_cancel_le {x y b : Dyadic} (hb : 0 < cZ b) (h : x * b ≤ y * b) : x ≤ y := by
 refine Std.not_lt.1 fun hlt => ?_
 rw [← Dyadic.toRat_lt_toRat_iff] at hlt
 have hb0 : (0 : Rat) < b.toRat := by
  rw [← mk_canon b, mk_rat]
  exact Rat.mul_pos (by exact_mod_cast hb) (two_pos _)
 have h2 := (Rat.mul_lt_mul_right hb0).2 hlt
 rw [← Dyadic.toRat_mul, ← Dyadic.toRat_mul, Dyadic.toRat_lt_toRat_iff] at h2
 exact Std.not_lt.2 h h2

theorem mul_cancel_lt {x y b : Dyadic} (hb : 0 < cZ b) (h : x * b < y * b) : x < y := by
 rw [← Dyadic.toRat_lt_toRat_iff] at h ⊢
 rw [Dyadic.toRat_mul, Dyadic.toRat_mul] at h
 have hb0 : (0 : Rat) < b.toRat := by
  rw [← mk_canon b, mk_rat]
  exact Rat.mul_pos (by exact_mod_cast hb) (two_pos _)
 exact (Rat.mul_lt_mul_right hb0).1 h

theorem divD_le {a a' b : Dyadic} {low : Int} (hb : 0 < cZ b) (h : a ≤ a') : divD a b low 3 ≤ divD a' b low 2 := by
 refine mul_cancel_le hb ?_
 exact Dyadic.le_trans (Dyadic.le_trans (divD_dn hb).1 h) (divD_ups hb).1

theorem divD_dn_mono {a a' b : Dyadic} {low : Int} (hb : 0 < cZ b) (h : a ≤ a') : divD a b low 3 ≤ divD a' b low 3 := by
 have h1 := (divD_dn (a := a) (low := low) hb).1
 have h2 := (divD_dn (a := a') (low := low) hb).2
 have h3 : divD a b low 3 * b < (divD a' b low 3 + mk 1 low) * b := by
  have : divD a b low 3 * b ≤ a' := Dyadic.le_trans h1 h
  grind
 have h4 := mul_cancel_lt hb h3
 unfold divD at h4 ⊢
 rw [mk_add, mk_lt] at h4
 rw [mk_le]; omega

theorem divD_up_mono {a a' b : Dyadic} {low : Int} (hb : 0 < cZ b) (h : a ≤ a') : divD a b low 2 ≤ divD a' b low 2 := by
 have h1 := (divD_ups (a := a') (low := low) hb).1
 have h2 := (divD_ups (a := a) (low := low) hb).2
 have h3 : (divD a b low 2 - mk 1 low) * b < divD a' b low 2 * b := by
  have : a ≤ divD a' b low 2 * b := Dyadic.le_trans h h1
  grind
 have h4 := mul_cancel_lt hb h3
 have hs : ∀ x : Int, mk x low - mk 1 low = mk (x - 1) low := fun x => by
  have h5 := mk_add (x - 1) 1 low
  rw [Int.sub_add_cancel] at h5
  rw [← h5]; grind
 unfold divD at h4 ⊢
 rw [hs, mk_lt] at h4
 rw [mk_le]; omega

theorem roundD_div {d : Dyadic} {low m : Int} (h : ¬(d = 0 ∨ low ≤ cE d)) : roundD d low m = divD d (mk 1 0) low m := by
 obtain ⟨c1, c2⟩ := canon_odd (z := 1) (e := 0) (by decide)
 rw [roundD_else h, divD, c1, c2]
 congr 1
 congr 1
 omega

theorem mul_mk1 (x : Dyadic) : x * mk 1 0 = x := by
 have := mk_mul (cZ x) 1 (cE x) 0
 rw [mk_canon, Int.mul_one, Int.add_zero, mk_canon] at this
 exact this

theorem roundD_dn (d : Dyadic) (low : Int) : roundD d low 3 ≤ d := by
 by_cases h : d = 0 ∨ low ≤ cE d
 ·rw [roundD_same h]; exact Dyadic.le_refl _
 ·obtain ⟨c1, c2⟩ := canon_odd (z := 1) (e := 0) (by decide)
  have := (divD_dn (a := d) (b := mk 1 0) (low := low) (by rw [c1]; decide)).1
  rw [mul_mk1] at this
  rw [roundD_div h]; exact this

theorem roundD_ups (d : Dyadic) (low : Int) : d ≤ roundD d low 2 := by
 by_cases h : d = 0 ∨ low ≤ cE d
 ·rw [roundD_same h]; exact Dyadic.le_refl _
 ·obtain ⟨c1, c2⟩ := canon_odd (z := 1) (e := 0) (by decide)
  have := (divD_ups (a := d) (b := mk 1 0) (low := low) (by rw [c1]; decide)).1
  rw [mul_mk1] at this
  rw [roundD_div h]; exact this

end Go.Pe

set_option linter.unusedSimpArgs false
set_option linter.unusedVariables false
namespace Go.Pe
open Go Go.Dg

theorem pickV6 {n : Nat} {Q : Nat → Cell6 → Prop} (h : ∀ k, k < n → ∃ v, Q k v) : ∃ Y : Nat → Cell6, ∀ k, k < n → Q k (Y k) := by
 classical
 refine ⟨fun k => if hc : k < n then Classical.choose (h k hc) else noV, fun k hk => ?_⟩
 simp only [dif_pos hk]
 exact Classical.choose_spec (h k hk)

def listV (Y : Nat → Cell6) (n : Nat) : List Cell6 := (List.range n).map Y
theorem listV_len (Y : Nat → Cell6) (n : Nat) : (listV Y n).length = n := by simp [listV]
theorem listV_succ (Y : Nat → Cell6) (n : Nat) : listV Y (n + 1) = listV Y n ++ [Y n] := by simp [listV, List.range_succ]
theorem listV_get {Y : Nat → Cell6} {n k : Nat} (h : k < n) : (listV Y n).getD k noV = Y k := by simp [listV, List.getD, h]
theorem listV_XV {Y : Nat → Cell6} {d1 d2 : Nat → Dyadic} {L E n : Nat} (h : ∀ k, k < n → X (d1 k) L E (Y k).1 ∧ X (d2 k) L E (Y k).2) : XV d1 d2 L E (listV Y n) := by
 intro k hk
 rw [listV_len] at hk
 rw [listV_get hk]
 exact h k hk

def listY (Y : Nat → Cell3) (n : Nat) : List Cell3 := (List.range n).map Y
theorem listY_len (Y : Nat → Cell3) (n : Nat) : (listY Y n).length = n := by simp [listY]
theorem listY_succ (Y : Nat → Cell3) (n : Nat) : listY Y (n + 1) = listY Y n ++ [Y n] := by simp [listY, List.range_succ]
theorem listY_get {Y : Nat → Cell3} {n k : Nat} (h : k < n) : (listY Y n).getD k noY = Y k := by simp [listY, List.getD, h]
theorem listY_XL {Y : Nat → Cell3} {d : Nat → Dyadic} {L E n : Nat} (h : ∀ k, k < n → X (d k) L E (Y k)) : XL d L E (listY Y n) := by
 intro k hk
 rw [listY_len] at hk
 rw [listY_get hk]
 exact h k hk

end Go.Pe

set_option linter.unusedSimpArgs false
set_option linter.unusedVariables false
namespace Go.Pe
open Go Go.Dg Go.RowKit

theorem typed_ivs {P : Program} {n : Nat} {t e : TypeId} {c : List PV} (hu : P.underlying t = some (.slice e)) (hst : isSt P e = true)
  (hE : ∀ c, Typed P n e c → ∃ (s t : Bool) (l m : List Int) (x y : Int), c = [.val (.bool s), .lst (intsL l), .val (.int .i64 x), .val (.bool t), .lst (intsL m), .val (.int .i64 y)] ∧ l.length ≤ maxLen ∧ m.length ≤ maxLen) (h : Typed P (n + 1) t c) :
  ∃ vs : List Cell6, c = [.lst (cells6 vs)] ∧ vs.length ≤ maxLen ∧ ∀ v ∈ vs, v.1.2.1.length ≤ maxLen ∧ v.2.2.1.length ≤ maxLen := by
 unfold Typed at h; rw [hu] at h
 obtain ⟨cl, rfl, hl, hc⟩ := h
 have : ∃ vs : List Cell6, cl.map (mkEl P e) = cells6 vs ∧ vs.length = cl.length ∧ ∀ v ∈ vs, v.1.2.1.length ≤ maxLen ∧ v.2.2.1.length ≤ maxLen := by
  clear hl
  induction cl with
  | nil => exact ⟨[], rfl, rfl, fun y hy => by cases hy⟩
  | cons x r ih =>
   obtain ⟨l, h1, h2, h3⟩ := ih (fun c hc' => hc c (List.mem_cons_of_mem _ hc'))
   obtain ⟨s, t, d, f, m, k, hm, hd⟩ := hE x (hc x (by simp))
   refine ⟨((s, d, m), (t, f, k)) :: l, ?_, by simp [h2], fun y hy => ?_⟩
   ·rw [List.map_cons, h1, hm]
    simp only [cells6, List.map_cons, cell6, mkEl, hst]
   ·rcases List.mem_cons.1 hy with rfl | hy
    ·exact hd
    ·exact h3 y hy
 obtain ⟨vs, h1, h2, h3⟩ := this
 exact ⟨vs, by rw [h1], by omega, h3⟩

end Go.Pe

