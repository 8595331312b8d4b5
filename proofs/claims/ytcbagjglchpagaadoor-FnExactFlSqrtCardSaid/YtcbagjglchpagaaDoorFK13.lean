/- FlDiv: both sides answer alike. -/
import Derived.Test.YtcbagjglchpagaaDoorFK8
import Derived.Test.YtcbagjglchpagaaDoorFK9
import Derived.Test.YtcbagjglchpagaaDoorFK10
import Derived.Test.YtcbagjglchpagaaDoorFK3
import Derived.Test.YtcbagjglchpagaaDoorFN35
namespace Go.Proofs
open Go Go.Pe Go.Dg
namespace Tryd
set_option linter.unusedSimpArgs false
set_option linter.unusedVariables false
variable {P : Program} {gl : List (Nat × Obj)}

/-- the number of a float: its bounds -/
theorem flNum {s : Bool} {m e : Int} (hm0 : 1 ≤ m) (hm1 : m ≤ 9007199254740991) (he0 : -1074 ≤ e) (he1 : e ≤ 971) : ∃ (n : Nat) (z : Int) (a : Dyadic), m = n ∧ n ≤ 9007199254740991 ∧ n ≠ 0 ∧ z = (if s = true then -m else m) ∧ z ≠ 0 ∧ z.natAbs = n ∧ s = decide (z < 0) ∧ a = mk z e ∧ a ≠ 0 ∧
    decide (cZ a < 0) = s ∧ (dg (cZ a).natAbs).length ≤ 4 ∧ (dg n).length ≤ 4 ∧ -1074 ≤ cE a ∧ cE a ≤ 1024 ∧ -1073 ≤ topD a ∧ topD a ≤ 1024 ∧ bl (cZ a).natAbs ≤ 53 ∧ 1 ≤ bl (cZ a).natAbs := by
  obtain ⟨n, hn⟩ : ∃ n : Nat, m = n := ⟨m.toNat, by omega⟩
  obtain ⟨z, hz⟩ : ∃ z, z = (if s = true then -m else m) := ⟨_, rfl⟩
  have hz0 : z ≠ 0 := by rw [hz]; split <;> omega
  have hzn : z.natAbs = n := by rw [hz]; split <;> omega
  have hs : s = decide (z < 0) := by
    rw [hz]
    cases s
    · rw [eq_comm, decide_eq_false_iff_not, if_neg (by decide)]; omega
    · rw [eq_comm, decide_eq_true_iff, if_pos rfl]; omega
  have hsm := odd_small (z := z) (e := e) (n := 53) (by rw [hzn]; exact Nat.le_of_lt (Nat.lt_of_le_of_lt (show n ≤ 9007199254740991 by omega) (by decide))) (by decide)
  have ha0 : mk z e ≠ 0 := mk_ne hz0
  obtain ⟨t, k, htk⟩ := odd_ex z.natAbs (by omega)
  obtain ⟨c1, c2, c3⟩ := make_law (e := e) htk
  have h53 : bl z.natAbs ≤ 53 := (bl_le 53 _).2 (by rw [hzn]; exact Nat.lt_of_le_of_lt (show n ≤ 9007199254740991 by omega) (by decide))
  have hb1 : ∀ x : Nat, x ≠ 0 → 1 ≤ bl x := by
    intro x hx
    have := bl_le 0 x
    rw [Nat.pow_zero] at this
    omega
  have hb2 := hb1 z.natAbs (by omega)
  have hb3 := hb1 (cZ (mk z e)).natAbs (by rw [c1]; omega)
  have ht := topD_mk (e := e) hz0
  have ht2 := topD_ne ha0
  refine ⟨n, z, mk z e, hn, by omega, by omega, hz, hz0, hzn, hs, rfl, ha0, by rw [c3]; exact hs.symm, ?_, ?_, by omega, by omega, by omega, by omega, hsm.1, hb3⟩
  · exact dg_len_le 4 _ (Nat.lt_of_lt_of_le ((bl_le 53 _).1 hsm.1) (by decide))
  · exact dg_len_le 4 _ (Nat.lt_of_le_of_lt (show n ≤ 9007199254740991 by omega) (by decide))

theorem flDiv_both {k1 m1 e1 k2 m2 e2 mode : Int} {s1 s2 : Bool} :
    ∃ (k m e fl : Int) (s : Bool), (∀ (P' : Program) (C' : Cx P' gl), FS P' gl 11 [.agg [I k1, B s1, I m1, I e1], .agg [I k2, B s2, I m2, I e2], I mode] (· = .tup [.agg [I k, B s, I m, I e], I fl])) ∧
      (∀ (P' : Program) (C' : Cx P' gl), FS P' gl 12 [.agg [I k1, B s1, I m1, I e1], .agg [I k2, B s2, I m2, I e2], I mode] (· = .tup [.agg [I k, B s, I m, I e], I fl])) := by
  obtain ⟨ok, hok⟩ := bool_of (flOk k1 s1 m1 e1 ∧ flOk k2 s2 m2 e2 ∧ 0 ≤ mode ∧ mode ≤ 4)
  obtain ⟨c1, hc1⟩ : ∃ c, c = (decide (k1 = 3) || decide (k2 = 3)) := ⟨_, rfl⟩
  obtain ⟨c2, hc2⟩ : ∃ c, c = ((decide (k1 = 2) && decide (k2 = 2)) || (decide (k1 = 0) && decide (k2 = 0))) := ⟨_, rfl⟩
  obtain ⟨c4, hc4⟩ : ∃ c, c = (decide (k2 = 2) || decide (k1 = 0)) := ⟨_, rfl⟩
  obtain ⟨d2, hd2⟩ : ∃ c, c = (decide (k1 = k2) && k1 != 1) := ⟨_, rfl⟩
  obtain ⟨neg, hneg⟩ : ∃ c, c = (s1 != s2) := ⟨_, rfl⟩
  have conv : ok = true → c1 = false → d2 = c2 := by
    intro a b
    obtain ⟨o1, o2, _⟩ := hok.1 a
    rw [hc1, Bool.or_eq_false_iff, decide_eq_false_iff_not, decide_eq_false_iff_not] at b
    have q1 : k1 = 0 ∨ k1 = 1 ∨ k1 = 2 := by unfold flOk at o1; omega
    have q2 : k2 = 0 ∨ k2 = 1 ∨ k2 = 2 := by unfold flOk at o2; omega
    rw [hd2, hc2]
    rcases q1 with q1 | q1 | q1 <;> rcases q2 with q2 | q2 | q2 <;> rw [q1, q2] <;> rfl
  have okS := fun (P' : Program) (C' : Cx P' gl) => l5ok_fs C' hok
  have okI := fun (P' : Program) (C' : Cx P' gl) => areFloats_fs C' (ys := [(k1, s1, m1, e1), (k2, s2, m2, e2)]) (p := [.agg [I k1, B s1, I m1, I e1], .agg [I k2, B s2, I m2, I e2]]) (n := mode) (b := ok) rfl
    (by rw [hok]; unfold allF okF; simp only [List.mem_cons, List.not_mem_nil, or_false, forall_eq_or_imp, forall_eq]; exact ⟨fun ⟨x, y, z⟩ => ⟨z, x, y⟩, fun ⟨z, x, y⟩ => ⟨x, y, z⟩⟩) (by show 2 ≤ 2000000; decide)
  have kd := fun (P' : Program) (C' : Cx P' gl) => hasKind_fs C' (k0 := 3) (k1 := k1) (m1 := m1) (e1 := e1) (s1 := s1) (k2 := k2) (m2 := m2) (e2 := e2) (s2 := s2) hc1
  have mkC : ∀ (k m e fl : Int) (s : Bool) (h1 : ok = false → k = 3 ∧ s = false ∧ m = 0 ∧ e = 0 ∧ fl = 16) (h2 : ok = true → c1 = true → k = 3 ∧ s = false ∧ m = 0 ∧ e = 0 ∧ fl = 0) (h3 : ok = true → c1 = false → c2 = true → k = 3 ∧ s = false ∧ m = 0 ∧ e = 0 ∧ fl = 16)
      (h4 : ok = true → c1 = false → c2 = false → k1 = 2 → k = 2 ∧ s = neg ∧ m = 0 ∧ e = 0 ∧ fl = 0) (h5 : ok = true → c1 = false → c2 = false → k1 ≠ 2 → c4 = true → k = 0 ∧ s = neg ∧ m = 0 ∧ e = 0 ∧ fl = 0)
      (h6 : ok = true → c1 = false → c2 = false → k1 ≠ 2 → c4 = false → k2 = 0 → k = 2 ∧ s = neg ∧ m = 0 ∧ e = 0 ∧ fl = 8) (h7 : ¬(ok = true ∧ c1 = false ∧ c2 = false ∧ k1 ≠ 2 ∧ c4 = false ∧ k2 ≠ 0)),
      (∀ (P' : Program) (C' : Cx P' gl), FS P' gl 11 [.agg [I k1, B s1, I m1, I e1], .agg [I k2, B s2, I m2, I e2], I mode] (· = .tup [.agg [I k, B s, I m, I e], I fl])) ∧
      (∀ (P' : Program) (C' : Cx P' gl), FS P' gl 12 [.agg [I k1, B s1, I m1, I e1], .agg [I k2, B s2, I m2, I e2], I mode] (· = .tup [.agg [I k, B s, I m, I e], I fl])) := by
    intro k m e fl s h1 h2 h3 h4 h5 h6 h7
    constructor
    · intro P' C'
      exact specFlDiv_walk C' (T1 := 0) (T2 := 0) (lw := 0) (ea := 0) (eb := 0) (g := 0) (u1 := false) (u2 := false) (u := false) (p1 := []) (p2 := []) (p := []) okS hc2 hc1 hc4 hneg h1 h2 h3 h4 h5 h6 (fun a b c d e f => absurd ⟨a, b, c, d, e, f⟩ h7)
    · intro P' C'
      refine implFlDiv_walk C' (T1 := 0) (T2 := 0) (lw := 0) (ea := 0) (eb := 0) (g := 0) (u1 := false) (u2 := false) (u := false) (p1 := []) (p2 := []) (p := []) okI kd hd2 hc1 hc4 hneg h1 h2 (fun a b c => h3 a b (by rw [← conv a b]; exact c)) (fun a b c => h4 a b (by rw [← conv a b]; exact c))
        (fun a b c => h5 a b (by rw [← conv a b]; exact c)) (fun a b c => h6 a b (by rw [← conv a b]; exact c)) (fun a b c d e f => absurd ⟨a, b, by rw [← conv a b]; exact c, d, e, f⟩ h7)
  have R5 : ∀ {a b c d e : Prop}, a → b → c → d → e → a ∧ b ∧ c ∧ d ∧ e := fun a b c d e => ⟨a, b, c, d, e⟩
  by_cases o' : ok = false
  · have o : ¬ok = true := by rw [o']; decide
    exact ⟨3, 0, 0, 16, false, mkC 3 0 0 16 false (fun _ => ⟨rfl, rfl, rfl, rfl, rfl⟩) (fun h => absurd h o) (fun h => absurd h o) (fun h => absurd h o) (fun h => absurd h o) (fun h => absurd h o) (fun h => o h.1)⟩
  have o : ok = true := by cases ok <;> first | rfl | exact absurd rfl o'
  have no : ok = false → False := fun h => by rw [o] at h; exact absurd h (by decide)
  by_cases g1 : c1 = true
  · exact ⟨3, 0, 0, 0, false, mkC 3 0 0 0 false (fun h => (no h).elim) (fun _ _ => ⟨rfl, rfl, rfl, rfl, rfl⟩) (fun _ h => absurd (h.symm.trans g1) (by decide)) (fun _ h => absurd (h.symm.trans g1) (by decide)) (fun _ h => absurd (h.symm.trans g1) (by decide)) (fun _ h => absurd (h.symm.trans g1) (by decide)) (fun h => absurd (h.2.1.symm.trans g1) (by decide))⟩
  by_cases g2 : c2 = true
  · exact ⟨3, 0, 0, 16, false, mkC 3 0 0 16 false (fun h => (no h).elim) (fun _ h => absurd h g1) (fun _ _ _ => ⟨rfl, rfl, rfl, rfl, rfl⟩) (fun _ _ h => absurd (h.symm.trans g2) (by decide)) (fun _ _ h => absurd (h.symm.trans g2) (by decide)) (fun _ _ h => absurd (h.symm.trans g2) (by decide)) (fun h => absurd (h.2.2.1.symm.trans g2) (by decide))⟩
  by_cases g3 : k1 = 2
  · exact ⟨2, 0, 0, 0, neg, mkC 2 0 0 0 neg (fun h => (no h).elim) (fun _ h => absurd h g1) (fun _ _ h => absurd h g2) (fun _ _ _ _ => ⟨rfl, rfl, rfl, rfl, rfl⟩) (fun _ _ _ h => absurd g3 h) (fun _ _ _ h => absurd g3 h) (fun h => h.2.2.2.1 g3)⟩
  by_cases g4 : c4 = true
  · exact ⟨0, 0, 0, 0, neg, mkC 0 0 0 0 neg (fun h => (no h).elim) (fun _ h => absurd h g1) (fun _ _ h => absurd h g2) (fun _ _ _ h => absurd h g3) (fun _ _ _ _ _ => ⟨rfl, rfl, rfl, rfl, rfl⟩) (fun _ _ _ _ h => absurd (h.symm.trans g4) (by decide)) (fun h => absurd (h.2.2.2.2.1.symm.trans g4) (by decide))⟩
  by_cases g5 : k2 = 0
  · exact ⟨2, 0, 0, 8, neg, mkC 2 0 0 8 neg (fun h => (no h).elim) (fun _ h => absurd h g1) (fun _ _ h => absurd h g2) (fun _ _ _ h => absurd h g3) (fun _ _ _ _ h => absurd h g4) (fun _ _ _ _ _ _ => ⟨rfl, rfl, rfl, rfl, rfl⟩) (fun h => h.2.2.2.2.2 g5)⟩
  clear mkC R5
  obtain ⟨o1, o2, hm0, hm1⟩ := hok.1 o
  have n1 : k1 ≠ 3 ∧ k2 ≠ 3 := by
    rw [hc1, Bool.or_eq_true, decide_eq_true_iff, decide_eq_true_iff] at g1; omega
  have n2 : k2 ≠ 2 ∧ k1 ≠ 0 := by
    rw [hc4, Bool.or_eq_true, decide_eq_true_iff, decide_eq_true_iff] at g4; omega
  have q1 : k1 = 1 ∧ -1074 ≤ e1 ∧ e1 ≤ 971 ∧ 1 ≤ m1 ∧ m1 ≤ 9007199254740991 := by unfold flOk at o1; omega
  have q2 : k2 = 1 ∧ -1074 ≤ e2 ∧ e2 ≤ 971 ∧ 1 ≤ m2 ∧ m2 ≤ 9007199254740991 := by unfold flOk at o2; omega
  obtain ⟨rfl, x1, x2, x3, x4⟩ := q1
  obtain ⟨rfl, y1, y2, y3, y4⟩ := q2
  obtain ⟨na, za, a, a1, a2, a3, a4, a5, a6, a7, a8, a9, a10, a11, a12, a13, a14, a15, a16, a17, a18⟩ := flNum (s := s1) x3 x4 x1 x2
  obtain ⟨nb, zb, b, b1, b2, b3, b4, b5, b6, b7, b8, b9, b10, b11, b12, b13, b14, b15, b16, b17, b18⟩ := flNum (s := s2) y3 y4 y1 y2
  obtain ⟨t0, ht0⟩ : ∃ t, t = topD a - topD b := ⟨_, rfl⟩
  obtain ⟨lw, hlw⟩ : ∃ t, t = t0 - 56 := ⟨_, rfl⟩
  obtain ⟨q, hq⟩ : ∃ q, q = quotD a b lw := ⟨_, rfl⟩
  obtain ⟨T, hT⟩ : ∃ T, T = topD q := ⟨_, rfl⟩
  obtain ⟨L, hL⟩ : ∃ L, L = max (T - 53) (-1074) := ⟨_, rfl⟩
  have hq0 : q ≠ 0 := by rw [hq]; exact quotD_ne a9
  have hTt : T = t0 ∨ T = t0 + 1 := by
    have h := div_top (low := lw) (t0 := t0) a9 b9 ht0 hlw rfl
    rw [← hq, ← hT] at h
    rw [h]; split
    · exact .inr rfl
    · exact .inl rfl
  have hqn := topD_ne hq0
  have hqs : decide (cZ q < 0) = neg := by rw [hq, quotD_sgn a9, a10, b10, hneg]
  have hqE : lw - 3 ≤ cE q := by
    obtain ⟨n, d, W, hn, hd, hW, h⟩ := quotD_eq (a := a) (b := b) (low := lw) a9 rfl
    rw [← hq] at h
    have hw0 : (if (decide (cZ a < 0) != decide (cZ b < 0)) = true then -(W : Int) else (W : Int)) ≠ 0 := by
      intro h'
      rw [h', mk_zero] at h
      exact hq0 h
    obtain ⟨t, k, htk⟩ := odd_ex (if (decide (cZ a < 0) != decide (cZ b < 0)) = true then -(W : Int) else (W : Int)).natAbs (by omega)
    obtain ⟨c1, c2, c3⟩ := make_law (e := lw - 3) htk
    rw [h, c2]; omega
  have hq1 : 1 ≤ bl (cZ q).natAbs := by
    have h1 := cZ_odd hq0
    have := bl_le 0 (cZ q).natAbs
    rw [Nat.pow_zero] at this
    omega
  have hlq : (dg (cZ q).natAbs).length ≤ 4 := dg_len_le 4 _ (Nat.lt_of_lt_of_le ((bl_le 64 _).1 (by omega)) (by decide))
  obtain ⟨same, hsame⟩ : ∃ s, s = decide (q = 0 ∨ L ≤ cE q) := ⟨_, rfl⟩
  obtain ⟨k, u, m, e, fl, hf⟩ := flR_ex neg same T mode (roundD q L mode)
  obtain ⟨pa, hpa⟩ : ∃ p, p = intsL (dg (cZ a).natAbs) := ⟨_, rfl⟩
  obtain ⟨pb, hpb⟩ : ∃ p, p = intsL (dg (cZ b).natAbs) := ⟨_, rfl⟩
  obtain ⟨pq, hpq⟩ : ∃ p, p = intsL (dg (cZ q).natAbs) := ⟨_, rfl⟩
  have ge1 : ¬(ok = false) := fun h => no h
  refine ⟨k, m, e, fl, neg, fun P' C' => ?_, fun P' C' => ?_⟩
  · refine specFlDiv_walk C' (T1 := topD a) (T2 := topD b) (lw := lw) (ea := cE a) (eb := cE b) (g := cE q) (u1 := decide (cZ a < 0)) (u2 := decide (cZ b < 0)) (u := neg) (p1 := pa) (p2 := pb) (p := pq) okS hc2 hc1 hc4 hneg
      (fun h => (no h).elim) (fun _ h => absurd h g1) (fun _ _ h => absurd h g2) (fun _ _ _ h => absurd h g3) (fun _ _ _ _ h => absurd h g4) (fun _ _ _ _ _ h => absurd h g5) (fun _ _ _ _ _ _ => ⟨?_, ?_, ?_, ?_, ?_, ?_, ?_⟩)
    · exact fun P' C' => l5dy_fs C' a1 a4 a2 a8 hpa rfl rfl (by omega) a3
    · exact fun P' C' => l5dy_fs C' b1 b4 b2 b8 hpb rfl rfl (by omega) b3
    · exact fun P' C' => l4top_fs C' (z := cZ a) hpa (by rw [mk_canon]) (by omega) (by omega)
    · exact fun P' C' => l4top_fs C' (z := cZ b) hpb (by rw [mk_canon]) (by omega) (by omega)
    · exact fun P' C' => l4quot_fs C' (d1 := a) (d2 := b) (d' := q) rfl hpa rfl rfl hpb rfl b9 hq hqs.symm hpq rfl (by omega) (by omega) (by omega) (by omega) (by omega)
    · exact fun P' C' => l5roundR_fs C' (d := q) hq0 hqs.symm hpq rfl hT hL rfl hsame hf hm0 hm1 (by omega) (by omega) (by omega)
    · intro A hA
      subst hA
      have w1 : AR.std.sub .i64 (topD a) (topD b) = t0 := by rw [ht0]; exact wrapi (by omega) (by omega)
      have w2 : AR.std.sub .i64 t0 53 = t0 - 53 := wrapi (by omega) (by omega)
      have w3 : AR.std.sub .i64 (t0 - 53) 3 = t0 - 53 - 3 := wrapi (by omega) (by omega)
      rw [w1, w2, w3]; omega
  · refine implFlDiv_walk C' (T1 := 0) (T2 := 0) (lw := 0) (ea := e1) (eb := e2) (g := 0) (u1 := s1) (u2 := s2) (u := false) (p1 := intsL (dg na)) (p2 := intsL (dg nb)) (p := []) okI kd hd2 hc1 hc4 hneg
      (fun h => (no h).elim) (fun _ h => absurd h g1) (fun x y h => absurd (by rw [← conv x y]; exact h) g2) (fun _ _ _ h => absurd h g3) (fun _ _ _ _ h => absurd h g4) (fun _ _ _ _ _ h => absurd h g5) (fun _ _ _ _ _ _ => ⟨?_, ?_, ?_⟩)
    · exact fun P' C' => flExact_fs C' (z := 0) a1 rfl a2
    · exact fun P' C' => flExact_fs C' (z := 0) b1 rfl b2
    · exact fun P' C' => quotient_fs C' (same := same) (neg := neg) (mode := mode) (a := a) (b := b) (z1 := za) (z2 := zb) (lw := lw) (L := L) (T := T) (t0 := t0) (u := u) (by rw [a6]) (by rw [b6]) a7 b7 a5 b5 a8 b8 ht0 hlw (by rw [hT, hq]) hL (by omega) (by rw [← hq]; exact hsame) hneg (by rw [← hq]; exact hf)
        (by omega) (by omega) (by rw [← hq]; omega) (by omega) (by omega) (by omega) (by rw [a6]; omega) (by rw [b6]; omega)

end Tryd
end Go.Proofs
