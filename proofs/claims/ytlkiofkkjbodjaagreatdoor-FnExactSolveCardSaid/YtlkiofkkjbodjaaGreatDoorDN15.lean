/- Contracts: results that own nothing. -/
import Derived.Test.YtlkiofkkjbodjaaGreatDoorDN12
set_option maxHeartbeats 1000000
set_option maxRecDepth 100000
namespace Go.Proofs
open Go Go.Pe Go.Dg
namespace Tryz
set_option linter.unusedSimpArgs false
set_option linter.unusedVariables false
variable {P : Program} {gl : List (Nat × Obj)}

theorem odd_fs (C : Cx P gl) {z e f : Int} {p r : List PV} {s u : Bool} {d : Dyadic} (hp : p = intsL (dg z.natAbs)) (hs : s = decide (z < 0)) (hd : d = mk z e)
  (hr : r = intsL (dg (cZ d).natAbs)) (hu : u = decide (cZ d < 0)) (hf : f = cE d) (h0 : e.natAbs ≤ 1000000000) (hl : (dg z.natAbs).length ≤ 10000000) :
  FS P gl 187 [.agg [B s, .lst p, I e]] (· = .agg [B u, .lst r, I f]) := by
 have hz : z = 0 → r = [] ∧ u = false ∧ f = 0 := by
  intro h
  rw [h] at hd
  rw [hr, hu, hf, hd, mk_zero, cZ_zero, cE_zero]
  exact ⟨by rw [show (0 : Int).natAbs = 0 from rfl, dg_zero]; rfl, rfl, rfl⟩
 have hz2 : (dg z.natAbs).length = 0 ↔ z = 0 := by rw [dg_len0]; omega
 have hnz : z ≠ 0 → ∃ (k m : Nat) (c : Int), c = k ∧ 0 ≤ c ∧ c ≤ 160000000 ∧ z.natAbs = 2 ^ k * (2 * m + 1) ∧ r = intsL (dg (z.natAbs / 2 ^ c.toNat)) ∧ u = s ∧ f = e + c := by
  intro h
  obtain ⟨k, m, hk⟩ := two_odd (x := z.natAbs) (by omega)
  obtain ⟨l1, l2, l3⟩ := make_law (e := e) hk
  have hdv : z.natAbs / 2 ^ k = 2 * m + 1 := by rw [hk, Nat.mul_div_cancel_left _ (Nat.two_pow_pos k)]
  have hkb : k < 16 * (dg z.natAbs).length := by
   have h1 := dg_lt_pow z.natAbs
   rw [show (65536 : Nat) = 2 ^ 16 from rfl, ← Nat.pow_mul] at h1
   have h3 : 2 ^ k ≤ z.natAbs := by rw [hk]; exact Nat.le_mul_of_pos_right _ (by omega)
   exact (Nat.pow_lt_pow_iff_right (by decide : 1 < 2)).1 (Nat.lt_of_le_of_lt h3 h1)
  refine ⟨k, m, k, rfl, by omega, by omega, hk, ?_, ?_, ?_⟩
  ·rw [Int.toNat_natCast, hdv, hr, hd, l1]
  ·rw [hu, hd, l3, hs]
  ·rw [hf, hd, l2]
 have hva := valid_dg z.natAbs
 have hvv := val_dg z.natAbs
 clear hr hu hf hd
 refine gS C func187 rfl rfl rfl fun A hA hI => ?_
 iterate 2 all_goals try cbv; with_reducible repeat' first | exact ⟨⟩ | apply And.intro | intro _
 all_goals try exact oH
 iterate 2 all_goals try cbv; with_reducible repeat' first | exact ⟨⟩ | apply And.intro | intro _
 all_goals try exact oH
 ·rename_i g
  obtain ⟨rfl, rfl, rfl⟩ := hz (hz2.1 (len_t hA hp g))
  rfl
 rename_i g
 obtain ⟨k, m, c, hc, hc0, hc1, hk, hr, hu, hf⟩ := hnz (fun h => len_f hA hp g (hz2.2 h))
 clear hnz hz hz2
 refine callS hA rfl (trailOf_fs C hp hk hc (by omega)) ?_; rintro _ rfl
 iterate 2 all_goals try cbv; with_reducible repeat' first | exact ⟨⟩ | apply And.intro | intro _
 all_goals try exact oH
 refine ⟨_, down_fs C hp hva hvv rfl hr hc0 (by omega) (by omega), ?_⟩
 iterate 2 all_goals try cbv; with_reducible repeat' first | exact ⟨⟩ | apply And.intro | intro _
 all_goals try exact oH
 have e1 : A.add .i64 e c = f := by subst hA; rw [hf]; exact wrapi (by omega) (by omega)
 simp only [e1, hu]

end Tryz
end Go.Proofs

set_option maxHeartbeats 1000000
set_option maxRecDepth 100000
namespace Go.Proofs
open Go Go.Pe Go.Dg
namespace Tryz
set_option linter.unusedSimpArgs false
set_option linter.unusedVariables false
variable {P : Program} {gl : List (Nat × Obj)}

theorem clone_fx (C : Cx P gl) {l : List Int} {p : List PV} (hp : p = intsL l) (h : 0 < l.length) (h1 : l.length ≤ 1000000) : FX P gl 258 [] [.pv (.lst p)] (fun own r => own = [.row 3 1 p] ∧ r = .own 0) := by
 refine gX C func258 rfl rfl rfl fun A hA hI => ?_
 iterate 2 all_goals try cbv; with_reducible repeat' first | exact ⟨⟩ | apply And.intro | intro _
 all_goals try exact oH
 ·rename_i hb hbt
  exfalso
  have := hb hbt
  rw [this] at hp
  have h2 := congrArg List.length hp
  rw [ints_len] at h2
  simp at h2
  simp [h2] at h
 iterate 2 all_goals try cbv; with_reducible repeat' first | exact ⟨⟩ | apply And.intro | intro _
 all_goals try exact oH
 ·subst hA; intro p hp; cases hp
 ·subst hA
  exact ⟨[0], _, _, by decide, Nat.zero_le _, rfl, rfl, rfl, rfl, rfl, rfl⟩

theorem natOf_fx (C : Cx P gl) {l : List Int} {p : List PV} (hp : p = intsL l) (h : 0 < l.length) (h1 : l.length ≤ 100) : FX P gl 239 [] [.pv (.lst p)] (fun own r => own = [.row 3 1 p] ∧ r = .tup [.agg [.own 0], .pv (B true)]) := by
 refine gX C func239 rfl rfl rfl fun A hA hI => ?_
 iterate 2 all_goals try cbv; with_reducible repeat' first | exact ⟨⟩ | apply And.intro | intro _
 all_goals try exact oH
 refine callX hA [] List.nodup_nil rfl rfl rfl (clone_fx C hp h (by omega)) ?_; rintro _ _ ⟨rfl, rfl⟩; refine ⟨rfl, ?_⟩
 iterate 2 all_goals try cbv; with_reducible repeat' first | exact ⟨⟩ | apply And.intro | intro _
 all_goals try exact oH
 subst hA
 exact ⟨[1], _, _, by decide, Nat.zero_le _, rfl, rfl, rfl, rfl, rfl, rfl⟩

theorem wholeOf_fx (C : Cx P gl) {l : List Int} {p : List PV} {s : Bool} (hp : p = intsL l) (h : 0 < l.length) (h1 : l.length ≤ 100) :
  FX P gl 188 [] [.pv (B s), .pv (.lst p)] (fun own r => own = [.row 3 1 p] ∧ r = .tup [.agg [.pv (B s), .own 0], .pv (B true)]) := by
 refine gX C func188 rfl rfl rfl fun A hA hI => ?_
 iterate 2 all_goals try cbv; with_reducible repeat' first | exact ⟨⟩ | apply And.intro | intro _
 all_goals try exact oH
 refine callX hA [] List.nodup_nil rfl rfl rfl (natOf_fx C hp h h1) ?_; rintro _ _ ⟨rfl, rfl⟩; refine ⟨rfl, ?_⟩
 iterate 2 all_goals try cbv; with_reducible repeat' first | exact ⟨⟩ | apply And.intro | intro _
 all_goals try exact oH
 iterate 2 all_goals try cbv; with_reducible repeat' first | exact ⟨⟩ | apply And.intro | intro _
 all_goals try exact oH
 have e0 := len_d hA hp
 have e1 : A.pick s (decide (l.length ≠ 0)) false = s := by subst hA; rw [decide_eq_true (by omega)]; cases s <;> rfl
 simp only [e0, e1]
 subst hA
 exact ⟨[1], _, _, by decide, Nat.zero_le _, rfl, rfl, rfl, rfl, rfl, rfl⟩

theorem dy_fx (C : Cx P gl) {z e f : Int} {p r : List PV} {s u : Bool} {d : Dyadic} (hp : p = intsL (dg z.natAbs)) (hs : s = decide (z < 0)) (hd : d = mk z e)
  (hr : r = intsL (dg (cZ d).natAbs)) (hu : u = decide (cZ d < 0)) (hf : f = cE d) (h0 : e.natAbs ≤ 1000000000) (hl : (dg z.natAbs).length ≤ 10000000) (hn : z ≠ 0) (hfit : fits d) :
  FX P gl 111 [] [.pv (.agg [B s, .lst p, I e])] (fun own rr => own = [.row 3 1 r] ∧ rr = .tup [.agg [.pv (B u), .own 0, .pv (I f)], .pv (B true)]) := by
 have hl2 : 0 < (dg (cZ d).natAbs).length := by
  rcases Nat.eq_zero_or_pos (dg (cZ d).natAbs).length with h | h
  ·rw [dg_len0] at h
   have : d = 0 := cZ_eq_zero.1 (by omega)
   rw [this, ← mk_zero e, mk_inj] at hd
   exact absurd hd.symm hn
  ·exact h
 have hl3 := hfit.1
 have hf1 : -3000 ≤ f := by rw [hf]; exact hfit.2.1
 have hf2 : f ≤ 3000 := by rw [hf]; exact hfit.2.2
 have hw : true = (decide (-3000 ≤ f) && decide (f ≤ 3000)) := by rw [decide_eq_true hf1, decide_eq_true hf2]; rfl
 refine gX C func111 rfl rfl rfl fun A hA hI => ?_
 iterate 2 all_goals try cbv; with_reducible repeat' first | exact ⟨⟩ | apply And.intro | intro _
 all_goals try exact oH
 refine callS hA rfl (odd_fs C hp hs hd hr hu hf h0 hl) ?_; rintro _ rfl
 iterate 2 all_goals try cbv; with_reducible repeat' first | exact ⟨⟩ | apply And.intro | intro _
 all_goals try exact oH
 refine callX hA [] List.nodup_nil rfl rfl rfl (wholeOf_fx C hr hl2 hl3) ?_; rintro _ _ ⟨rfl, rfl⟩; refine ⟨rfl, ?_⟩
 iterate 2 all_goals try cbv; with_reducible repeat' first | exact ⟨⟩ | apply And.intro | intro _
 all_goals try exact oH
 refine ⟨_, fun _ => within_fs C hw, ?_⟩
 iterate 2 all_goals try cbv; with_reducible repeat' first | exact ⟨⟩ | apply And.intro | intro _
 all_goals try exact oH
 iterate 2 all_goals try cbv; with_reducible repeat' first | exact ⟨⟩ | apply And.intro | intro _
 all_goals try exact oH
 subst hA
 exact ⟨[2], _, _, by decide, Nat.zero_le _, rfl, rfl, rfl, rfl, rfl, rfl⟩

end Tryz
end Go.Proofs

set_option maxHeartbeats 1000000
set_option maxRecDepth 100000
namespace Go.Proofs
open Go Go.Pe Go.Dg
namespace Tryz
set_option linter.unusedSimpArgs false
set_option linter.unusedVariables false
variable {P : Program} {gl : List (Nat × Obj)}

theorem clone0_fs (C : Cx P gl) : FS P gl 258 [.lst []] (· = .lst []) := by
 refine gS C func258 rfl rfl rfl fun A hA hI => ?_
 iterate 2 all_goals try cbv; with_reducible repeat' first | exact ⟨⟩ | apply And.intro | intro _
 all_goals try exact oH
 iterate 2 all_goals try cbv; with_reducible repeat' first | exact ⟨⟩ | apply And.intro | intro _
 all_goals try exact oH
 ·subst hA; intro p hp; cases hp
 ·subst hA; intro p hp; cases hp
 ·subst hA; rfl

theorem natOf0_fs (C : Cx P gl) : FS P gl 239 [.lst []] (· = .tup [.agg [.lst []], B true]) := by
 refine gS C func239 rfl rfl rfl fun A hA hI => ?_
 iterate 2 all_goals try cbv; with_reducible repeat' first | exact ⟨⟩ | apply And.intro | intro _
 all_goals try exact oH
 refine callS hA rfl (clone0_fs C) ?_; rintro _ rfl
 iterate 2 all_goals try cbv; with_reducible repeat' first | exact ⟨⟩ | apply And.intro | intro _
 all_goals try exact oH

theorem natOfn_fs (C : Cx P gl) {l : List Int} {p : List PV} (hp : p = intsL l) (h : 100 < l.length) (h1 : l.length ≤ 1000000000) : FS P gl 239 [.lst p] (· = .tup [.agg [.lst []], B false]) := by
 refine gS C func239 rfl rfl rfl fun A hA hI => ?_
 iterate 2 all_goals try cbv; with_reducible repeat' first | exact ⟨⟩ | apply And.intro | intro _
 all_goals try exact oH

theorem wholeOf0_fs (C : Cx P gl) {s : Bool} : FS P gl 188 [B s, .lst []] (· = .tup [.agg [B false, .lst []], B true]) := by
 refine gS C func188 rfl rfl rfl fun A hA hI => ?_
 iterate 2 all_goals try cbv; with_reducible repeat' first | exact ⟨⟩ | apply And.intro | intro _
 all_goals try exact oH
 refine callS hA rfl (natOf0_fs C) ?_; rintro _ rfl
 iterate 2 all_goals try cbv; with_reducible repeat' first | exact ⟨⟩ | apply And.intro | intro _
 all_goals try exact oH
 iterate 2 all_goals try cbv; with_reducible repeat' first | exact ⟨⟩ | apply And.intro | intro _
 all_goals try exact oH
 subst hA; cases s <;> rfl

theorem wholeOfn_fs (C : Cx P gl) {l : List Int} {p : List PV} {s : Bool} (hp : p = intsL l) (h : 100 < l.length) (h1 : l.length ≤ 1000000000) : FS P gl 188 [B s, .lst p] (· = .tup [.agg [B false, .lst []], B false]) := by
 refine gS C func188 rfl rfl rfl fun A hA hI => ?_
 iterate 2 all_goals try cbv; with_reducible repeat' first | exact ⟨⟩ | apply And.intro | intro _
 all_goals try exact oH
 refine callS hA rfl (natOfn_fs C hp h h1) ?_; rintro _ rfl
 iterate 2 all_goals try cbv; with_reducible repeat' first | exact ⟨⟩ | apply And.intro | intro _
 all_goals try exact oH
 iterate 2 all_goals try cbv; with_reducible repeat' first | exact ⟨⟩ | apply And.intro | intro _
 all_goals try exact oH

theorem odd0_fs (C : Cx P gl) {e : Int} {s : Bool} : FS P gl 187 [.agg [B s, .lst [], I e]] (· = .agg [B false, .lst [], I 0]) := by
 refine gS C func187 rfl rfl rfl fun A hA hI => ?_
 iterate 2 all_goals try cbv; with_reducible repeat' first | exact ⟨⟩ | apply And.intro | intro _
 all_goals try exact oH
 iterate 2 all_goals try cbv; with_reducible repeat' first | exact ⟨⟩ | apply And.intro | intro _
 all_goals try exact oH

theorem dy0_fs (C : Cx P gl) {e : Int} {s : Bool} : FS P gl 111 [.agg [B s, .lst [], I e]] (· = .tup [.agg [B false, .lst [], I 0], B true]) := by
 refine gS C func111 rfl rfl rfl fun A hA hI => ?_
 iterate 2 all_goals try cbv; with_reducible repeat' first | exact ⟨⟩ | apply And.intro | intro _
 all_goals try exact oH
 refine callS hA rfl (odd0_fs C) ?_; rintro _ rfl
 iterate 2 all_goals try cbv; with_reducible repeat' first | exact ⟨⟩ | apply And.intro | intro _
 all_goals try exact oH
 refine callS hA rfl (wholeOf0_fs C) ?_; rintro _ rfl
 iterate 2 all_goals try cbv; with_reducible repeat' first | exact ⟨⟩ | apply And.intro | intro _
 all_goals try exact oH
 refine ⟨_, fun _ => within_fs C (b := true) rfl, ?_⟩
 iterate 2 all_goals try cbv; with_reducible repeat' first | exact ⟨⟩ | apply And.intro | intro _
 all_goals try exact oH
 iterate 2 all_goals try cbv; with_reducible repeat' first | exact ⟨⟩ | apply And.intro | intro _
 all_goals try exact oH

end Tryz
end Go.Proofs

