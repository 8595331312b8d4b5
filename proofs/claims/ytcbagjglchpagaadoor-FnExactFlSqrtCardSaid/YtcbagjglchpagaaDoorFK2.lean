/- Contracts: floats as numbers: tops, the number of a float, the law's own helpers. -/
import Derived.Test.YtcbagjglchpagaaDoorFK1
import Derived.Test.YtcbagjglchpagaaDoorFM60
import Derived.Test.YtcbagjglchpagaaDoorFM62
namespace Go.Proofs
open Go Go.Pe Go.Dg
namespace Tryd
set_option linter.unusedSimpArgs false
set_option linter.unusedVariables false
variable {P : Program} {gl : List (Nat × Obj)}

set_option maxHeartbeats 1000000 in
set_option maxRecDepth 100000 in
theorem abs2_fs (C : Cx P gl) {e : Int} {p : List PV} {s : Bool} : FS P gl 139 [.agg [B s, .lst p, I e]] (· = .agg [B false, .lst p, I e]) := by
  obtain ⟨rfl, hG⟩ := C
  refine FS_ofT (args := fun A => [.agg [B s, .lst p, I e]]) (R := fun A rr => rr = .agg [B false, .lst p, I e]) Tryd.hT Tryd.mix Tryd.func139 rfl rfl (Nat.le_of_ble_eq_true rfl) ?_
  generalize hP : Tryd.prog = P
  intro A hA
  have C : Tryd.Cx P gl := ⟨hP.symm, hG⟩
  have hI : intsL = A.ints := by subst hA; rfl
  iterate 2 (all_goals try cbv; all_goals repeat' (first | with_reducible exact True.intro | with_reducible refine And.intro ?_ ?_ | intro _))
  all_goals try exact oH

set_option maxHeartbeats 1000000 in
set_option maxRecDepth 100000 in
theorem shifted_fs (C : Cx P gl) {e k g : Int} {p : List PV} {s : Bool} (hg : g = e + k) (h1 : e.natAbs ≤ 1000000) (h2 : k.natAbs ≤ 1000000) : FS P gl 141 [.agg [B s, .lst p, I e], I k] (· = .agg [B s, .lst p, I g]) := by
  obtain ⟨rfl, hG⟩ := C
  refine FS_ofT (args := fun A => [.agg [B s, .lst p, I e], I k]) (R := fun A rr => rr = .agg [B s, .lst p, I g]) Tryd.hT Tryd.mix Tryd.func141 rfl rfl (Nat.le_of_ble_eq_true rfl) ?_
  generalize hP : Tryd.prog = P
  intro A hA
  have C : Tryd.Cx P gl := ⟨hP.symm, hG⟩
  have hI : intsL = A.ints := by subst hA; rfl
  have hs : A.add .i64 e k = g := by rw [hg]; subst hA; exact wrapi (by omega) (by omega)
  iterate 2 (all_goals try cbv; all_goals repeat' (first | with_reducible exact True.intro | with_reducible refine And.intro ?_ ?_ | intro _))
  all_goals try exact oH
  all_goals simp only [hs]

set_option maxHeartbeats 1000000 in
set_option maxRecDepth 100000 in
theorem exactTop_fs (C : Cx P gl) {z e t : Int} {p : List PV} {s : Bool} (hp : p = intsL (dg z.natAbs)) (ht : t = topD (mk z e)) (he : e.natAbs ≤ 1000000) (hl : (dg z.natAbs).length ≤ 1000000) : FS P gl 39 [.agg [B s, .lst p, I e]] (· = I t) := by
  obtain ⟨b, hb⟩ : ∃ b : Int, b = (bl z.natAbs : Nat) := ⟨_, rfl⟩
  have h1 := fun (P' : Program) (C' : Cx P' gl) => bitsOf_fs C' hp hb (by omega)
  have hbl := bl_len z.natAbs
  have ht0 : z = 0 → t = 0 := fun h => by rw [ht, h, mk_zero, topD_zero]
  have ht1 : z ≠ 0 → t = b + e := fun h => by rw [ht, topD_mk h, hb]
  have hz0 : (dg z.natAbs).length = 0 ↔ z = 0 := by rw [dg_len0]; omega
  have hb2 : 0 ≤ b ∧ b ≤ 16000000 := by omega
  clear ht hb hbl
  obtain ⟨rfl, hG⟩ := C
  refine FS_ofT (args := fun A => [.agg [B s, .lst p, I e]]) (R := fun A rr => rr = I t) Tryd.hT Tryd.mix Tryd.func39 rfl rfl (Nat.le_of_ble_eq_true rfl) ?_
  generalize hP : Tryd.prog = P
  intro A hA
  have C : Tryd.Cx P gl := ⟨hP.symm, hG⟩
  have hI : intsL = A.ints := by subst hA; rfl
  have hs : A.add .i64 b e = b + e := by subst hA; exact wrapi (by omega) (by omega)
  iterate 2 (all_goals try cbv; all_goals repeat' (first | with_reducible exact True.intro | with_reducible refine And.intro ?_ ?_ | intro _))
  all_goals try exact oH
  · rename_i g
    rw [ht0 (hz0.1 (len_t hA hp g))]
  · rename_i g
    have hz : z ≠ 0 := fun h => len_f hA hp g (hz0.2 h)
    first | (refine callS hA rfl (h1 P C) ?_; rintro _ rfl) | refine ⟨_, h1 P C, ?_⟩
    iterate 2 (all_goals try cbv; all_goals repeat' (first | with_reducible exact True.intro | with_reducible refine And.intro ?_ ?_ | intro _))
    all_goals try exact oH
    simp only [hs, ht1 hz]

set_option maxHeartbeats 1000000 in
set_option maxRecDepth 100000 in
theorem l4top_fs (C : Cx P gl) {z e t : Int} {p : List PV} {s : Bool} (hp : p = intsL (dg z.natAbs)) (ht : t = topD (mk z e)) (he : e.natAbs ≤ 1000000) (hl : (dg z.natAbs).length ≤ 1000000) : FS P gl 34 [.agg [B s, .lst p, I e]] (· = I t) := by
  obtain ⟨b, hb⟩ : ∃ b : Int, b = (bl z.natAbs : Nat) := ⟨_, rfl⟩
  have h1 := fun (h : z ≠ 0) (P' : Program) (C' : Cx P' gl) => l2bits_fs C' hp hb (by omega) (by omega)
  have hbl := bl_len z.natAbs
  have ht0 : z = 0 → t = 0 := fun h => by rw [ht, h, mk_zero, topD_zero]
  have ht1 : z ≠ 0 → t = b + e := fun h => by rw [ht, topD_mk h, hb]
  have hz0 : (dg z.natAbs).length = 0 ↔ z = 0 := by rw [dg_len0]; omega
  have hb2 : 0 ≤ b ∧ b ≤ 16000000 := by omega
  clear ht hb hbl
  obtain ⟨rfl, hG⟩ := C
  refine FS_ofT (args := fun A => [.agg [B s, .lst p, I e]]) (R := fun A rr => rr = I t) Tryd.hT Tryd.mix Tryd.func34 rfl rfl (Nat.le_of_ble_eq_true rfl) ?_
  generalize hP : Tryd.prog = P
  intro A hA
  have C : Tryd.Cx P gl := ⟨hP.symm, hG⟩
  have hI : intsL = A.ints := by subst hA; rfl
  have hs : A.add .i64 e b = b + e := by subst hA; show IntKind.i64.wrap (e + b) = _; rw [wrapi (by omega) (by omega), Int.add_comm]
  iterate 2 (all_goals try cbv; all_goals repeat' (first | with_reducible exact True.intro | with_reducible refine And.intro ?_ ?_ | intro _))
  all_goals try exact oH
  · rename_i g
    rw [ht0 (hz0.1 (len_t hA hp g))]
  · rename_i g
    have hz : z ≠ 0 := fun h => len_f hA hp g (hz0.2 h)
    have h1 := h1 hz
    first | (refine callS hA rfl (h1 P C) ?_; rintro _ rfl) | refine ⟨_, h1 P C, ?_⟩
    iterate 2 (all_goals try cbv; all_goals repeat' (first | with_reducible exact True.intro | with_reducible refine And.intro ?_ ?_ | intro _))
    all_goals try exact oH
    simp only [hs, ht1 hz]

set_option maxHeartbeats 1000000 in
set_option maxRecDepth 100000 in
theorem flExact_fs (C : Cx P gl) {m e z : Int} {n : Nat} {s : Bool} {p : List PV} (hm : m = n) (hp : p = intsL (dg n)) (hn : n ≤ 9007199254740991) : FS P gl 37 [.agg [I 1, B s, I m, I e]] (· = .agg [B s, .lst p, I e]) := by
  have h := fun (P' : Program) (C' : Cx P' gl) => small_fs C' hm hp (by omega)
  clear hm hp
  obtain ⟨rfl, hG⟩ := C
  refine FS_ofT (args := fun A => [.agg [I 1, B s, I m, I e]]) (R := fun A rr => rr = .agg [B s, .lst p, I e]) Tryd.hT Tryd.mix Tryd.func37 rfl rfl (Nat.le_of_ble_eq_true rfl) ?_
  generalize hP : Tryd.prog = P
  intro A hA
  have C : Tryd.Cx P gl := ⟨hP.symm, hG⟩
  have hI : intsL = A.ints := by subst hA; rfl
  iterate 2 (all_goals try cbv; all_goals repeat' (first | with_reducible exact True.intro | with_reducible refine And.intro ?_ ?_ | intro _))
  all_goals try exact oH
  first | (refine callS hA rfl (h P C) ?_; rintro _ rfl) | refine ⟨_, h P C, ?_⟩
  iterate 2 (all_goals try cbv; all_goals repeat' (first | with_reducible exact True.intro | with_reducible refine And.intro ?_ ?_ | intro _))
  all_goals try exact oH
  have e1 : A.pick s (A.eq 1 1) false = s := by subst hA; cases s <;> rfl
  all_goals try simp only [e1]

set_option maxHeartbeats 1000000 in
set_option maxRecDepth 100000 in
theorem l5dy_fs (C : Cx P gl) {m e f z : Int} {n : Nat} {s u : Bool} {p : List PV} {d : Dyadic} (hm : m = n) (hz : z = if s = true then -m else m) (hn : n ≤ 9007199254740991) (hd : d = mk z e) (hp : p = intsL (dg (cZ d).natAbs)) (hu : u = decide (cZ d < 0)) (hf : f = cE d) (he : e.natAbs ≤ 100000) (h0 : n ≠ 0) :
    FS P gl 31 [.agg [I 1, B s, I m, I e]] (· = .agg [B u, .lst p, I f]) := by
  obtain ⟨q, hq⟩ : ∃ q, q = intsL (dg n) := ⟨_, rfl⟩
  obtain ⟨s', hs'⟩ : ∃ s', s' = (s && decide (n ≠ 0)) := ⟨_, rfl⟩
  have hzn : z.natAbs = n := by rw [hz, hm]; split <;> omega
  have hzs : s' = decide (z < 0) := by
    rw [hs', hz, hm]
    cases s
    · rw [if_neg (by decide), Bool.false_and]; exact (decide_eq_false (by omega)).symm
    · rw [if_pos rfl, Bool.true_and]; exact decide_eq_decide.2 (by omega)
  have hl : (dg n).length ≤ 100 := dg_len n (by omega)
  have h1 := fun (P' : Program) (C' : Cx P' gl) => l2of_fs C' hm hq (by omega)
  have h2 := fun (P' : Program) (C' : Cx P' gl) => l3make_fs C' hq hs' (by omega)
  have h3 := fun (P' : Program) (C' : Cx P' gl) => l4make_fs C' (z := z) (e := e) (p := q) (by rw [hzn]; exact hq) hzs hd hp hu hf (by omega) (by rw [hzn]; omega)
  clear hm hz hd hp hu hf hq hs' hzn hzs
  obtain ⟨rfl, hG⟩ := C
  refine FS_ofT (args := fun A => [.agg [I 1, B s, I m, I e]]) (R := fun A rr => rr = .agg [B u, .lst p, I f]) Tryd.hT Tryd.mix Tryd.func31 rfl rfl (Nat.le_of_ble_eq_true rfl) ?_
  generalize hP : Tryd.prog = P
  intro A hA
  have C : Tryd.Cx P gl := ⟨hP.symm, hG⟩
  have hI : intsL = A.ints := by subst hA; rfl
  iterate 2 (all_goals try cbv; all_goals repeat' (first | with_reducible exact True.intro | with_reducible refine And.intro ?_ ?_ | intro _))
  all_goals try exact oH
  first | (refine callS hA rfl (h1 P C) ?_; rintro _ rfl) | refine ⟨_, h1 P C, ?_⟩
  iterate 2 (all_goals try cbv; all_goals repeat' (first | with_reducible exact True.intro | with_reducible refine And.intro ?_ ?_ | intro _))
  all_goals try exact oH
  first | (refine callS hA rfl (h2 P C) ?_; rintro _ rfl) | refine ⟨_, h2 P C, ?_⟩
  iterate 2 (all_goals try cbv; all_goals repeat' (first | with_reducible exact True.intro | with_reducible refine And.intro ?_ ?_ | intro _))
  all_goals try exact oH
  first | (refine callS hA rfl (h3 P C) ?_; rintro _ rfl) | refine ⟨_, h3 P C, ?_⟩
  iterate 2 (all_goals try cbv; all_goals repeat' (first | with_reducible exact True.intro | with_reducible refine And.intro ?_ ?_ | intro _))
  all_goals try exact oH

set_option maxHeartbeats 1000000 in
set_option maxRecDepth 100000 in
theorem toFl_fs (C : Cx P gl) {k m e : Int} {s : Bool} : FS P gl 8 [.agg [I k, B s, I m, I e]] (· = .agg [I k, B s, I m, I e]) := by
  obtain ⟨rfl, hG⟩ := C
  refine FS_ofT (args := fun A => [.agg [I k, B s, I m, I e]]) (R := fun A rr => rr = .agg [I k, B s, I m, I e]) Tryd.hT Tryd.mix Tryd.func8 rfl rfl (Nat.le_of_ble_eq_true rfl) ?_
  generalize hP : Tryd.prog = P
  intro A hA
  have C : Tryd.Cx P gl := ⟨hP.symm, hG⟩
  have hI : intsL = A.ints := by subst hA; rfl
  iterate 2 (all_goals try cbv; all_goals repeat' (first | with_reducible exact True.intro | with_reducible refine And.intro ?_ ?_ | intro _))
  all_goals try exact oH

set_option maxHeartbeats 1000000 in
set_option maxRecDepth 100000 in
theorem eqFl_fs (C : Cx P gl) {k m e : Int} {s : Bool} : FS P gl 10 [.agg [I k, B s, I m, I e], .agg [I k, B s, I m, I e]] (· = B true) := by
  obtain ⟨rfl, hG⟩ := C
  refine FS_ofT (args := fun A => [.agg [I k, B s, I m, I e], .agg [I k, B s, I m, I e]]) (R := fun A rr => rr = B true) Tryd.hT Tryd.mix Tryd.func10 rfl rfl (Nat.le_of_ble_eq_true rfl) ?_
  generalize hP : Tryd.prog = P
  intro A hA
  have C : Tryd.Cx P gl := ⟨hP.symm, hG⟩
  have hI : intsL = A.ints := by subst hA; rfl
  iterate 2 (all_goals try cbv; all_goals repeat' (first | with_reducible exact True.intro | with_reducible refine And.intro ?_ ?_ | intro _))
  all_goals try exact oH
  iterate 2 (all_goals try cbv; all_goals repeat' (first | with_reducible exact True.intro | with_reducible refine And.intro ?_ ?_ | intro _))
  all_goals try exact oH
  iterate 2 (all_goals try cbv; all_goals repeat' (first | with_reducible exact True.intro | with_reducible refine And.intro ?_ ?_ | intro _))
  all_goals try exact oH
  iterate 2 (all_goals try cbv; all_goals repeat' (first | with_reducible exact True.intro | with_reducible refine And.intro ?_ ?_ | intro _))
  all_goals try exact oH

set_option maxHeartbeats 1000000 in
set_option maxRecDepth 100000 in
theorem overflow_fs (C : Cx P gl) {neg b : Bool} {mode k m e : Int} (hb : b = overB neg mode) (h1 : b = true → k = 1 ∧ m = 9007199254740991 ∧ e = 971) (h2 : b = false → k = 2 ∧ m = 0 ∧ e = 0) : FS P gl 86 [B neg, I mode] (· = .tup [.agg [I k, B neg, I m, I e], I 3]) := by
  obtain ⟨rfl, hG⟩ := C
  refine FS_ofT (args := fun A => [B neg, I mode]) (R := fun A rr => rr = .tup [.agg [I k, B neg, I m, I e], I 3]) Tryd.hT Tryd.mix Tryd.func86 rfl rfl (Nat.le_of_ble_eq_true rfl) ?_
  generalize hP : Tryd.prog = P
  intro A hA
  have C : Tryd.Cx P gl := ⟨hP.symm, hG⟩
  have hI : intsL = A.ints := by subst hA; rfl
  have ec : A.pick (A.pick (A.eq mode 1) true (A.pick (A.eq mode 2) neg false)) true (A.pick (A.eq mode 3) (A.bnot neg) false) = b := by
    rw [hb]; clear h1 h2 hb; subst hA
    rw [pick_or, pick_or, pick_and, pick_and, eq_dec, eq_dec, eq_dec, bnot_not]; rfl
  clear hb
  iterate 2 (all_goals try cbv; all_goals repeat' (first | with_reducible exact True.intro | with_reducible refine And.intro ?_ ?_ | intro _))
  all_goals try exact oH
  first | (refine callS hA rfl (infinity_fs C) ?_; rintro _ rfl) | refine ⟨_, infinity_fs C, ?_⟩
  iterate 2 (all_goals try cbv; all_goals repeat' (first | with_reducible exact True.intro | with_reducible refine And.intro ?_ ?_ | intro _))
  all_goals try exact oH
  · rename_i g
    have g : b = true := by rw [← ec]; exact g
    obtain ⟨rfl, rfl, rfl⟩ := h1 g
    rfl
  · rename_i g
    have g : b = false := by rw [← ec]; exact g
    obtain ⟨rfl, rfl, rfl⟩ := h2 g
    rfl

end Tryd
end Go.Proofs
