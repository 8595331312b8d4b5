/- Contracts: the top of a quotient, and its rounding, in the program. -/
import Derived.Test.YtcbagjglchpagaaDoorFK2
import Derived.Test.YtcbagjglchpagaaDoorFD6
import Derived.Test.YtcbagjglchpagaaDoorFN13
import Derived.Test.YtcbagjglchpagaaDoorFPeTq
namespace Go.Proofs
open Go Go.Pe Go.Dg
namespace Tryd
set_option linter.unusedSimpArgs false
set_option linter.unusedVariables false
variable {P : Program} {gl : List (Nat × Obj)}

set_option maxHeartbeats 1000000 in
set_option maxRecDepth 100000 in
theorem quotient1_fs (C : Cx P gl) {z1 z2 z e1 e2 low m : Int} {s1 s2 s ex : Bool} {p q r : List PV} (hp : p = intsL (dg z1.natAbs)) (hq : q = intsL (dg z2.natAbs)) (hs1 : s1 = decide (z1 < 0)) (hs2 : s2 = decide (z2 < 0)) (h2 : z2 ≠ 0)
    (hz : z = zover z1 z2 (e1 - e2 - low) m) (hr : r = intsL (dg z.natAbs)) (hs : s = decide (z < 0)) (hex : ex = decide (z1.natAbs * 2 ^ (e1 - e2 - low).toNat % (z2.natAbs * 2 ^ (-(e1 - e2 - low)).toNat) = 0))
    (hb1 : e1.natAbs ≤ 1000000) (hb2 : e2.natAbs ≤ 1000000) (hb3 : low.natAbs ≤ 1000000) (hl1 : (dg z1.natAbs).length ≤ 500000) (hl2 : (dg z2.natAbs).length ≤ 500000) :
    FS P gl 92 [I low, .ptr [B s1, .lst p, I e1] 0, .ptr [B s2, .lst q, I e2] 0, .ptr [I m] 0] (· = .tup [.agg [B s, .lst r, I low], B ex]) := by
  have ov := fun (P' : Program) (C' : Cx P' gl) => over_fs C' hp hq hs1 hs2 h2 hz hr hs hex hb1 hb2 hb3 hl1 hl2
  clear hp hq hs1 hs2 h2 hz hr hs hex hb1 hb2 hb3 hl1 hl2
  obtain ⟨rfl, hG⟩ := C
  refine FS_ofT (args := fun A => [I low, .ptr [B s1, .lst p, I e1] 0, .ptr [B s2, .lst q, I e2] 0, .ptr [I m] 0]) (R := fun A rr => rr = .tup [.agg [B s, .lst r, I low], B ex]) Tryd.hT Tryd.mix Tryd.func92 rfl rfl (Nat.le_of_ble_eq_true rfl) ?_
  generalize hP : Tryd.prog = P
  intro A hA
  have C : Tryd.Cx P gl := ⟨hP.symm, hG⟩
  have hI : intsL = A.ints := by subst hA; rfl
  iterate 2 (all_goals try cbv; all_goals repeat' (first | with_reducible exact True.intro | with_reducible refine And.intro ?_ ?_ | intro _))
  all_goals try exact oH
  first | (refine callS hA rfl (ov P C) ?_; rintro _ rfl) | refine ⟨_, ov P C, ?_⟩
  iterate 2 (all_goals try cbv; all_goals repeat' (first | with_reducible exact True.intro | with_reducible refine And.intro ?_ ?_ | intro _))
  all_goals try exact oH

set_option maxHeartbeats 1000000 in
set_option maxRecDepth 100000 in
theorem quotientTop_fs (C : Cx P gl) {z1 z2 e1 e2 t0 T : Int} {s1 s2 : Bool} {p q : List PV} (hp : p = intsL (dg z1.natAbs)) (hq : q = intsL (dg z2.natAbs)) (ht : t0 = topD (mk z1 e1) - topD (mk z2 e2))
    (hT : T = if mk ((z2.natAbs : Nat) : Int) (e2 + t0) ≤ mk ((z1.natAbs : Nat) : Int) e1 then t0 + 1 else t0)
    (hb1 : e1.natAbs ≤ 20000) (hb2 : e2.natAbs ≤ 20000) (ht1 : (topD (mk z1 e1)).natAbs ≤ 20000) (ht2 : (topD (mk z2 e2)).natAbs ≤ 20000) (hl1 : (dg z1.natAbs).length ≤ 50000) (hl2 : (dg z2.natAbs).length ≤ 50000) :
    FS P gl 91 [.agg [B s1, .lst p, I e1], .agg [B s2, .lst q, I e2]] (· = I T) := by
  obtain ⟨T1, hT1⟩ : ∃ t, t = topD (mk z1 e1) := ⟨_, rfl⟩
  obtain ⟨T2, hT2⟩ : ∃ t, t = topD (mk z2 e2) := ⟨_, rfl⟩
  obtain ⟨c, hc⟩ : ∃ c, c = cmpD (mk ((z1.natAbs : Nat) : Int) e1) (mk ((z2.natAbs : Nat) : Int) (e2 + t0)) := ⟨_, rfl⟩
  obtain ⟨g, hg⟩ : ∃ g, g = e2 + t0 := ⟨_, rfl⟩
  rw [← hT1] at ht ht1
  rw [← hT2] at ht ht2
  have a1 := fun (P' : Program) (C' : Cx P' gl) => @abs2_fs P' gl C' e1 p s1
  have a2 := fun (P' : Program) (C' : Cx P' gl) => @abs2_fs P' gl C' e2 q s2
  have k1 := fun (P' : Program) (C' : Cx P' gl) => exactTop_fs C' (s := false) hp hT1 (by omega) (by omega)
  have k2 := fun (P' : Program) (C' : Cx P' gl) => exactTop_fs C' (s := false) hq hT2 (by omega) (by omega)
  have sh := fun (P' : Program) (C' : Cx P' gl) => shifted_fs C' (s := false) (p := q) hg (by omega) (show t0.natAbs ≤ 1000000 by omega)
  have cp := fun (P' : Program) (C' : Cx P' gl) => exactCompare_fs C' (z1 := ((z1.natAbs : Nat) : Int)) (e1 := e1) (z2 := ((z2.natAbs : Nat) : Int)) (e2 := g) (s := false) (t := false) (c := c) hp (by rw [eq_comm, decide_eq_false_iff_not]; omega) hq (by rw [eq_comm, decide_eq_false_iff_not]; omega) (by rw [hc, hg]) (by omega) (by omega)
    (by rw [Int.natAbs_natCast]; omega) (by rw [Int.natAbs_natCast]; omega)
  have hT0 : 0 ≤ c → T = t0 + 1 := fun h => by rw [hT, if_pos]; rw [hc] at h; exact cmpD_ge.1 h
  have hT3 : ¬ 0 ≤ c → T = t0 := fun h => by rw [hT, if_neg]; intro h'; apply h; rw [hc]; exact cmpD_ge.2 h'
  have htb : t0.natAbs ≤ 40000 := by omega
  clear hp hq hT hc hT1 hT2 hg hl1 hl2 hb1 hb2
  obtain ⟨rfl, hG⟩ := C
  refine FS_ofT (args := fun A => [.agg [B s1, .lst p, I e1], .agg [B s2, .lst q, I e2]]) (R := fun A rr => rr = I T) Tryd.hT Tryd.mix Tryd.func91 rfl rfl (Nat.le_of_ble_eq_true rfl) ?_
  generalize hP : Tryd.prog = P
  intro A hA
  have C : Tryd.Cx P gl := ⟨hP.symm, hG⟩
  have hI : intsL = A.ints := by subst hA; rfl
  have f1 : A.sub .i64 T1 T2 = t0 := by clear a1 a2 k1 k2 sh cp hT0 hT3; rw [ht]; subst hA; exact wrapi (by omega) (by omega)
  have f2 : A.add .i64 t0 1 = t0 + 1 := by clear a1 a2 k1 k2 sh cp hT0 hT3; subst hA; exact wrapi (by omega) (by omega)
  have f3 : A.le 0 c = decide (0 ≤ c) := by subst hA; rfl
  iterate 2 (all_goals try cbv; all_goals repeat' (first | with_reducible exact True.intro | with_reducible refine And.intro ?_ ?_ | intro _))
  all_goals try exact oH
  first | (refine callS hA rfl (a1 P C) ?_; rintro _ rfl) | refine ⟨_, a1 P C, ?_⟩
  iterate 2 (all_goals try cbv; all_goals repeat' (first | with_reducible exact True.intro | with_reducible refine And.intro ?_ ?_ | intro _))
  all_goals try exact oH
  first | (refine callS hA rfl (a2 P C) ?_; rintro _ rfl) | refine ⟨_, a2 P C, ?_⟩
  iterate 2 (all_goals try cbv; all_goals repeat' (first | with_reducible exact True.intro | with_reducible refine And.intro ?_ ?_ | intro _))
  all_goals try exact oH
  first | (refine callS hA rfl (k1 P C) ?_; rintro _ rfl) | refine ⟨_, k1 P C, ?_⟩
  iterate 2 (all_goals try cbv; all_goals repeat' (first | with_reducible exact True.intro | with_reducible refine And.intro ?_ ?_ | intro _))
  all_goals try exact oH
  first | (refine callS hA rfl (k2 P C) ?_; rintro _ rfl) | refine ⟨_, k2 P C, ?_⟩
  iterate 2 (all_goals try cbv; all_goals repeat' (first | with_reducible exact True.intro | with_reducible refine And.intro ?_ ?_ | intro _))
  all_goals try exact oH
  all_goals try simp only [f1]
  first | (refine callS hA rfl (sh P C) ?_; rintro _ rfl) | refine ⟨_, sh P C, ?_⟩
  iterate 2 (all_goals try cbv; all_goals repeat' (first | with_reducible exact True.intro | with_reducible refine And.intro ?_ ?_ | intro _))
  all_goals try exact oH
  first | (refine callS hA rfl (cp P C) ?_; rintro _ rfl) | refine ⟨_, cp P C, ?_⟩
  all_goals try cbv
  all_goals repeat' (first | with_reducible exact True.intro | with_reducible refine And.intro ?_ ?_ | intro _)
  all_goals try exact oH
  · rename_i gg
    have g0 : 0 ≤ c := of_decide_eq_true (by rw [← f3]; exact gg)
    have f4 : A.add .i64 t0 1 = T := by rw [f2, hT0 g0]
    clear gg
    iterate 2 (all_goals try cbv; all_goals repeat' (first | with_reducible exact True.intro | with_reducible refine And.intro ?_ ?_ | intro _))
    all_goals try exact oH
    all_goals try simp only [f1, f4]
  · rename_i gg
    have g0 : ¬ 0 ≤ c := of_decide_eq_false (by rw [← f3]; exact gg)
    have f4 : T = t0 := hT3 g0
    clear gg
    iterate 2 (all_goals try cbv; all_goals repeat' (first | with_reducible exact True.intro | with_reducible refine And.intro ?_ ?_ | intro _))
    all_goals try exact oH
    all_goals try simp only [f1, f4]

end Tryd
end Go.Proofs
