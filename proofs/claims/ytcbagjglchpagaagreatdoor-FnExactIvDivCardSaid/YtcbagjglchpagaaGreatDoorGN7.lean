/- Contracts: the reference's signed numbers, more. -/
import Derived.Test.YtcbagjglchpagaaGreatDoorGN6
import Derived.Test.YtcbagjglchpagaaGreatDoorGEvD
namespace Go.Proofs
open Go Go.Pe Go.Dg
namespace Tryz
set_option linter.unusedSimpArgs false
set_option linter.unusedVariables false
variable {P : Program} {gl : List (Nat × Obj)}

theorem bne_t {A : AR} (hA : A = AR.std) {s t : Bool} (h : A.bnot (A.beq s t) = true) : t = !s := by subst hA; cases s <;> cases t <;> first | rfl | exact absurd h (by decide)
theorem bne_f {A : AR} (hA : A = AR.std) {s t : Bool} (h : A.bnot (A.beq s t) = false) : t = s := by subst hA; cases s <;> cases t <;> first | rfl | exact absurd h (by decide)
theorem beq_t {A : AR} (hA : A = AR.std) {s t : Bool} (h : A.beq s t = true) : t = s := by subst hA; cases s <;> cases t <;> first | rfl | exact absurd h (by decide)
theorem beq_f {A : AR} (hA : A = AR.std) {s t : Bool} (h : A.beq s t = false) : t = !s := by subst hA; cases s <;> cases t <;> first | rfl | exact absurd h (by decide)

theorem dg_len_mono {x y : Nat} (h : x ≤ y) : (dg x).length ≤ (dg y).length := by
  rcases Nat.lt_or_ge (dg y).length (dg x).length with h' | h'
  · have := dg_len_lt h'; omega
  · exact h'

theorem dg_len_add (x y : Nat) : (dg (x + y)).length ≤ (dg x).length + (dg y).length + 1 := by
  refine dg_len_le _ _ ?_
  have h1 := dg_lt_pow x
  have h2 := dg_lt_pow y
  have h3 : 65536 ^ (dg x).length ≤ 65536 ^ ((dg x).length + (dg y).length) := Nat.pow_le_pow_right (by decide) (by omega)
  have h4 : 65536 ^ (dg y).length ≤ 65536 ^ ((dg x).length + (dg y).length) := Nat.pow_le_pow_right (by decide) (by omega)
  rw [Nat.pow_succ]
  omega

set_option maxHeartbeats 1000000 in
set_option maxRecDepth 100000 in
theorem l3cmp_fs (C : Cx P gl) {x y : Int} {p q : List PV} {s t : Bool} {c : Int} (hp : p = intsL (dg x.natAbs)) (hs : s = decide (x < 0)) (hq : q = intsL (dg y.natAbs)) (ht : t = decide (y < 0))
    (hc : c = cmpZ x y) (hl : (dg x.natAbs).length ≤ 1000000000) (hm : (dg y.natAbs).length ≤ 1000000000) :
    FS P gl 152 [.agg [B s, .lst p], .agg [B t, .lst q]] (· = I c) := by
  have h1 : s = true → t = (!s) → c = -1 := by
    intro h h'; rw [h'] at ht; rw [h] at hs ht; simp at hs ht; rw [hc, cmpZ, if_pos (by omega)]
  have h2 : s = false → t = (!s) → c = 1 := by
    intro h h'; rw [h'] at ht; rw [h] at hs ht; simp at hs ht; rw [hc, cmpZ, if_neg (by omega), if_pos (by omega)]
  have h3 : s = true → t = s → c = cmpN y.natAbs x.natAbs := by
    intro h h'; rw [h'] at ht; rw [h] at hs ht; simp at hs ht; rw [hc, cmpZ, cmpN]; repeat' split <;> omega
  have h4 : s = false → t = s → c = cmpN x.natAbs y.natAbs := by
    intro h h'; rw [h'] at ht; rw [h] at hs ht; simp at hs ht; rw [hc, cmpZ, cmpN]; repeat' split <;> omega
  clear hc hs ht
  obtain ⟨rfl, hG⟩ := C
  refine FS_ofT (args := fun A => [.agg [B s, .lst p], .agg [B t, .lst q]]) (R := fun A rr => rr = I c) Tryz.hT Tryz.mix Tryz.func152 rfl rfl (Nat.le_of_ble_eq_true rfl) ?_
  generalize hP : Tryz.prog = P
  intro A hA
  have C : Tryz.Cx P gl := ⟨hP.symm, hG⟩
  have hI : intsL = A.ints := by subst hA; rfl
  iterate 2 (all_goals try cbv; all_goals repeat' (first | with_reducible exact True.intro | with_reducible refine And.intro ?_ ?_ | intro _))
  all_goals try exact oH
  iterate 2 (all_goals try cbv; all_goals repeat' (first | with_reducible exact True.intro | with_reducible refine And.intro ?_ ?_ | intro _))
  all_goals try exact oH
  · rename_i g1 g2; rw [h1 g2 (bne_t hA g1)]
  · rename_i g1 g2; rw [h2 g2 (bne_t hA g1)]
  · rename_i g1 g2
    refine callS hA rfl (l2cmp_fs C hq hp (h3 g2 (bne_f hA g1)) hm hl) ?_; rintro _ rfl
    iterate 2 (all_goals try cbv; all_goals repeat' (first | with_reducible exact True.intro | with_reducible refine And.intro ?_ ?_ | intro _))
    all_goals try exact oH
  · rename_i g1 g2
    refine callS hA rfl (l2cmp_fs C hp hq (h4 g2 (bne_f hA g1)) hl hm) ?_; rintro _ rfl
    iterate 2 (all_goals try cbv; all_goals repeat' (first | with_reducible exact True.intro | with_reducible refine And.intro ?_ ?_ | intro _))
    all_goals try exact oH

end Tryz
end Go.Proofs
