/- Contracts: a matrix out of a function of its places. -/
import Derived.Test.YtcbagjglchpagaaGreatDoorMP4
import Derived.Test.YtcbagjglchpagaaGreatDoorMN10
import Derived.Test.YtcbagjglchpagaaGreatDoorMEvD
import Derived.Test.YtcbagjglchpagaaGreatDoorMN22
import Derived.Test.YtcbagjglchpagaaGreatDoorMN25
import Derived.Test.YtcbagjglchpagaaGreatDoorMPeTm
import Derived.Test.YtcbagjglchpagaaGreatDoorMN13
namespace Go.Proofs
open Go Go.Pe Go.Dg
namespace Tryz
set_option linter.unusedSimpArgs false
set_option linter.unusedVariables false
variable {P : Program} {gl : List (Nat × Obj)}

set_option maxHeartbeats 1000000 in
set_option maxRecDepth 100000 in
theorem specIvMatOk_fs (C : Cx P gl) {vs : List Cell6} {p : List PV} {n : Int} {b : Bool} (hp : p = cells6 vs) (hb : b = true ↔ ivmOk n vs) (hl : vs.length ≤ 2000000) (hy : ∀ v ∈ vs, v.1.2.1.length ≤ 2000000 ∧ v.2.2.1.length ≤ 2000000) :
    FS P gl 74 [.agg [I n, .lst p]] (· = B b) := by
  obtain ⟨c, hc⟩ : ∃ c, c = !(decide (1 ≤ n) && decide (n ≤ 4) && decide ((vs.length : Int) = n * n)) := ⟨_, rfl⟩
  have hcf : c = true → b = false := by
    intro h
    cases hbc : b with
    | false => rfl
    | true =>
      obtain ⟨h1, h2, h3, _⟩ := hb.1 hbc
      rw [hc] at h
      simp [h1, h2, h3] at h
  have hct : c = false → 1 ≤ n ∧ n ≤ 4 ∧ (vs.length : Int) = n * n := by
    intro h
    rw [hc] at h
    simpa [and_assoc] using h
  have hyes : c = false → allV vs → b = true := fun h h2 => hb.2 ⟨(hct h).1, (hct h).2.1, (hct h).2.2, h2⟩
  have hno : ¬allV vs → b = false := by
    intro h
    cases hbc : b with
    | false => rfl
    | true => exact absurd (hb.1 hbc).2.2.2 h
  clear hb
  obtain ⟨rfl, hG⟩ := C
  refine FS_ofT (args := fun A => [.agg [I n, .lst p]]) (R := fun A rr => rr = B b) Tryz.hT Tryz.mix Tryz.func74 rfl rfl (Nat.le_of_ble_eq_true rfl) ?_
  generalize hP : Tryz.prog = P
  intro A hA
  have C : Tryz.Cx P gl := ⟨hP.symm, hG⟩
  have hI : intsL = A.ints := by subst hA; rfl
  have e : A.pick (A.pick (A.lt n 1) true (A.lt 4 n)) true (A.ne (A.cast (A.len p)) (A.mul .i64 n n)) = c := by
    rw [hc, hp]
    clear hcf hct hyes hno
    subst hA
    simp only [AR.std, c6len]
    by_cases h1 : n < 1
    · simp [h1]; try omega
    · by_cases h2 : 4 < n
      · simp [h1, h2]; try omega
      · have hm : n * n ≤ 16 ∧ 0 ≤ n * n := by
          rcases (by omega : n = 1 ∨ n = 2 ∨ n = 3 ∨ n = 4) with rfl | rfl | rfl | rfl <;> decide
        rw [wrapi (by omega) (by omega)]
        have h3 : 1 ≤ n := by omega
        have h4 : n ≤ 4 := by omega
        simp [h1, h2, h3, h4]
        rfl
  iterate 2 (all_goals try cbv; all_goals repeat' (first | with_reducible exact True.intro | with_reducible refine And.intro ?_ ?_ | intro _))
  all_goals try exact oI
  · rename_i g
    rw [hcf (by rw [← e]; exact g)]
  · rename_i g
    have hcf' : c = false := by rw [← e]; exact g
    have hyes' := hyes hcf'
    clear g e hcf hct hyes hc
    refine loopI hA [] (ι := Int) (fun x => [(3, .pv (I x))]) (fun x => []) (fun x => (vs.length - x).toNat) (fun x => voksI vs x) 0 (by rfl) ?_ ?_ ?_
    all_goals try exact tI
    · exact voksI_zero vs
    rintro i hinv
    have hi0 := hinv.1
    have hi1 := hinv.2.1
    have hnext := fun hi => @voksI_next vs i hinv hi
    have hexit := fun hi => @voksI_exit vs i hinv hi
    have hyl : (vs.getD i.toNat noV).1.2.1.length ≤ 2000000 ∧ (vs.getD i.toNat noV).2.2.1.length ≤ 2000000 := by
      rcases Nat.lt_or_ge i.toNat vs.length with h | h
      · rw [List.getD, List.getElem?_eq_getElem h]; exact hy _ (List.getElem_mem h)
      · rw [List.getD, List.getElem?_eq_none h]; simp [noV, noY]
    obtain ⟨b2, hb2⟩ := bool_of (okV (vs.getD i.toNat noV))
    clear hinv
    iterate 2 (all_goals try cbv; all_goals repeat' (first | with_reducible exact True.intro | with_reducible refine And.intro ?_ ?_ | intro _))
    all_goals try exact oI
    · rename_i g
      have gi : i < vs.length := by clear hnext hexit hyes' hno hb2 hyl hy; (subst hA; subst_vars; simp only [AR.std, natCast_eq, sI, reduceCtorEq] at *; try simp (disch := omega) only [AR.std, natCast_eq, sI, reduceCtorEq] at *); omega
      have hlt : i.toNat < vs.length := by omega
      have h1l : A.gl (A.el p (A.nat i)) 1 = intsL (vs.getD i.toNat noV).1.2.1 := by clear hnext hexit hyes' hno hb2 hyl hy; (subst hA; subst_vars; simp only [AR.std, natCast_eq, sI, reduceCtorEq] at *; try simp (disch := omega) only [AR.std, natCast_eq, sI, reduceCtorEq] at *)
      have h1b : A.gb (A.el p (A.nat i)) 0 = (vs.getD i.toNat noV).1.1 := by clear hnext hexit hyes' hno hb2 hyl hy h1l; (subst hA; subst_vars; simp only [AR.std, natCast_eq, sI, reduceCtorEq] at *; try simp (disch := omega) only [AR.std, natCast_eq, sI, reduceCtorEq] at *)
      have h1e : A.gi (A.el p (A.nat i)) 2 = (vs.getD i.toNat noV).1.2.2 := by clear hnext hexit hyes' hno hb2 hyl hy h1l h1b; (subst hA; subst_vars; simp only [AR.std, natCast_eq, sI, reduceCtorEq] at *; try simp (disch := omega) only [AR.std, natCast_eq, sI, reduceCtorEq] at *)
      have h2l : A.gl (A.el p (A.nat i)) 4 = intsL (vs.getD i.toNat noV).2.2.1 := by clear hnext hexit hyes' hno hb2 hyl hy h1l h1b h1e; (subst hA; subst_vars; simp only [AR.std, natCast_eq, sI, reduceCtorEq] at *; try simp (disch := omega) only [AR.std, natCast_eq, sI, reduceCtorEq] at *)
      have h2b : A.gb (A.el p (A.nat i)) 3 = (vs.getD i.toNat noV).2.1 := by clear hnext hexit hyes' hno hb2 hyl hy h1l h1b h1e h2l; (subst hA; subst_vars; simp only [AR.std, natCast_eq, sI, reduceCtorEq] at *; try simp (disch := omega) only [AR.std, natCast_eq, sI, reduceCtorEq] at *)
      have h2e : A.gi (A.el p (A.nat i)) 5 = (vs.getD i.toNat noV).2.2.2 := by clear hnext hexit hyes' hno hb2 hyl hy h1l h1b h1e h2l h2b; (subst hA; subst_vars; simp only [AR.std, natCast_eq, sI, reduceCtorEq] at *; try simp (disch := omega) only [AR.std, natCast_eq, sI, reduceCtorEq] at *)
      refine callS hA rfl (IvOk_fs C (b := b2) h1l h2l (by simp only [h1b, h1e, h2b, h2e]; exact hb2) hyl.1 hyl.2) ?_; rintro _ rfl
      have hnx := fun h => hnext gi (hb2.1 h)
      have hnot : b2 = false → b = false := fun h => hno (allV_not hlt (fun h2 => by rw [hb2.2 h2] at h; cases h))
      clear h1l h1b h1e h2l h2b h2e hnext hexit hb2 hyl hno hyes' hy
      iterate 2 (all_goals try cbv; all_goals repeat' (first | with_reducible exact True.intro | with_reducible refine And.intro ?_ ?_ | intro _))
      all_goals try exact oI
      · rename_i g2
        have : b2 = false := by cases b2 <;> first | rfl | (exfalso; clear hnx hnot; subst hA; cases g2)
        rw [hnot this]
      · rename_i g2
        have : b2 = true := by cases b2 <;> first | rfl | (exfalso; clear hnx hnot; subst hA; cases g2)
        have hnx2 := hnx this
        clear hnx hnot g2
        obtain ⟨y1, hy1⟩ : ∃ y, y = i + 1 := ⟨_, rfl⟩
        refine ⟨⟨y1, ?_⟩, ?_, ?_⟩
        rotate_left
        · cbv
          exact nI
        · (subst hA; subst_vars; simp only [AR.std, natCast_eq, sI, reduceCtorEq] at *; try simp (disch := omega) only [AR.std, natCast_eq, sI, reduceCtorEq] at *); omega
        · rw [hy1]; exact hnx2
    · rename_i g
      have gi : vs.length ≤ i := by clear hnext hexit hyes' hno hb2 hyl hy; (subst hA; subst_vars; simp only [AR.std, natCast_eq, sI, reduceCtorEq] at *; try simp (disch := omega) only [AR.std, natCast_eq, sI, reduceCtorEq] at *); omega
      rw [hyes' (hexit gi)]

end Tryz
end Go.Proofs

namespace Go.Proofs
open Go Go.Pe Go.Dg
namespace Tryz
set_option linter.unusedSimpArgs false
set_option linter.unusedVariables false
variable {P : Program} {gl : List (Nat × Obj)}

end Tryz
end Go.Proofs

namespace Go.Proofs
open Go Go.Pe Go.Dg
namespace Tryz
set_option linter.unusedSimpArgs false
set_option linter.unusedVariables false
variable {P : Program} {gl : List (Nat × Obj)}

end Tryz
end Go.Proofs

namespace Go.Proofs
open Go Go.Pe Go.Dg
namespace Tryz
set_option linter.unusedSimpArgs false
set_option linter.unusedVariables false
variable {P : Program} {gl : List (Nat × Obj)}

theorem dg_zero : dg 0 = [] := List.eq_nil_of_length_eq_zero (dg_len0.2 rfl)

theorem fits_zero : fits 0 := by
  have : cZ (0 : Dyadic) = 0 := cZ_eq_zero.2 rfl
  refine ⟨by rw [this, show Int.natAbs 0 = 0 from rfl, dg_zero]; decide, by decide, by decide⟩

end Tryz
end Go.Proofs

namespace Go.Proofs
open Go Go.Pe Go.Dg
namespace Tryz
set_option linter.unusedSimpArgs false
set_option linter.unusedVariables false
variable {P : Program} {gl : List (Nat × Obj)}

theorem dy_fn (C : Cx P gl) {z e f : Int} {p r : List PV} {s u : Bool} {d : Dyadic} (hp : p = intsL (dg z.natAbs)) (hs : s = decide (z < 0)) (hd : d = mk z e)
    (hr : r = intsL (dg (cZ d).natAbs)) (hu : u = decide (cZ d < 0)) (hf : f = cE d) (h0 : e.natAbs ≤ 1000000000) (hl : (dg z.natAbs).length ≤ 10000000) (hn : z ≠ 0) (hfit : fits d) :
    FN P gl 80 [.agg [B s, .lst p, I e]] (fun own rr => own = [.row 3 1 r] ∧ rr = .tup [.agg [.pv (B u), .own 0, .pv (I f)], .pv (B true)]) :=
  FN_of (dy_fx C hp hs hd hr hu hf h0 hl hn hfit) (by rintro _ _ ⟨rfl, rfl⟩; exact ⟨by simpa using closed_ints hr _ _, rfl⟩)

end Tryz
end Go.Proofs

namespace Go.Proofs
open Go Go.Pe Go.Dg
namespace Tryz
set_option linter.unusedSimpArgs false
set_option linter.unusedVariables false
variable {P : Program} {gl : List (Nat × Obj)}

end Tryz
end Go.Proofs

namespace Go.Proofs
open Go Go.Pe Go.Dg
namespace Tryz
set_option linter.unusedSimpArgs false
set_option linter.unusedVariables false
variable {P : Program} {gl : List (Nat × Obj)}

end Tryz
end Go.Proofs

namespace Go.Proofs
open Go Go.Pe Go.Dg
namespace Tryz
set_option linter.unusedSimpArgs false
set_option linter.unusedVariables false
variable {P : Program} {gl : List (Nat × Obj)}

end Tryz
end Go.Proofs

namespace Go.Proofs
open Go Go.Pe Go.Dg
namespace Tryz
set_option linter.unusedSimpArgs false
set_option linter.unusedVariables false
variable {P : Program} {gl : List (Nat × Obj)}

theorem sub_eqV (a b : Dyadic) : a - b = a + -b := by grind

/-- an end of an interval in form -/
theorem endV {vs : List Cell6} (hva : allV vs) {k : Nat} (hk : k < vs.length) : vs.getD k noV = (canY (dvA vs k), canY (dvB vs k)) := allV_can hva hk

end Tryz
end Go.Proofs

namespace Go.Proofs
open Go Go.Pe Go.Dg
namespace Tryz
set_option linter.unusedSimpArgs false
set_option linter.unusedVariables false
variable {P : Program} {gl : List (Nat × Obj)}

/-- a matrix in form -/
def matOk (n : Int) (ys : List Cell3) : Prop := 1 ≤ n ∧ n ≤ 4 ∧ (ys.length : Int) = n * n ∧ allY ys

set_option maxHeartbeats 1000000 in
set_option maxRecDepth 100000 in
theorem gridAt_fs (C : Cx P gl) {ys : List Cell3} {p q : List PV} {n i j : Int} {s : Bool} {l : List Int} {e : Int} (hp : p = cells3 ys) (hi : 0 ≤ i) (hj : 0 ≤ j) (hn : 0 ≤ n) (hn4 : n ≤ 4) (hi4 : i ≤ 4) (hj4 : j ≤ 4) (hk : i * n + j < ys.length) (hg : ys.getD (i * n + j).toNat noY = (s, l, e)) (hq : q = intsL l) :
    FS P gl 129 [.agg [I n, .lst p], I i, I j] (· = .agg [B s, .lst q, I e]) := by
  have hm : 0 ≤ i * n ∧ i * n ≤ 16 := by
    rcases (by omega : n = 0 ∨ n = 1 ∨ n = 2 ∨ n = 3 ∨ n = 4) with rfl | rfl | rfl | rfl | rfl <;> omega
  obtain ⟨k, hk'⟩ : ∃ k, k = i * n + j := ⟨_, rfl⟩
  rw [← hk'] at hk hg
  have hk0 : 0 ≤ k := by omega
  have hlt : k.toNat < ys.length := by omega
  obtain ⟨rfl, hG⟩ := C
  refine FS_ofT (args := fun A => [.agg [I n, .lst p], I i, I j]) (R := fun A rr => rr = .agg [B s, .lst q, I e]) Tryz.hT Tryz.mix Tryz.func129 rfl rfl (Nat.le_of_ble_eq_true rfl) ?_
  generalize hP : Tryz.prog = P
  intro A hA
  have C : Tryz.Cx P gl := ⟨hP.symm, hG⟩
  have hI : intsL = A.ints := by subst hA; rfl
  have ek : A.add .i64 (A.mul .i64 i n) j = k := by
    clear hg
    subst hA
    simp only [AR.std]
    rw [wrapi (n := i * n) (by omega) (by omega), ← hk', wrapi (by omega) (by omega)]
  iterate 2 (all_goals try cbv; all_goals repeat' (first | with_reducible exact True.intro | with_reducible refine And.intro ?_ ?_ | intro _))
  all_goals try exact oG
  all_goals simp only [ek]
  all_goals clear ek hk'
  have h0 : A.gb (A.el p (A.nat k)) 0 = s := by
    have e2 : A.gb (A.el p (A.nat k)) 0 = (ys.getD k.toNat noY).1 := by clear hg; (subst hA; subst_vars; simp only [AR.std, natCast_eq, sG, reduceCtorEq] at *; try simp (disch := omega) only [AR.std, natCast_eq, sG, reduceCtorEq] at *)
    rw [e2, hg]
  have h1 : A.gl (A.el p (A.nat k)) 1 = q := by
    have e2 : A.gl (A.el p (A.nat k)) 1 = intsL (ys.getD k.toNat noY).2.1 := by clear hg h0; (subst hA; subst_vars; simp only [AR.std, natCast_eq, sG, reduceCtorEq] at *; try simp (disch := omega) only [AR.std, natCast_eq, sG, reduceCtorEq] at *)
    rw [e2, hg, hq]
  have h2 : A.gi (A.el p (A.nat k)) 2 = e := by
    have e2 : A.gi (A.el p (A.nat k)) 2 = (ys.getD k.toNat noY).2.2 := by clear hg h0 h1; (subst hA; subst_vars; simp only [AR.std, natCast_eq, sG, reduceCtorEq] at *; try simp (disch := omega) only [AR.std, natCast_eq, sG, reduceCtorEq] at *)
    rw [e2, hg]
  simp only [h0, h1, h2]

end Tryz
end Go.Proofs

namespace Go.Proofs
open Go Go.Pe Go.Dg
namespace Tryz
set_option linter.unusedSimpArgs false
set_option linter.unusedVariables false
variable {P : Program} {gl : List (Nat × Obj)}

set_option maxHeartbeats 1000000 in
set_option maxRecDepth 100000 in
theorem specMatOk_fs (C : Cx P gl) {ys : List Cell3} {p : List PV} {n : Int} {b : Bool} (hp : p = cells3 ys) (hb : b = true ↔ matOk n ys) (hl : ys.length ≤ 2000000) (hy : ∀ y ∈ ys, y.2.1.length ≤ 2000000) :
    FS P gl 144 [.agg [I n, .lst p]] (· = B b) := by
  obtain ⟨c, hc⟩ : ∃ c, c = !(decide (1 ≤ n) && decide (n ≤ 4) && decide ((ys.length : Int) = n * n)) := ⟨_, rfl⟩
  have hcf : c = true → b = false := by
    intro h
    cases hbc : b with
    | false => rfl
    | true =>
      obtain ⟨h1, h2, h3, _⟩ := hb.1 hbc
      rw [hc] at h
      simp [h1, h2, h3] at h
  have hct : c = false → 1 ≤ n ∧ n ≤ 4 ∧ (ys.length : Int) = n * n := by
    intro h
    rw [hc] at h
    simpa [and_assoc] using h
  have hyes : c = false → allY ys → b = true := fun h h2 => hb.2 ⟨(hct h).1, (hct h).2.1, (hct h).2.2, h2⟩
  have hno : ¬allY ys → b = false := by
    intro h
    cases hbc : b with
    | false => rfl
    | true => exact absurd (hb.1 hbc).2.2.2 h
  clear hb
  obtain ⟨rfl, hG⟩ := C
  refine FS_ofT (args := fun A => [.agg [I n, .lst p]]) (R := fun A rr => rr = B b) Tryz.hT Tryz.mix Tryz.func144 rfl rfl (Nat.le_of_ble_eq_true rfl) ?_
  generalize hP : Tryz.prog = P
  intro A hA
  have C : Tryz.Cx P gl := ⟨hP.symm, hG⟩
  have hI : intsL = A.ints := by subst hA; rfl
  have e : A.pick (A.pick (A.lt n 1) true (A.lt 4 n)) true (A.ne (A.cast (A.len p)) (A.mul .i64 n n)) = c := by
    rw [hc, hp]
    clear hcf hct hyes hno
    subst hA
    simp only [AR.std, c3len]
    by_cases h1 : n < 1
    · simp [h1]; try omega
    · by_cases h2 : 4 < n
      · simp [h1, h2]; try omega
      · have hm : n * n ≤ 16 ∧ 0 ≤ n * n := by
          rcases (by omega : n = 1 ∨ n = 2 ∨ n = 3 ∨ n = 4) with rfl | rfl | rfl | rfl <;> decide
        rw [wrapi (by omega) (by omega)]
        have h3 : 1 ≤ n := by omega
        have h4 : n ≤ 4 := by omega
        simp [h1, h2, h3, h4]
        rfl
  iterate 2 (all_goals try cbv; all_goals repeat' (first | with_reducible exact True.intro | with_reducible refine And.intro ?_ ?_ | intro _))
  all_goals try exact oG
  · rename_i g
    rw [hcf (by rw [← e]; exact g)]
  · rename_i g
    have hcf' : c = false := by rw [← e]; exact g
    have hyes' := hyes hcf'
    clear g e hcf hct hyes hc
    refine loopI hA [] (ι := Int) (fun x => [(3, .pv (I x))]) (fun x => []) (fun x => (ys.length - x).toNat) (fun x => doksI ys x) 0 (by rfl) ?_ ?_ ?_
    all_goals try exact tG
    · exact doksI_zero ys
    rintro i hinv
    have hi0 := hinv.1
    have hi1 := hinv.2.1
    have hnext := fun hi => @doksI_next ys i hinv hi
    have hexit := fun hi => @doksI_exit ys i hinv hi
    have hyl : (ys.getD i.toNat noY).2.1.length ≤ 2000000 := by
      rcases Nat.lt_or_ge i.toNat ys.length with h | h
      · rw [List.getD, List.getElem?_eq_getElem h]; exact hy _ (List.getElem_mem h)
      · rw [List.getD, List.getElem?_eq_none h]; simp [noY]
    obtain ⟨b2, hb2⟩ := bool_of (okY (ys.getD i.toNat noY))
    clear hinv
    iterate 2 (all_goals try cbv; all_goals repeat' (first | with_reducible exact True.intro | with_reducible refine And.intro ?_ ?_ | intro _))
    all_goals try exact oG
    · rename_i g
      have gi : i < ys.length := by clear hnext hexit hyes' hno hb2 hyl hy; (subst hA; subst_vars; simp only [AR.std, natCast_eq, sG, reduceCtorEq] at *; try simp (disch := omega) only [AR.std, natCast_eq, sG, reduceCtorEq] at *); omega
      have hlt : i.toNat < ys.length := by omega
      have hgl : A.gl (A.el p (A.nat i)) 1 = intsL (ys.getD i.toNat noY).2.1 := by clear hnext hexit hyes' hno hb2 hyl hy; (subst hA; subst_vars; simp only [AR.std, natCast_eq, sG, reduceCtorEq] at *; try simp (disch := omega) only [AR.std, natCast_eq, sG, reduceCtorEq] at *)
      have hgb : A.gb (A.el p (A.nat i)) 0 = (ys.getD i.toNat noY).1 := by clear hnext hexit hyes' hno hb2 hyl hy hgl; (subst hA; subst_vars; simp only [AR.std, natCast_eq, sG, reduceCtorEq] at *; try simp (disch := omega) only [AR.std, natCast_eq, sG, reduceCtorEq] at *)
      have hge : A.gi (A.el p (A.nat i)) 2 = (ys.getD i.toNat noY).2.2 := by clear hnext hexit hyes' hno hb2 hyl hy hgl hgb; (subst hA; subst_vars; simp only [AR.std, natCast_eq, sG, reduceCtorEq] at *; try simp (disch := omega) only [AR.std, natCast_eq, sG, reduceCtorEq] at *)
      refine callS hA rfl (DyOk_fs C (b := b2) hgl (by simp only [hgb, hge]; exact hb2) hyl) ?_; rintro _ rfl
      have hnx := fun h => hnext gi (hb2.1 h)
      have hnot : b2 = false → b = false := fun h => hno (allY_not hlt (fun h2 => by rw [hb2.2 h2] at h; cases h))
      clear hgl hgb hge hnext hexit hb2 hyl hno hyes' hy
      iterate 2 (all_goals try cbv; all_goals repeat' (first | with_reducible exact True.intro | with_reducible refine And.intro ?_ ?_ | intro _))
      all_goals try exact oG
      · rename_i g2
        have : b2 = false := by cases b2 <;> first | rfl | (exfalso; clear hnx hnot; subst hA; cases g2)
        rw [hnot this]
      · rename_i g2
        have : b2 = true := by cases b2 <;> first | rfl | (exfalso; clear hnx hnot; subst hA; cases g2)
        have hnx2 := hnx this
        clear hnx hnot g2
        obtain ⟨y1, hy1⟩ : ∃ y, y = i + 1 := ⟨_, rfl⟩
        refine ⟨⟨y1, ?_⟩, ?_, ?_⟩
        rotate_left
        · cbv
          exact nG
        · (subst hA; subst_vars; simp only [AR.std, natCast_eq, sG, reduceCtorEq] at *; try simp (disch := omega) only [AR.std, natCast_eq, sG, reduceCtorEq] at *); omega
        · rw [hy1]; exact hnx2
    · rename_i g
      have gi : ys.length ≤ i := by clear hnext hexit hyes' hno hb2 hyl hy; (subst hA; subst_vars; simp only [AR.std, natCast_eq, sG, reduceCtorEq] at *; try simp (disch := omega) only [AR.std, natCast_eq, sG, reduceCtorEq] at *); omega
      rw [hyes' (hexit gi)]

end Tryz
end Go.Proofs

namespace Go.Proofs
open Go Go.Pe Go.Dg
namespace Tryz
set_option linter.unusedSimpArgs false
set_option linter.unusedVariables false
variable {P : Program} {gl : List (Nat × Obj)}

end Tryz
end Go.Proofs

