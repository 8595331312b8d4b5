/- The walk of the law FnExactInverse, out of contracts of the two functions that it compares. -/
import Derived.Test.YtlkiofkkjbodjaaGreatDoorBM2
import Derived.Test.YtlkiofkkjbodjaaGreatDoorBM3
set_option maxHeartbeats 4000000
set_option maxRecDepth 100000
namespace Go.Proofs
open Go Go.Pe Go.Dg
namespace Tryz
set_option linter.unusedSimpArgs false
set_option linter.unusedVariables false
variable {P : Program} {gl : List (Nat × Obj)}

theorem aTN (C : Cx P gl) {l0 : List aC} {p0 : List PV} {n0 : Int} {n1 : Int} (hp0 : p0 = aB l0)
  (fT : l0.length ≤ 9223372036854775807) (aJG : ∀ y ∈ l0, y.2.1.length ≤ 9223372036854775807) (rB : 1048576 < l0.length + tot l0) :
  FS P gl 7 [.agg [I n0, .lst p0], I n1] (· = B true) := by
 obtain ⟨k1, hk1⟩ : ∃ k : Int, k = if (l0.length : Int) + tot l0 ≤ (1048576 : Int) then (1048576 : Int) - l0.length - tot l0 else -1 := ⟨_, rfl⟩
 have hc1 : ((l0.length : Int) + tot l0 ≤ (1048576 : Int) ∧ k1 = (1048576 : Int) - l0.length - tot l0) ∨ ((1048576 : Int) < (l0.length : Int) + tot l0 ∧ k1 = -1) := by
  rw [hk1]; split
  ·exact .inl ⟨by assumption, rfl⟩
  ·exact .inr ⟨by omega, rfl⟩
 have hu1 : k1 ≤ 1048576 := by omega
 have fH : k1 = -1 := by omega
 clear hc1
 refine gS C func7 rfl rfl rfl fun A hA hI => ?_
 iterate 2 all_goals try cbv; with_reducible repeat' first | exact ⟨⟩ | apply And.intro | intro _
 all_goals try exact oG
 refine aD hA rfl (tM C hp0 (by omega) aJG (by decide) (by decide) hk1) ?_; rintro _ rfl
 iterate 2 all_goals try cbv; with_reducible repeat' first | exact ⟨⟩ | apply And.intro | intro _
 all_goals try exact oG
 all_goals (exfalso; rename_i g; have hz := fH; clear fH hk1; exact eG)

theorem aNK (C : Cx P gl) {l0 : List aC} {p0 : List PV} {n0 n1 : Int} {u g : Int} {v w : Bool} {r : List PV} {o : List aC} {x : List PV} {o2 : List Int} (hp0 : p0 = aB l0) (aD0 : r = aB o) (aWD : o.length ≤ 100) (hoy : ∀ y ∈ o, y.2.1.length ≤ 100) (aTO : x = aA o2) (bAS : o2.length ≤ 100)
  (rB : l0.length + tot l0 ≤ 1048576)
  (aGS : ∀ P', Cx P' gl → FS P' gl 33 [.agg [I n0, .lst p0], I n1] (· = .tup [.agg [I u, .lst r], .agg [B v, .lst x, I g], B w]))
  (wK : ∀ P', Cx P' gl → FN P' gl 34 [.agg [I n0, .lst p0], I n1] (fun own rr => own = [.tree 64 3 3 r, .row 3 1 x] ∧ rr = .tup [.agg [.pv (I u), .own 0], .agg [.pv (B v), .own 1, .pv (I g)], .pv (B w)])) :
  FS P gl 7 [.agg [I n0, .lst p0], I n1] (· = B true) := by
 obtain ⟨k1, hk1⟩ : ∃ k : Int, k = if (l0.length : Int) + tot l0 ≤ (1048576 : Int) then (1048576 : Int) - l0.length - tot l0 else -1 := ⟨_, rfl⟩
 have hc1 : ((l0.length : Int) + tot l0 ≤ (1048576 : Int) ∧ k1 = (1048576 : Int) - l0.length - tot l0) ∨ ((1048576 : Int) < (l0.length : Int) + tot l0 ∧ k1 = -1) := by
  rw [hk1]; split
  ·exact .inl ⟨by assumption, rfl⟩
  ·exact .inr ⟨by omega, rfl⟩
 have hz1 : 0 ≤ k1 := by omega
 have hu1 : k1 ≤ 1048576 := by omega
 clear hc1
 have hy0 : ∀ y ∈ l0, y.2.1.length ≤ 2000000 := fun y hy => Nat.le_trans (wZ hy) (by omega)
 have aJG : ∀ y ∈ l0, y.2.1.length ≤ 9223372036854775807 := fun y hy => Nat.le_trans (hy0 y hy) (by decide)
 have ht0 : tot l0 ≤ 2000000 := by omega
 obtain ⟨a1, ha1⟩ : ∃ x, x = aB (oE l0 1) := ⟨_, rfl⟩
 obtain ⟨c1, hc1⟩ : ∃ c : Int, c = 1 + 2 * l0.length + tot l0 := ⟨_, rfl⟩
 have hcn : 0 ≤ c1 := by omega
 have fT : l0.length ≤ 2000000 := by omega
 have aAH := fun (P' : Program) (C' : Cx P' gl) => @kU P' gl C' l0 p0 a1 1 c1 n0 hp0 ha1 hc1 fT ht0 (by decide) (by decide)
 have hto : tot o ≤ 10000 := aCA hoy aWD
 obtain ⟨b1, hb1⟩ : ∃ x, x = aB (oE o 1) := ⟨_, rfl⟩
 obtain ⟨d1, hd1⟩ : ∃ c : Int, c = 1 + 2 * o.length + tot o := ⟨_, rfl⟩
 have bAC : 0 ≤ d1 := by omega
 have bAD : d1 ≤ 20000 := by omega
 have aAI : o.length ≤ 2000000 := by omega
 have aJH : ∀ y ∈ o, y.2.1.length ≤ 2000000 := fun y hy => Nat.le_trans (hoy y hy) (by decide)
 have aAJ := fun (P' : Program) (C' : Cx P' gl) => @kU P' gl C' o r b1 1 d1 u aD0 hb1 hd1 aAI (by omega) (by decide) (by decide)
 have wL := fun (P' : Program) (C' : Cx P' gl) => @rQ P' gl C' o b1 1 d1 u hb1 hd1 aAI (by omega) (by decide) (by decide)
 have aGT : o2.length ≤ 2000000 := by omega
 obtain ⟨b2, hb2⟩ : ∃ x, x = aA (up1 d1 o2.length) := ⟨_, rfl⟩
 obtain ⟨d2, hd2⟩ : ∃ c : Int, c = d1 + o2.length := ⟨_, rfl⟩
 have bBF : 0 ≤ d2 := by omega
 have aAK := fun (P' : Program) (C' : Cx P' gl) => @aMH P' gl C' o2 x b2 d1 d2 v g aTO hb2 hd2 aGT (by omega) (by omega)
 have pW := fun (P' : Program) (C' : Cx P' gl) => @vC P' gl C' o2.length b2 d1 d2 v g hb2 hd2 aGT (by omega) (by omega)
 refine gS C func7 rfl rfl rfl fun A hA hI => ?_
 have q1 : A.bnot true = false := by subst hA; rfl
 have q3 : ∀ x, A.pick false true x = x := fun x => by subst hA; cases x <;> rfl
 iterate 2 all_goals try cbv; with_reducible repeat' first | exact ⟨⟩ | apply And.intro | intro _
 all_goals try exact oG
 refine aD hA rfl (tM C hp0 (by omega) aJG (by decide) (by decide) hk1) ?_; rintro _ rfl
 clear hk1
 iterate 2 all_goals try cbv; with_reducible repeat' first | exact ⟨⟩ | apply And.intro | intro _
 all_goals try exact oG
 refine dE hA rfl (fS C hp0 fT hy0) ?_; rintro _ _ ⟨rfl, rfl⟩; refine ⟨rfl, ?_⟩
 iterate 2 all_goals try cbv; with_reducible repeat' first | exact ⟨⟩ | apply And.intro | intro _
 all_goals try exact oG
 refine aD hA rfl (aGS P C) ?_; rintro _ rfl
 iterate 2 all_goals try cbv; with_reducible repeat' first | exact ⟨⟩ | apply And.intro | intro _
 all_goals try exact oG
 refine dE hA rfl (fS C hp0 fT hy0) ?_; rintro _ _ ⟨rfl, rfl⟩; refine ⟨rfl, ?_⟩
 iterate 2 all_goals try cbv; with_reducible repeat' first | exact ⟨⟩ | apply And.intro | intro _
 all_goals try exact oG
 refine dE hA rfl (wK P C) ?_; rintro _ _ ⟨rfl, rfl⟩; refine ⟨rfl, ?_⟩
 iterate 2 all_goals try cbv; with_reducible repeat' first | exact ⟨⟩ | apply And.intro | intro _
 all_goals try exact oG
 refine lD hA rfl (eK C aD0 aAI aJH) ?_; rintro _ rfl; refine ⟨⟨_, rfl⟩, ?_⟩
 iterate 2 all_goals try cbv; with_reducible repeat' first | exact ⟨⟩ | apply And.intro | intro _
 all_goals try exact oG
 all_goals try simp only [q1, q3]
 refine ⟨_, fun _ => iX C aTO aGT, ⟨_, rfl⟩, ?_⟩
 iterate 2 all_goals try cbv; with_reducible repeat' first | exact ⟨⟩ | apply And.intro | intro _
 all_goals try exact oG
 all_goals try simp only [q1, q3]
 iterate 2 all_goals try cbv; with_reducible repeat' first | exact ⟨⟩ | apply And.intro | intro _
 all_goals try exact oG
 refine ⟨_, zK C hp0 fT hy0, ?_⟩
 iterate 2 all_goals try cbv; with_reducible repeat' first | exact ⟨⟩ | apply And.intro | intro _
 all_goals try exact oG
 refine lD hA rfl (eK C hp0 fT hy0) ?_; rintro _ rfl; refine ⟨⟨_, rfl⟩, ?_⟩
 iterate 2 all_goals try cbv; with_reducible repeat' first | exact ⟨⟩ | apply And.intro | intro _
 all_goals try exact oG
 refine gO hA [4] (by decide) rfl rfl rfl (aAH P C) ?_
 rintro _ _ ⟨rfl, rfl⟩
 refine ⟨rfl, ?_⟩
 iterate 2 all_goals try cbv; with_reducible repeat' first | exact ⟨⟩ | apply And.intro | intro _
 all_goals try exact oG
 refine ⟨_, fun _ => eK C aD0 aAI aJH, ⟨_, rfl⟩, ?_⟩
 iterate 2 all_goals try cbv; with_reducible repeat' first | exact ⟨⟩ | apply And.intro | intro _
 all_goals try exact oG
 all_goals try simp only [q1, q3]
 refine ⟨_, fun _ => iX C aTO aGT, ⟨_, rfl⟩, ?_⟩
 iterate 2 all_goals try cbv; with_reducible repeat' first | exact ⟨⟩ | apply And.intro | intro _
 all_goals try exact oG
 all_goals try simp only [q1, q3]
 iterate 2 all_goals try cbv; with_reducible repeat' first | exact ⟨⟩ | apply And.intro | intro _
 all_goals try exact oG
 refine gO hA [6] (by decide) rfl rfl rfl (aAJ P C) ?_
 rintro _ _ ⟨rfl, rfl⟩
 refine ⟨rfl, ?_⟩
 iterate 2 all_goals try cbv; with_reducible repeat' first | exact ⟨⟩ | apply And.intro | intro _
 all_goals try exact oG
 refine gO hA [7] (by decide) rfl rfl rfl (aAK P C) ?_
 rintro _ _ ⟨rfl, rfl⟩
 refine ⟨rfl, ?_⟩
 iterate 2 all_goals try cbv; with_reducible repeat' first | exact ⟨⟩ | apply And.intro | intro _
 all_goals try exact oG
 refine lD hA rfl (wL P C) ?_; rintro _ rfl; refine ⟨⟨_, rfl⟩, ?_⟩
 iterate 2 all_goals try cbv; with_reducible repeat' first | exact ⟨⟩ | apply And.intro | intro _
 all_goals try exact oG
 iterate 2 all_goals try cbv; with_reducible repeat' first | exact ⟨⟩ | apply And.intro | intro _
 all_goals try exact oG
 refine lD hA rfl (pW P C) ?_; rintro _ rfl; refine ⟨⟨_, rfl⟩, ?_⟩
 iterate 2 all_goals try cbv; with_reducible repeat' first | exact ⟨⟩ | apply And.intro | intro _
 all_goals try exact oG
 iterate 2 all_goals try cbv; with_reducible repeat' first | exact ⟨⟩ | apply And.intro | intro _
 all_goals try exact oG
 refine dE hA rfl (fS C hp0 fT hy0) ?_; rintro _ _ ⟨rfl, rfl⟩; refine ⟨rfl, ?_⟩
 iterate 2 all_goals try cbv; with_reducible repeat' first | exact ⟨⟩ | apply And.intro | intro _
 all_goals try exact oG
 refine dE hA rfl (wK P C) ?_; rintro _ _ ⟨rfl, rfl⟩; refine ⟨rfl, ?_⟩
 iterate 2 all_goals try cbv; with_reducible repeat' first | exact ⟨⟩ | apply And.intro | intro _
 all_goals try exact oG
 refine lD hA rfl (eK C aD0 aAI aJH) ?_; rintro _ rfl; refine ⟨⟨_, rfl⟩, ?_⟩
 iterate 2 all_goals try cbv; with_reducible repeat' first | exact ⟨⟩ | apply And.intro | intro _
 all_goals try exact oG
 all_goals try simp only [q1, q3]
 refine ⟨_, fun _ => iX C aTO aGT, ⟨_, rfl⟩, ?_⟩
 iterate 2 all_goals try cbv; with_reducible repeat' first | exact ⟨⟩ | apply And.intro | intro _
 all_goals try exact oG
 all_goals try simp only [q1, q3]
 iterate 2 all_goals try cbv; with_reducible repeat' first | exact ⟨⟩ | apply And.intro | intro _
 all_goals try exact oG
 refine lD hA rfl (wL P C) ?_; rintro _ rfl; refine ⟨⟨_, rfl⟩, ?_⟩
 iterate 2 all_goals try cbv; with_reducible repeat' first | exact ⟨⟩ | apply And.intro | intro _
 all_goals try exact oG
 iterate 2 all_goals try cbv; with_reducible repeat' first | exact ⟨⟩ | apply And.intro | intro _
 all_goals try exact oG
 refine lD hA rfl (pW P C) ?_; rintro _ rfl; refine ⟨⟨_, rfl⟩, ?_⟩
 iterate 2 all_goals try cbv; with_reducible repeat' first | exact ⟨⟩ | apply And.intro | intro _
 all_goals try exact oG
 iterate 2 all_goals try cbv; with_reducible repeat' first | exact ⟨⟩ | apply And.intro | intro _
 all_goals try exact oG

theorem aNJ (C : Cx P gl) {l0 : List aC} {p0 : List PV} {n0 n1 : Int} {u g : Int} {v w : Bool} {r : List PV} {o : List aC} (hp0 : p0 = aB l0) (aD0 : r = aB o) (aWD : o.length ≤ 100) (hoy : ∀ y ∈ o, y.2.1.length ≤ 100)
  (rB : l0.length + tot l0 ≤ 1048576)
  (aGS : ∀ P', Cx P' gl → FS P' gl 33 [.agg [I n0, .lst p0], I n1] (· = .tup [.agg [I u, .lst r], .agg [B v, .lst [], I g], B w]))
  (wK : ∀ P', Cx P' gl → FN P' gl 34 [.agg [I n0, .lst p0], I n1] (fun own rr => own = [.tree 64 3 3 r] ∧ rr = .tup [.agg [.pv (I u), .own 0], .agg [.pv (B v), .pv (.lst []), .pv (I g)], .pv (B w)])) :
  FS P gl 7 [.agg [I n0, .lst p0], I n1] (· = B true) := by
 obtain ⟨k1, hk1⟩ : ∃ k : Int, k = if (l0.length : Int) + tot l0 ≤ (1048576 : Int) then (1048576 : Int) - l0.length - tot l0 else -1 := ⟨_, rfl⟩
 have hc1 : ((l0.length : Int) + tot l0 ≤ (1048576 : Int) ∧ k1 = (1048576 : Int) - l0.length - tot l0) ∨ ((1048576 : Int) < (l0.length : Int) + tot l0 ∧ k1 = -1) := by
  rw [hk1]; split
  ·exact .inl ⟨by assumption, rfl⟩
  ·exact .inr ⟨by omega, rfl⟩
 have hz1 : 0 ≤ k1 := by omega
 have hu1 : k1 ≤ 1048576 := by omega
 clear hc1
 have hy0 : ∀ y ∈ l0, y.2.1.length ≤ 2000000 := fun y hy => Nat.le_trans (wZ hy) (by omega)
 have aJG : ∀ y ∈ l0, y.2.1.length ≤ 9223372036854775807 := fun y hy => Nat.le_trans (hy0 y hy) (by decide)
 have ht0 : tot l0 ≤ 2000000 := by omega
 obtain ⟨a1, ha1⟩ : ∃ x, x = aB (oE l0 1) := ⟨_, rfl⟩
 obtain ⟨c1, hc1⟩ : ∃ c : Int, c = 1 + 2 * l0.length + tot l0 := ⟨_, rfl⟩
 have hcn : 0 ≤ c1 := by omega
 have fT : l0.length ≤ 2000000 := by omega
 have aAH := fun (P' : Program) (C' : Cx P' gl) => @kU P' gl C' l0 p0 a1 1 c1 n0 hp0 ha1 hc1 fT ht0 (by decide) (by decide)
 have hto : tot o ≤ 10000 := aCA hoy aWD
 obtain ⟨b1, hb1⟩ : ∃ x, x = aB (oE o 1) := ⟨_, rfl⟩
 obtain ⟨d1, hd1⟩ : ∃ c : Int, c = 1 + 2 * o.length + tot o := ⟨_, rfl⟩
 have bAC : 0 ≤ d1 := by omega
 have bAD : d1 ≤ 20000 := by omega
 have aAI : o.length ≤ 2000000 := by omega
 have aJH : ∀ y ∈ o, y.2.1.length ≤ 2000000 := fun y hy => Nat.le_trans (hoy y hy) (by decide)
 have aAJ := fun (P' : Program) (C' : Cx P' gl) => @kU P' gl C' o r b1 1 d1 u aD0 hb1 hd1 aAI (by omega) (by decide) (by decide)
 have wL := fun (P' : Program) (C' : Cx P' gl) => @rQ P' gl C' o b1 1 d1 u hb1 hd1 aAI (by omega) (by decide) (by decide)
 have aAK := fun (P' : Program) (C' : Cx P' gl) => @zJ P' gl C' d1 v g
 have pW := fun (P' : Program) (C' : Cx P' gl) => @vC P' gl C' 0 [] d1 d1 v g rfl (by simp) (by decide) (by omega) (by omega)
 refine gS C func7 rfl rfl rfl fun A hA hI => ?_
 have q1 : A.bnot true = false := by subst hA; rfl
 have q3 : ∀ x, A.pick false true x = x := fun x => by subst hA; cases x <;> rfl
 iterate 2 all_goals try cbv; with_reducible repeat' first | exact ⟨⟩ | apply And.intro | intro _
 all_goals try exact oG
 refine aD hA rfl (tM C hp0 (by omega) aJG (by decide) (by decide) hk1) ?_; rintro _ rfl
 clear hk1
 iterate 2 all_goals try cbv; with_reducible repeat' first | exact ⟨⟩ | apply And.intro | intro _
 all_goals try exact oG
 refine dE hA rfl (fS C hp0 fT hy0) ?_; rintro _ _ ⟨rfl, rfl⟩; refine ⟨rfl, ?_⟩
 iterate 2 all_goals try cbv; with_reducible repeat' first | exact ⟨⟩ | apply And.intro | intro _
 all_goals try exact oG
 refine aD hA rfl (aGS P C) ?_; rintro _ rfl
 iterate 2 all_goals try cbv; with_reducible repeat' first | exact ⟨⟩ | apply And.intro | intro _
 all_goals try exact oG
 refine dE hA rfl (fS C hp0 fT hy0) ?_; rintro _ _ ⟨rfl, rfl⟩; refine ⟨rfl, ?_⟩
 iterate 2 all_goals try cbv; with_reducible repeat' first | exact ⟨⟩ | apply And.intro | intro _
 all_goals try exact oG
 refine dE hA rfl (wK P C) ?_; rintro _ _ ⟨rfl, rfl⟩; refine ⟨rfl, ?_⟩
 iterate 2 all_goals try cbv; with_reducible repeat' first | exact ⟨⟩ | apply And.intro | intro _
 all_goals try exact oG
 refine lD hA rfl (eK C aD0 aAI aJH) ?_; rintro _ rfl; refine ⟨⟨_, rfl⟩, ?_⟩
 iterate 2 all_goals try cbv; with_reducible repeat' first | exact ⟨⟩ | apply And.intro | intro _
 all_goals try exact oG
 all_goals try simp only [q1, q3]
 refine ⟨_, fun _ => iX C (l := []) rfl (by decide), ?_⟩
 iterate 2 all_goals try cbv; with_reducible repeat' first | exact ⟨⟩ | apply And.intro | intro _
 all_goals try exact oG
 all_goals try simp only [q1, q3]
 iterate 2 all_goals try cbv; with_reducible repeat' first | exact ⟨⟩ | apply And.intro | intro _
 all_goals try exact oG
 refine ⟨_, zK C hp0 fT hy0, ?_⟩
 iterate 2 all_goals try cbv; with_reducible repeat' first | exact ⟨⟩ | apply And.intro | intro _
 all_goals try exact oG
 refine lD hA rfl (eK C hp0 fT hy0) ?_; rintro _ rfl; refine ⟨⟨_, rfl⟩, ?_⟩
 iterate 2 all_goals try cbv; with_reducible repeat' first | exact ⟨⟩ | apply And.intro | intro _
 all_goals try exact oG
 refine gO hA [4] (by decide) rfl rfl rfl (aAH P C) ?_
 rintro _ _ ⟨rfl, rfl⟩
 refine ⟨rfl, ?_⟩
 iterate 2 all_goals try cbv; with_reducible repeat' first | exact ⟨⟩ | apply And.intro | intro _
 all_goals try exact oG
 refine ⟨_, fun _ => eK C aD0 aAI aJH, ⟨_, rfl⟩, ?_⟩
 iterate 2 all_goals try cbv; with_reducible repeat' first | exact ⟨⟩ | apply And.intro | intro _
 all_goals try exact oG
 all_goals try simp only [q1, q3]
 refine ⟨_, fun _ => iX C (l := []) rfl (by decide), ?_⟩
 iterate 2 all_goals try cbv; with_reducible repeat' first | exact ⟨⟩ | apply And.intro | intro _
 all_goals try exact oG
 all_goals try simp only [q1, q3]
 iterate 2 all_goals try cbv; with_reducible repeat' first | exact ⟨⟩ | apply And.intro | intro _
 all_goals try exact oG
 refine gO hA [6] (by decide) rfl rfl rfl (aAJ P C) ?_
 rintro _ _ ⟨rfl, rfl⟩
 refine ⟨rfl, ?_⟩
 iterate 2 all_goals try cbv; with_reducible repeat' first | exact ⟨⟩ | apply And.intro | intro _
 all_goals try exact oG
 refine aD hA rfl (aAK P C) ?_; rintro _ rfl
 iterate 2 all_goals try cbv; with_reducible repeat' first | exact ⟨⟩ | apply And.intro | intro _
 all_goals try exact oG
 refine lD hA rfl (wL P C) ?_; rintro _ rfl; refine ⟨⟨_, rfl⟩, ?_⟩
 iterate 2 all_goals try cbv; with_reducible repeat' first | exact ⟨⟩ | apply And.intro | intro _
 all_goals try exact oG
 iterate 2 all_goals try cbv; with_reducible repeat' first | exact ⟨⟩ | apply And.intro | intro _
 all_goals try exact oG
 refine aD hA rfl (pW P C) ?_; rintro _ rfl
 iterate 2 all_goals try cbv; with_reducible repeat' first | exact ⟨⟩ | apply And.intro | intro _
 all_goals try exact oG
 iterate 2 all_goals try cbv; with_reducible repeat' first | exact ⟨⟩ | apply And.intro | intro _
 all_goals try exact oG
 refine dE hA rfl (fS C hp0 fT hy0) ?_; rintro _ _ ⟨rfl, rfl⟩; refine ⟨rfl, ?_⟩
 iterate 2 all_goals try cbv; with_reducible repeat' first | exact ⟨⟩ | apply And.intro | intro _
 all_goals try exact oG
 refine dE hA rfl (wK P C) ?_; rintro _ _ ⟨rfl, rfl⟩; refine ⟨rfl, ?_⟩
 iterate 2 all_goals try cbv; with_reducible repeat' first | exact ⟨⟩ | apply And.intro | intro _
 all_goals try exact oG
 refine lD hA rfl (eK C aD0 aAI aJH) ?_; rintro _ rfl; refine ⟨⟨_, rfl⟩, ?_⟩
 iterate 2 all_goals try cbv; with_reducible repeat' first | exact ⟨⟩ | apply And.intro | intro _
 all_goals try exact oG
 all_goals try simp only [q1, q3]
 refine ⟨_, fun _ => iX C (l := []) rfl (by decide), ?_⟩
 iterate 2 all_goals try cbv; with_reducible repeat' first | exact ⟨⟩ | apply And.intro | intro _
 all_goals try exact oG
 all_goals try simp only [q1, q3]
 iterate 2 all_goals try cbv; with_reducible repeat' first | exact ⟨⟩ | apply And.intro | intro _
 all_goals try exact oG
 refine lD hA rfl (wL P C) ?_; rintro _ rfl; refine ⟨⟨_, rfl⟩, ?_⟩
 iterate 2 all_goals try cbv; with_reducible repeat' first | exact ⟨⟩ | apply And.intro | intro _
 all_goals try exact oG
 iterate 2 all_goals try cbv; with_reducible repeat' first | exact ⟨⟩ | apply And.intro | intro _
 all_goals try exact oG
 refine aD hA rfl (pW P C) ?_; rintro _ rfl
 iterate 2 all_goals try cbv; with_reducible repeat' first | exact ⟨⟩ | apply And.intro | intro _
 all_goals try exact oG
 iterate 2 all_goals try cbv; with_reducible repeat' first | exact ⟨⟩ | apply And.intro | intro _
 all_goals try exact oG

theorem aCN (C : Cx P gl) {l0 : List aC} {p0 : List PV} {n0 n1 : Int} {u g : Int} {v w : Bool} (hp0 : p0 = aB l0)
  (rB : l0.length + tot l0 ≤ 1048576)
  (aGS : ∀ P', Cx P' gl → FS P' gl 33 [.agg [I n0, .lst p0], I n1] (· = .tup [.agg [I u, .lst []], .agg [B v, .lst [], I g], B w]))
  (wK : ∀ P', Cx P' gl → FS P' gl 34 [.agg [I n0, .lst p0], I n1] (· = .tup [.agg [I u, .lst []], .agg [B v, .lst [], I g], B w])) :
  FS P gl 7 [.agg [I n0, .lst p0], I n1] (· = B true) := by
 obtain ⟨k1, hk1⟩ : ∃ k : Int, k = if (l0.length : Int) + tot l0 ≤ (1048576 : Int) then (1048576 : Int) - l0.length - tot l0 else -1 := ⟨_, rfl⟩
 have hc1 : ((l0.length : Int) + tot l0 ≤ (1048576 : Int) ∧ k1 = (1048576 : Int) - l0.length - tot l0) ∨ ((1048576 : Int) < (l0.length : Int) + tot l0 ∧ k1 = -1) := by
  rw [hk1]; split
  ·exact .inl ⟨by assumption, rfl⟩
  ·exact .inr ⟨by omega, rfl⟩
 have hz1 : 0 ≤ k1 := by omega
 have hu1 : k1 ≤ 1048576 := by omega
 clear hc1
 have hy0 : ∀ y ∈ l0, y.2.1.length ≤ 2000000 := fun y hy => Nat.le_trans (wZ hy) (by omega)
 have aJG : ∀ y ∈ l0, y.2.1.length ≤ 9223372036854775807 := fun y hy => Nat.le_trans (hy0 y hy) (by decide)
 have ht0 : tot l0 ≤ 2000000 := by omega
 obtain ⟨a1, ha1⟩ : ∃ x, x = aB (oE l0 1) := ⟨_, rfl⟩
 obtain ⟨c1, hc1⟩ : ∃ c : Int, c = 1 + 2 * l0.length + tot l0 := ⟨_, rfl⟩
 have hcn : 0 ≤ c1 := by omega
 have fT : l0.length ≤ 2000000 := by omega
 have aAH := fun (P' : Program) (C' : Cx P' gl) => @kU P' gl C' l0 p0 a1 1 c1 n0 hp0 ha1 hc1 fT ht0 (by decide) (by decide)
 have aAJ := fun (P' : Program) (C' : Cx P' gl) => @aF7 P' gl C' 1 u
 have wL := fun (P' : Program) (C' : Cx P' gl) => @rQ P' gl C' [] [] 1 1 u rfl rfl (by decide) (by decide) (by decide) (by decide)
 have aAK := fun (P' : Program) (C' : Cx P' gl) => @zJ P' gl C' 1 v g
 have pW := fun (P' : Program) (C' : Cx P' gl) => @vC P' gl C' 0 [] 1 1 v g rfl (by simp) (by decide) (by decide) (by decide)
 refine gS C func7 rfl rfl rfl fun A hA hI => ?_
 have q1 : A.bnot true = false := by subst hA; rfl
 have q3 : ∀ x, A.pick false true x = x := fun x => by subst hA; cases x <;> rfl
 iterate 2 all_goals try cbv; with_reducible repeat' first | exact ⟨⟩ | apply And.intro | intro _
 all_goals try exact oG
 refine aD hA rfl (tM C hp0 (by omega) aJG (by decide) (by decide) hk1) ?_; rintro _ rfl
 clear hk1
 iterate 2 all_goals try cbv; with_reducible repeat' first | exact ⟨⟩ | apply And.intro | intro _
 all_goals try exact oG
 refine dE hA rfl (fS C hp0 fT hy0) ?_; rintro _ _ ⟨rfl, rfl⟩; refine ⟨rfl, ?_⟩
 iterate 2 all_goals try cbv; with_reducible repeat' first | exact ⟨⟩ | apply And.intro | intro _
 all_goals try exact oG
 refine aD hA rfl (aGS P C) ?_; rintro _ rfl
 iterate 2 all_goals try cbv; with_reducible repeat' first | exact ⟨⟩ | apply And.intro | intro _
 all_goals try exact oG
 refine dE hA rfl (fS C hp0 fT hy0) ?_; rintro _ _ ⟨rfl, rfl⟩; refine ⟨rfl, ?_⟩
 iterate 2 all_goals try cbv; with_reducible repeat' first | exact ⟨⟩ | apply And.intro | intro _
 all_goals try exact oG
 refine dE hA rfl (aPG (wK P C) rfl) ?_; rintro _ _ ⟨rfl, rfl⟩; refine ⟨rfl, ?_⟩
 iterate 2 all_goals try cbv; with_reducible repeat' first | exact ⟨⟩ | apply And.intro | intro _
 all_goals try exact oG
 refine aD hA rfl (eK C (ys := []) rfl (by decide) (fun _ h => by cases h)) ?_; rintro _ rfl
 iterate 2 all_goals try cbv; with_reducible repeat' first | exact ⟨⟩ | apply And.intro | intro _
 all_goals try exact oG
 all_goals try simp only [q1, q3]
 refine ⟨_, fun _ => iX C (l := []) rfl (by decide), ?_⟩
 iterate 2 all_goals try cbv; with_reducible repeat' first | exact ⟨⟩ | apply And.intro | intro _
 all_goals try exact oG
 all_goals try simp only [q1, q3]
 iterate 2 all_goals try cbv; with_reducible repeat' first | exact ⟨⟩ | apply And.intro | intro _
 all_goals try exact oG
 refine ⟨_, zK C hp0 fT hy0, ?_⟩
 iterate 2 all_goals try cbv; with_reducible repeat' first | exact ⟨⟩ | apply And.intro | intro _
 all_goals try exact oG
 refine lD hA rfl (eK C hp0 fT hy0) ?_; rintro _ rfl; refine ⟨⟨_, rfl⟩, ?_⟩
 iterate 2 all_goals try cbv; with_reducible repeat' first | exact ⟨⟩ | apply And.intro | intro _
 all_goals try exact oG
 refine gO hA [4] (by decide) rfl rfl rfl (aAH P C) ?_
 rintro _ _ ⟨rfl, rfl⟩
 refine ⟨rfl, ?_⟩
 iterate 2 all_goals try cbv; with_reducible repeat' first | exact ⟨⟩ | apply And.intro | intro _
 all_goals try exact oG
 refine ⟨_, fun _ => eK C (ys := []) rfl (by decide) (fun _ h => by cases h), ?_⟩
 iterate 2 all_goals try cbv; with_reducible repeat' first | exact ⟨⟩ | apply And.intro | intro _
 all_goals try exact oG
 all_goals try simp only [q1, q3]
 refine ⟨_, fun _ => iX C (l := []) rfl (by decide), ?_⟩
 iterate 2 all_goals try cbv; with_reducible repeat' first | exact ⟨⟩ | apply And.intro | intro _
 all_goals try exact oG
 all_goals try simp only [q1, q3]
 iterate 2 all_goals try cbv; with_reducible repeat' first | exact ⟨⟩ | apply And.intro | intro _
 all_goals try exact oG
 refine aD hA rfl (aAJ P C) ?_; rintro _ rfl
 iterate 2 all_goals try cbv; with_reducible repeat' first | exact ⟨⟩ | apply And.intro | intro _
 all_goals try exact oG
 refine aD hA rfl (aAK P C) ?_; rintro _ rfl
 iterate 2 all_goals try cbv; with_reducible repeat' first | exact ⟨⟩ | apply And.intro | intro _
 all_goals try exact oG
 refine aD hA rfl (wL P C) ?_; rintro _ rfl
 iterate 2 all_goals try cbv; with_reducible repeat' first | exact ⟨⟩ | apply And.intro | intro _
 all_goals try exact oG
 iterate 2 all_goals try cbv; with_reducible repeat' first | exact ⟨⟩ | apply And.intro | intro _
 all_goals try exact oG
 refine aD hA rfl (pW P C) ?_; rintro _ rfl
 iterate 2 all_goals try cbv; with_reducible repeat' first | exact ⟨⟩ | apply And.intro | intro _
 all_goals try exact oG
 iterate 2 all_goals try cbv; with_reducible repeat' first | exact ⟨⟩ | apply And.intro | intro _
 all_goals try exact oG
 refine dE hA rfl (fS C hp0 fT hy0) ?_; rintro _ _ ⟨rfl, rfl⟩; refine ⟨rfl, ?_⟩
 iterate 2 all_goals try cbv; with_reducible repeat' first | exact ⟨⟩ | apply And.intro | intro _
 all_goals try exact oG
 refine dE hA rfl (aPG (wK P C) rfl) ?_; rintro _ _ ⟨rfl, rfl⟩; refine ⟨rfl, ?_⟩
 iterate 2 all_goals try cbv; with_reducible repeat' first | exact ⟨⟩ | apply And.intro | intro _
 all_goals try exact oG
 refine aD hA rfl (eK C (ys := []) rfl (by decide) (fun _ h => by cases h)) ?_; rintro _ rfl
 iterate 2 all_goals try cbv; with_reducible repeat' first | exact ⟨⟩ | apply And.intro | intro _
 all_goals try exact oG
 all_goals try simp only [q1, q3]
 refine ⟨_, fun _ => iX C (l := []) rfl (by decide), ?_⟩
 iterate 2 all_goals try cbv; with_reducible repeat' first | exact ⟨⟩ | apply And.intro | intro _
 all_goals try exact oG
 all_goals try simp only [q1, q3]
 iterate 2 all_goals try cbv; with_reducible repeat' first | exact ⟨⟩ | apply And.intro | intro _
 all_goals try exact oG
 refine aD hA rfl (wL P C) ?_; rintro _ rfl
 iterate 2 all_goals try cbv; with_reducible repeat' first | exact ⟨⟩ | apply And.intro | intro _
 all_goals try exact oG
 iterate 2 all_goals try cbv; with_reducible repeat' first | exact ⟨⟩ | apply And.intro | intro _
 all_goals try exact oG
 refine aD hA rfl (pW P C) ?_; rintro _ rfl
 iterate 2 all_goals try cbv; with_reducible repeat' first | exact ⟨⟩ | apply And.intro | intro _
 all_goals try exact oG
 iterate 2 all_goals try cbv; with_reducible repeat' first | exact ⟨⟩ | apply And.intro | intro _
 all_goals try exact oG

end Tryz
end Go.Proofs
