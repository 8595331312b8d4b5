/- The walk of the law FnExactDyRoot, out of contracts of the two functions that it compares. -/
import Derived.Test.YtcbagjglchpagaaDoorHL1
import Derived.Test.YtcbagjglchpagaaDoorHL2
import Derived.Test.YtcbagjglchpagaaDoorHL3b
import Derived.Test.YtcbagjglchpagaaDoorHL4
namespace Go.Proofs
open Go Go.Pe Go.Dg
namespace Tryd
set_option linter.unusedSimpArgs false
set_option linter.unusedVariables false
variable {P : Program} {gl : List (Nat × Obj)}

set_option maxHeartbeats 4000000 in
set_option maxRecDepth 100000 in
/-- too long an argument -/
theorem lawL_fs (C : Cx P gl) {l0 : List Int} {p0 : List PV} {s0 : Bool} {e0 : Int} {n1 : Int} {n2 : Int} (hp0 : p0 = intsL l0)
    (hb_l0 : l0.length ≤ 9223372036854775807) (hbig : 1048576 < l0.length) :
    FS P gl 5 [.agg [B s0, .lst p0, I e0], I n1, I n2] (· = B true) := by
  obtain ⟨k1, hk1⟩ : ∃ k : Int, k = if (l0.length : Int) ≤ (1048576 : Int) then (1048576 : Int) - l0.length else -1 := ⟨_, rfl⟩
  have hc1 : ((l0.length : Int) ≤ (1048576 : Int) ∧ k1 = (1048576 : Int) - l0.length) ∨ ((1048576 : Int) < (l0.length : Int) ∧ k1 = -1) := by
    rw [hk1]; split
    · exact .inl ⟨by assumption, rfl⟩
    · exact .inr ⟨by omega, rfl⟩
  have hu1 : k1 ≤ 1048576 := by omega
  have hfin : k1 = -1 := by omega
  clear hc1
  obtain ⟨rfl, hG⟩ := C
  refine FS_ofT (args := fun A => [.agg [B s0, .lst p0, I e0], I n1, I n2]) (R := fun A rr => rr = B true) Tryd.hT Tryd.mix Tryd.func5 rfl rfl (Nat.le_of_ble_eq_true rfl) ?_
  generalize hP : Tryd.prog = P
  intro A hA
  have C : Tryd.Cx P gl := ⟨hP.symm, hG⟩
  have hI : intsL = A.ints := by subst hA; rfl
  iterate 2 (all_goals try cbv; all_goals repeat' (first | with_reducible exact True.intro | with_reducible refine And.intro ?_ ?_ | intro _))
  all_goals try exact oH
  refine callS hA rfl (szDy_fs C hp0 (by omega) (by decide) (by decide) hk1) ?_; rintro _ rfl
  iterate 2 (all_goals try cbv; all_goals repeat' (first | with_reducible exact True.intro | with_reducible refine And.intro ?_ ?_ | intro _))
  all_goals try exact oH
  all_goals (exfalso; rename_i g; have hz := hfin; clear hfin hk1; (subst hA; subst_vars; simp only [AR.std, natCast_eq, sH, reduceCtorEq] at *; try simp (disch := omega) only [AR.std, natCast_eq, sH, reduceCtorEq] at *); omega)

set_option maxHeartbeats 4000000 in
set_option maxRecDepth 100000 in
/-- the walk where the answer's lists are of memory of their own (o) or empty (n): o -/
theorem law_o_fs (C : Cx P gl) {l0 : List Int} {p0 : List PV} {s0 : Bool} {e0 : Int} {n1 : Int} {n2 : Int} {u : Bool} {g : Int} {r : List PV} {o : List Int} {w : Bool} (hp0 : p0 = intsL l0) (hr_r : r = intsL o) (ho_o : o.length ≤ 100)
    (hbig : l0.length ≤ 1048576)
    (hspec : ∀ P', Cx P' gl → FS P' gl 14 [.agg [B s0, .lst p0, I e0], I n1, I n2] (· = .tup [.agg [B u, .lst r, I g], B w]))
    (himpl : ∀ P', Cx P' gl → FN P' gl 16 [.agg [B s0, .lst p0, I e0], I n1, I n2] (fun own rr => own = [.row 3 1 r] ∧ rr = .tup [.agg [.pv (B u), .own 0, .pv (I g)], .pv (B w)])) :
    FS P gl 5 [.agg [B s0, .lst p0, I e0], I n1, I n2] (· = B true) := by
  obtain ⟨k1, hk1⟩ : ∃ k : Int, k = if (l0.length : Int) ≤ (1048576 : Int) then (1048576 : Int) - l0.length else -1 := ⟨_, rfl⟩
  have hc1 : ((l0.length : Int) ≤ (1048576 : Int) ∧ k1 = (1048576 : Int) - l0.length) ∨ ((1048576 : Int) < (l0.length : Int) ∧ k1 = -1) := by
    rw [hk1]; split
    · exact .inl ⟨by assumption, rfl⟩
    · exact .inr ⟨by omega, rfl⟩
  have hz1 : 0 ≤ k1 := by omega
  have hu1 : k1 ≤ 1048576 := by omega
  clear hc1
  obtain ⟨a1, ha1⟩ : ∃ x, x = intsL (up1 1 l0.length) := ⟨_, rfl⟩
  obtain ⟨c1, hc1⟩ : ∃ c : Int, c = 1 + l0.length := ⟨_, rfl⟩
  have hcn : 0 ≤ c1 := by omega
  have hb_l0 : l0.length ≤ 2000000 := by omega
  have hmark0 := fun (P' : Program) (C' : Cx P' gl) => @markDy_fx P' gl C' l0 p0 a1 1 c1 s0 e0 hp0 ha1 hc1 hb_l0 (by decide) (by decide)
  have hb_o : o.length ≤ 2000000 := by omega
  obtain ⟨b1, hb1⟩ : ∃ x, x = intsL (up1 1 o.length) := ⟨_, rfl⟩
  obtain ⟨d1, hd1⟩ : ∃ c : Int, c = 1 + o.length := ⟨_, rfl⟩
  have hdn1 : 0 ≤ d1 := by omega
  have hmarkr := fun (P' : Program) (C' : Cx P' gl) => @markDy_fx P' gl C' o r b1 1 d1 u g hr_r hb1 hd1 hb_o (by decide) (by decide)
  have hheld := fun (P' : Program) (C' : Cx P' gl) => @heldDy_fs P' gl C' o.length b1 1 d1 u g hb1 hd1 hb_o (by decide) (by decide)
  obtain ⟨rfl, hG⟩ := C
  refine FS_ofT (args := fun A => [.agg [B s0, .lst p0, I e0], I n1, I n2]) (R := fun A rr => rr = B true) Tryd.hT Tryd.mix Tryd.func5 rfl rfl (Nat.le_of_ble_eq_true rfl) ?_
  generalize hP : Tryd.prog = P
  intro A hA
  have C : Tryd.Cx P gl := ⟨hP.symm, hG⟩
  have hI : intsL = A.ints := by subst hA; rfl
  iterate 2 (all_goals try cbv; all_goals repeat' (first | with_reducible exact True.intro | with_reducible refine And.intro ?_ ?_ | intro _))
  all_goals try exact oH
  refine callS hA rfl (szDy_fs C hp0 (by omega) (by decide) (by decide) hk1) ?_; rintro _ rfl
  clear hk1
  iterate 2 (all_goals try cbv; all_goals repeat' (first | with_reducible exact True.intro | with_reducible refine And.intro ?_ ?_ | intro _))
  all_goals try exact oH
  refine callN hA rfl (toDy_fn C hp0 hb_l0) ?_; rintro _ _ ⟨rfl, rfl⟩; refine ⟨rfl, ?_⟩
  iterate 2 (all_goals try cbv; all_goals repeat' (first | with_reducible exact True.intro | with_reducible refine And.intro ?_ ?_ | intro _))
  all_goals try exact oH
  refine callS hA rfl (hspec P C) ?_; rintro _ rfl
  iterate 2 (all_goals try cbv; all_goals repeat' (first | with_reducible exact True.intro | with_reducible refine And.intro ?_ ?_ | intro _))
  all_goals try exact oH
  refine callN hA rfl (toDy_fn C hp0 hb_l0) ?_; rintro _ _ ⟨rfl, rfl⟩; refine ⟨rfl, ?_⟩
  iterate 2 (all_goals try cbv; all_goals repeat' (first | with_reducible exact True.intro | with_reducible refine And.intro ?_ ?_ | intro _))
  all_goals try exact oH
  refine callN hA rfl (himpl P C) ?_; rintro _ _ ⟨rfl, rfl⟩; refine ⟨rfl, ?_⟩
  iterate 2 (all_goals try cbv; all_goals repeat' (first | with_reducible exact True.intro | with_reducible refine And.intro ?_ ?_ | intro _))
  all_goals try exact oH
  refine callB hA rfl (eqDy_fs C hr_r hb_o) ?_; rintro _ rfl; refine ⟨⟨_, rfl⟩, ?_⟩
  iterate 2 (all_goals try cbv; all_goals repeat' (first | with_reducible exact True.intro | with_reducible refine And.intro ?_ ?_ | intro _))
  all_goals try exact oH
  refine ⟨_, toDy_fs C hp0 hb_l0, ?_⟩
  iterate 2 (all_goals try cbv; all_goals repeat' (first | with_reducible exact True.intro | with_reducible refine And.intro ?_ ?_ | intro _))
  all_goals try exact oH
  refine callB hA rfl (eqDy_fs C hp0 hb_l0) ?_; rintro _ rfl; refine ⟨⟨_, rfl⟩, ?_⟩
  iterate 2 (all_goals try cbv; all_goals repeat' (first | with_reducible exact True.intro | with_reducible refine And.intro ?_ ?_ | intro _))
  all_goals try exact oH
  refine callX hA [3] (by decide) rfl rfl rfl (hmark0 P C) ?_
  rintro _ _ ⟨rfl, rfl⟩
  refine ⟨rfl, ?_⟩
  iterate 2 (all_goals try cbv; all_goals repeat' (first | with_reducible exact True.intro | with_reducible refine And.intro ?_ ?_ | intro _))
  all_goals try exact oH
  refine ⟨_, fun _ => eqDy_fs C hr_r hb_o, ⟨_, rfl⟩, ?_⟩
  iterate 2 (all_goals try cbv; all_goals repeat' (first | with_reducible exact True.intro | with_reducible refine And.intro ?_ ?_ | intro _))
  all_goals try exact oH
  refine callX hA [5] (by decide) rfl rfl rfl (hmarkr P C) ?_
  rintro _ _ ⟨rfl, rfl⟩
  refine ⟨rfl, ?_⟩
  iterate 2 (all_goals try cbv; all_goals repeat' (first | with_reducible exact True.intro | with_reducible refine And.intro ?_ ?_ | intro _))
  all_goals try exact oH
  refine callB hA rfl (hheld P C) ?_; rintro _ rfl; refine ⟨⟨_, rfl⟩, ?_⟩
  iterate 2 (all_goals try cbv; all_goals repeat' (first | with_reducible exact True.intro | with_reducible refine And.intro ?_ ?_ | intro _))
  all_goals try exact oH
  iterate 2 (all_goals try cbv; all_goals repeat' (first | with_reducible exact True.intro | with_reducible refine And.intro ?_ ?_ | intro _))
  all_goals try exact oH
  refine callN hA rfl (toDy_fn C hp0 hb_l0) ?_; rintro _ _ ⟨rfl, rfl⟩; refine ⟨rfl, ?_⟩
  iterate 2 (all_goals try cbv; all_goals repeat' (first | with_reducible exact True.intro | with_reducible refine And.intro ?_ ?_ | intro _))
  all_goals try exact oH
  refine callN hA rfl (himpl P C) ?_; rintro _ _ ⟨rfl, rfl⟩; refine ⟨rfl, ?_⟩
  iterate 2 (all_goals try cbv; all_goals repeat' (first | with_reducible exact True.intro | with_reducible refine And.intro ?_ ?_ | intro _))
  all_goals try exact oH
  refine callB hA rfl (eqDy_fs C hr_r hb_o) ?_; rintro _ rfl; refine ⟨⟨_, rfl⟩, ?_⟩
  iterate 2 (all_goals try cbv; all_goals repeat' (first | with_reducible exact True.intro | with_reducible refine And.intro ?_ ?_ | intro _))
  all_goals try exact oH
  refine callB hA rfl (hheld P C) ?_; rintro _ rfl; refine ⟨⟨_, rfl⟩, ?_⟩
  iterate 2 (all_goals try cbv; all_goals repeat' (first | with_reducible exact True.intro | with_reducible refine And.intro ?_ ?_ | intro _))
  all_goals try exact oH
  iterate 2 (all_goals try cbv; all_goals repeat' (first | with_reducible exact True.intro | with_reducible refine And.intro ?_ ?_ | intro _))
  all_goals try exact oH

set_option maxHeartbeats 4000000 in
set_option maxRecDepth 100000 in
/-- the walk where the answer's lists are of memory of their own (o) or empty (n): n -/
theorem law_n_fs (C : Cx P gl) {l0 : List Int} {p0 : List PV} {s0 : Bool} {e0 : Int} {n1 : Int} {n2 : Int} {u : Bool} {g : Int} {w : Bool} (hp0 : p0 = intsL l0) 
    (hbig : l0.length ≤ 1048576)
    (hspec : ∀ P', Cx P' gl → FS P' gl 14 [.agg [B s0, .lst p0, I e0], I n1, I n2] (· = .tup [.agg [B u, .lst [], I g], B w]))
    (himpl : ∀ P', Cx P' gl → FS P' gl 16 [.agg [B s0, .lst p0, I e0], I n1, I n2] (· = .tup [.agg [B u, .lst [], I g], B w])) :
    FS P gl 5 [.agg [B s0, .lst p0, I e0], I n1, I n2] (· = B true) := by
  obtain ⟨k1, hk1⟩ : ∃ k : Int, k = if (l0.length : Int) ≤ (1048576 : Int) then (1048576 : Int) - l0.length else -1 := ⟨_, rfl⟩
  have hc1 : ((l0.length : Int) ≤ (1048576 : Int) ∧ k1 = (1048576 : Int) - l0.length) ∨ ((1048576 : Int) < (l0.length : Int) ∧ k1 = -1) := by
    rw [hk1]; split
    · exact .inl ⟨by assumption, rfl⟩
    · exact .inr ⟨by omega, rfl⟩
  have hz1 : 0 ≤ k1 := by omega
  have hu1 : k1 ≤ 1048576 := by omega
  clear hc1
  obtain ⟨a1, ha1⟩ : ∃ x, x = intsL (up1 1 l0.length) := ⟨_, rfl⟩
  obtain ⟨c1, hc1⟩ : ∃ c : Int, c = 1 + l0.length := ⟨_, rfl⟩
  have hcn : 0 ≤ c1 := by omega
  have hb_l0 : l0.length ≤ 2000000 := by omega
  have hmark0 := fun (P' : Program) (C' : Cx P' gl) => @markDy_fx P' gl C' l0 p0 a1 1 c1 s0 e0 hp0 ha1 hc1 hb_l0 (by decide) (by decide)
  have hmarkr := fun (P' : Program) (C' : Cx P' gl) => @markDy0_fs P' gl C' 1 u g
  have hheld := fun (P' : Program) (C' : Cx P' gl) => @heldDy_fs P' gl C' 0 [] 1 1 u g rfl rfl (by decide) (by decide) (by decide)
  obtain ⟨rfl, hG⟩ := C
  refine FS_ofT (args := fun A => [.agg [B s0, .lst p0, I e0], I n1, I n2]) (R := fun A rr => rr = B true) Tryd.hT Tryd.mix Tryd.func5 rfl rfl (Nat.le_of_ble_eq_true rfl) ?_
  generalize hP : Tryd.prog = P
  intro A hA
  have C : Tryd.Cx P gl := ⟨hP.symm, hG⟩
  have hI : intsL = A.ints := by subst hA; rfl
  iterate 2 (all_goals try cbv; all_goals repeat' (first | with_reducible exact True.intro | with_reducible refine And.intro ?_ ?_ | intro _))
  all_goals try exact oH
  refine callS hA rfl (szDy_fs C hp0 (by omega) (by decide) (by decide) hk1) ?_; rintro _ rfl
  clear hk1
  iterate 2 (all_goals try cbv; all_goals repeat' (first | with_reducible exact True.intro | with_reducible refine And.intro ?_ ?_ | intro _))
  all_goals try exact oH
  refine callN hA rfl (toDy_fn C hp0 hb_l0) ?_; rintro _ _ ⟨rfl, rfl⟩; refine ⟨rfl, ?_⟩
  iterate 2 (all_goals try cbv; all_goals repeat' (first | with_reducible exact True.intro | with_reducible refine And.intro ?_ ?_ | intro _))
  all_goals try exact oH
  refine callS hA rfl (hspec P C) ?_; rintro _ rfl
  iterate 2 (all_goals try cbv; all_goals repeat' (first | with_reducible exact True.intro | with_reducible refine And.intro ?_ ?_ | intro _))
  all_goals try exact oH
  refine callN hA rfl (toDy_fn C hp0 hb_l0) ?_; rintro _ _ ⟨rfl, rfl⟩; refine ⟨rfl, ?_⟩
  iterate 2 (all_goals try cbv; all_goals repeat' (first | with_reducible exact True.intro | with_reducible refine And.intro ?_ ?_ | intro _))
  all_goals try exact oH
  refine callN hA rfl (FN_ofS (himpl P C) rfl) ?_; rintro _ _ ⟨rfl, rfl⟩; refine ⟨rfl, ?_⟩
  iterate 2 (all_goals try cbv; all_goals repeat' (first | with_reducible exact True.intro | with_reducible refine And.intro ?_ ?_ | intro _))
  all_goals try exact oH
  refine callS hA rfl (eqDy_fs C (l := []) rfl (by decide)) ?_; rintro _ rfl
  iterate 2 (all_goals try cbv; all_goals repeat' (first | with_reducible exact True.intro | with_reducible refine And.intro ?_ ?_ | intro _))
  all_goals try exact oH
  refine ⟨_, toDy_fs C hp0 hb_l0, ?_⟩
  iterate 2 (all_goals try cbv; all_goals repeat' (first | with_reducible exact True.intro | with_reducible refine And.intro ?_ ?_ | intro _))
  all_goals try exact oH
  refine callB hA rfl (eqDy_fs C hp0 hb_l0) ?_; rintro _ rfl; refine ⟨⟨_, rfl⟩, ?_⟩
  iterate 2 (all_goals try cbv; all_goals repeat' (first | with_reducible exact True.intro | with_reducible refine And.intro ?_ ?_ | intro _))
  all_goals try exact oH
  refine callX hA [3] (by decide) rfl rfl rfl (hmark0 P C) ?_
  rintro _ _ ⟨rfl, rfl⟩
  refine ⟨rfl, ?_⟩
  iterate 2 (all_goals try cbv; all_goals repeat' (first | with_reducible exact True.intro | with_reducible refine And.intro ?_ ?_ | intro _))
  all_goals try exact oH
  refine ⟨_, fun _ => eqDy_fs C (l := []) rfl (by decide), ?_⟩
  iterate 2 (all_goals try cbv; all_goals repeat' (first | with_reducible exact True.intro | with_reducible refine And.intro ?_ ?_ | intro _))
  all_goals try exact oH
  refine callS hA rfl (hmarkr P C) ?_; rintro _ rfl
  iterate 2 (all_goals try cbv; all_goals repeat' (first | with_reducible exact True.intro | with_reducible refine And.intro ?_ ?_ | intro _))
  all_goals try exact oH
  refine callS hA rfl (hheld P C) ?_; rintro _ rfl
  iterate 2 (all_goals try cbv; all_goals repeat' (first | with_reducible exact True.intro | with_reducible refine And.intro ?_ ?_ | intro _))
  all_goals try exact oH
  iterate 2 (all_goals try cbv; all_goals repeat' (first | with_reducible exact True.intro | with_reducible refine And.intro ?_ ?_ | intro _))
  all_goals try exact oH
  refine callN hA rfl (toDy_fn C hp0 hb_l0) ?_; rintro _ _ ⟨rfl, rfl⟩; refine ⟨rfl, ?_⟩
  iterate 2 (all_goals try cbv; all_goals repeat' (first | with_reducible exact True.intro | with_reducible refine And.intro ?_ ?_ | intro _))
  all_goals try exact oH
  refine callN hA rfl (FN_ofS (himpl P C) rfl) ?_; rintro _ _ ⟨rfl, rfl⟩; refine ⟨rfl, ?_⟩
  iterate 2 (all_goals try cbv; all_goals repeat' (first | with_reducible exact True.intro | with_reducible refine And.intro ?_ ?_ | intro _))
  all_goals try exact oH
  refine callS hA rfl (eqDy_fs C (l := []) rfl (by decide)) ?_; rintro _ rfl
  iterate 2 (all_goals try cbv; all_goals repeat' (first | with_reducible exact True.intro | with_reducible refine And.intro ?_ ?_ | intro _))
  all_goals try exact oH
  refine callS hA rfl (hheld P C) ?_; rintro _ rfl
  iterate 2 (all_goals try cbv; all_goals repeat' (first | with_reducible exact True.intro | with_reducible refine And.intro ?_ ?_ | intro _))
  all_goals try exact oH
  iterate 2 (all_goals try cbv; all_goals repeat' (first | with_reducible exact True.intro | with_reducible refine And.intro ?_ ?_ | intro _))
  all_goals try exact oH

end Tryd
end Go.Proofs
