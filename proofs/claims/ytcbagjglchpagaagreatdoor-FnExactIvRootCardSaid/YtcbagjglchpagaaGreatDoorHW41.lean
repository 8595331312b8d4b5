/- The walk of the law FnExactIvRoot, out of contracts of the two functions that it compares. -/
import Derived.Test.YtcbagjglchpagaaGreatDoorHL1
import Derived.Test.YtcbagjglchpagaaGreatDoorHL2
import Derived.Test.YtcbagjglchpagaaGreatDoorHL3b
import Derived.Test.YtcbagjglchpagaaGreatDoorHL5
namespace Go.Proofs
open Go Go.Pe Go.Dg
namespace Tryz
set_option linter.unusedSimpArgs false
set_option linter.unusedVariables false
variable {P : Program} {gl : List (Nat × Obj)}

set_option maxHeartbeats 4000000 in
set_option maxRecDepth 100000 in
/-- too long an argument -/
theorem lawL_fs (C : Cx P gl) {l0 m0 : List Int} {p0 q0 : List PV} {s0 t0 : Bool} {e0 f0 : Int} {n1 : Int} (hp0 : p0 = intsL l0) (hq0 : q0 = intsL m0)
    (hb_l0 : l0.length ≤ 9223372036854775807) (hb_m0 : m0.length ≤ 9223372036854775807) (hbig : 1048576 < l0.length + m0.length) :
    FS P gl 4 [.agg [B s0, .lst p0, I e0, B t0, .lst q0, I f0], I n1] (· = B true) := by
  obtain ⟨k1, hk1⟩ : ∃ k : Int, k = if (l0.length : Int) + m0.length ≤ (1048576 : Int) then (1048576 : Int) - l0.length - m0.length else -1 := ⟨_, rfl⟩
  have hc1 : ((l0.length : Int) + m0.length ≤ (1048576 : Int) ∧ k1 = (1048576 : Int) - l0.length - m0.length) ∨ ((1048576 : Int) < (l0.length : Int) + m0.length ∧ k1 = -1) := by
    rw [hk1]; split
    · exact .inl ⟨by assumption, rfl⟩
    · exact .inr ⟨by omega, rfl⟩
  have hu1 : k1 ≤ 1048576 := by omega
  have hfin : k1 = -1 := by omega
  clear hc1
  obtain ⟨rfl, hG⟩ := C
  refine FS_ofT (args := fun A => [.agg [B s0, .lst p0, I e0, B t0, .lst q0, I f0], I n1]) (R := fun A rr => rr = B true) Tryz.hT Tryz.mix Tryz.func4 rfl rfl (Nat.le_of_ble_eq_true rfl) ?_
  generalize hP : Tryz.prog = P
  intro A hA
  have C : Tryz.Cx P gl := ⟨hP.symm, hG⟩
  have hI : intsL = A.ints := by subst hA; rfl
  iterate 2 (all_goals try cbv; all_goals repeat' (first | with_reducible exact True.intro | with_reducible refine And.intro ?_ ?_ | intro _))
  all_goals try exact oH
  refine callS hA rfl (szIv_fs C hp0 hq0 (by omega) (by omega) (by decide) (by decide) hk1) ?_; rintro _ rfl
  iterate 2 (all_goals try cbv; all_goals repeat' (first | with_reducible exact True.intro | with_reducible refine And.intro ?_ ?_ | intro _))
  all_goals try exact oH
  all_goals (exfalso; rename_i g; have hz := hfin; clear hfin hk1; (subst hA; subst_vars; simp only [AR.std, natCast_eq, sH, reduceCtorEq] at *; try simp (disch := omega) only [AR.std, natCast_eq, sH, reduceCtorEq] at *); omega)

set_option maxHeartbeats 4000000 in
set_option maxRecDepth 100000 in
/-- the walk where the answer's lists are of memory of their own (o) or empty (n): oo -/
theorem law_oo_fs (C : Cx P gl) {l0 m0 : List Int} {p0 q0 : List PV} {s0 t0 : Bool} {e0 f0 : Int} {n1 : Int} {u : Bool} {g : Int} {r : List PV} {o : List Int} {v : Bool} {h : Int} {x : List PV} {w_ : List Int} {w : Bool} (hp0 : p0 = intsL l0) (hq0 : q0 = intsL m0) (hr_r : r = intsL o) (ho_o : o.length ≤ 100) (hr_x : x = intsL w_) (ho_w_ : w_.length ≤ 100)
    (hbig : l0.length + m0.length ≤ 1048576)
    (hspec : ∀ P', Cx P' gl → FS P' gl 18 [.agg [B s0, .lst p0, I e0, B t0, .lst q0, I f0], I n1] (· = .tup [.agg [B u, .lst r, I g, B v, .lst x, I h], B w]))
    (himpl : ∀ P', Cx P' gl → FN P' gl 19 [.agg [B s0, .lst p0, I e0, B t0, .lst q0, I f0], I n1] (fun own rr => own = [.row 3 1 r, .row 3 1 x] ∧ rr = .tup [.agg [.pv (B u), .own 0, .pv (I g), .pv (B v), .own 1, .pv (I h)], .pv (B w)])) :
    FS P gl 4 [.agg [B s0, .lst p0, I e0, B t0, .lst q0, I f0], I n1] (· = B true) := by
  obtain ⟨k1, hk1⟩ : ∃ k : Int, k = if (l0.length : Int) + m0.length ≤ (1048576 : Int) then (1048576 : Int) - l0.length - m0.length else -1 := ⟨_, rfl⟩
  have hc1 : ((l0.length : Int) + m0.length ≤ (1048576 : Int) ∧ k1 = (1048576 : Int) - l0.length - m0.length) ∨ ((1048576 : Int) < (l0.length : Int) + m0.length ∧ k1 = -1) := by
    rw [hk1]; split
    · exact .inl ⟨by assumption, rfl⟩
    · exact .inr ⟨by omega, rfl⟩
  have hz1 : 0 ≤ k1 := by omega
  have hu1 : k1 ≤ 1048576 := by omega
  clear hc1
  obtain ⟨a1, ha1⟩ : ∃ x, x = intsL (up1 1 l0.length) := ⟨_, rfl⟩
  obtain ⟨c1, hc1⟩ : ∃ c : Int, c = 1 + l0.length := ⟨_, rfl⟩
  obtain ⟨a2, ha2⟩ : ∃ x, x = intsL (up1 c1 m0.length) := ⟨_, rfl⟩
  obtain ⟨c2, hc2⟩ : ∃ c : Int, c = c1 + m0.length := ⟨_, rfl⟩
  have hcn : 0 ≤ c2 := by omega
  have hb_l0 : l0.length ≤ 2000000 := by omega
  have hb_m0 : m0.length ≤ 2000000 := by omega
  have hmark0 := fun (P' : Program) (C' : Cx P' gl) => @markIv_fx P' gl C' l0 m0 p0 q0 a1 a2 1 c1 c2 s0 t0 e0 f0 hp0 ha1 hc1 hq0 ha2 hc2 hb_l0 hb_m0 (by decide) (by decide)
  have hb_o : o.length ≤ 2000000 := by omega
  obtain ⟨b1, hb1⟩ : ∃ x, x = intsL (up1 1 o.length) := ⟨_, rfl⟩
  obtain ⟨d1, hd1⟩ : ∃ c : Int, c = 1 + o.length := ⟨_, rfl⟩
  have hdn1 : 0 ≤ d1 := by omega
  have hb_w_ : w_.length ≤ 2000000 := by omega
  obtain ⟨b2, hb2⟩ : ∃ x, x = intsL (up1 d1 w_.length) := ⟨_, rfl⟩
  obtain ⟨d2, hd2⟩ : ∃ c : Int, c = d1 + w_.length := ⟨_, rfl⟩
  have hdn2 : 0 ≤ d2 := by omega
  have hheld := fun (P' : Program) (C' : Cx P' gl) => @heldIv_fs P' gl C' o.length w_.length b1 b2 1 d1 d2 u v g h hb1 hd1 hb2 hd2 hb_o hb_w_ (by decide) (by decide)
  have hmarkr := fun (P' : Program) (C' : Cx P' gl) => @markIv_fx P' gl C' o w_ r x b1 b2 1 d1 d2 u v g h hr_r hb1 hd1 hr_x hb2 hd2 hb_o hb_w_ (by decide) (by decide)
  obtain ⟨rfl, hG⟩ := C
  refine FS_ofT (args := fun A => [.agg [B s0, .lst p0, I e0, B t0, .lst q0, I f0], I n1]) (R := fun A rr => rr = B true) Tryz.hT Tryz.mix Tryz.func4 rfl rfl (Nat.le_of_ble_eq_true rfl) ?_
  generalize hP : Tryz.prog = P
  intro A hA
  have C : Tryz.Cx P gl := ⟨hP.symm, hG⟩
  have hI : intsL = A.ints := by subst hA; rfl
  iterate 2 (all_goals try cbv; all_goals repeat' (first | with_reducible exact True.intro | with_reducible refine And.intro ?_ ?_ | intro _))
  all_goals try exact oH
  refine callS hA rfl (szIv_fs C hp0 hq0 (by omega) (by omega) (by decide) (by decide) hk1) ?_; rintro _ rfl
  clear hk1
  iterate 2 (all_goals try cbv; all_goals repeat' (first | with_reducible exact True.intro | with_reducible refine And.intro ?_ ?_ | intro _))
  all_goals try exact oH
  refine callN hA rfl (toIv_fn C hp0 hq0 hb_l0 hb_m0) ?_; rintro _ _ ⟨rfl, rfl⟩; refine ⟨rfl, ?_⟩
  iterate 2 (all_goals try cbv; all_goals repeat' (first | with_reducible exact True.intro | with_reducible refine And.intro ?_ ?_ | intro _))
  all_goals try exact oH
  refine callS hA rfl (hspec P C) ?_; rintro _ rfl
  iterate 2 (all_goals try cbv; all_goals repeat' (first | with_reducible exact True.intro | with_reducible refine And.intro ?_ ?_ | intro _))
  all_goals try exact oH
  refine callN hA rfl (toIv_fn C hp0 hq0 hb_l0 hb_m0) ?_; rintro _ _ ⟨rfl, rfl⟩; refine ⟨rfl, ?_⟩
  iterate 2 (all_goals try cbv; all_goals repeat' (first | with_reducible exact True.intro | with_reducible refine And.intro ?_ ?_ | intro _))
  all_goals try exact oH
  refine callN hA rfl (himpl P C) ?_; rintro _ _ ⟨rfl, rfl⟩; refine ⟨rfl, ?_⟩
  iterate 2 (all_goals try cbv; all_goals repeat' (first | with_reducible exact True.intro | with_reducible refine And.intro ?_ ?_ | intro _))
  all_goals try exact oH
  refine callB hA rfl (eqIv_fs C (l := o) (m := w_) hr_r hr_x hb_o hb_w_) ?_; rintro _ rfl; refine ⟨⟨_, rfl⟩, ?_⟩
  iterate 2 (all_goals try cbv; all_goals repeat' (first | with_reducible exact True.intro | with_reducible refine And.intro ?_ ?_ | intro _))
  all_goals try exact oH
  refine ⟨_, toIv_fs C hp0 hq0 hb_l0 hb_m0, ?_⟩
  iterate 2 (all_goals try cbv; all_goals repeat' (first | with_reducible exact True.intro | with_reducible refine And.intro ?_ ?_ | intro _))
  all_goals try exact oH
  refine callB hA rfl (eqIv_fs C hp0 hq0 hb_l0 hb_m0) ?_; rintro _ rfl; refine ⟨⟨_, rfl⟩, ?_⟩
  iterate 2 (all_goals try cbv; all_goals repeat' (first | with_reducible exact True.intro | with_reducible refine And.intro ?_ ?_ | intro _))
  all_goals try exact oH
  refine callX hA [4, 5] (by decide) rfl rfl rfl (hmark0 P C) ?_
  rintro _ _ ⟨rfl, rfl⟩
  refine ⟨rfl, ?_⟩
  iterate 2 (all_goals try cbv; all_goals repeat' (first | with_reducible exact True.intro | with_reducible refine And.intro ?_ ?_ | intro _))
  all_goals try exact oH
  refine ⟨_, fun _ => eqIv_fs C (l := o) (m := w_) hr_r hr_x hb_o hb_w_, ⟨_, rfl⟩, ?_⟩
  iterate 2 (all_goals try cbv; all_goals repeat' (first | with_reducible exact True.intro | with_reducible refine And.intro ?_ ?_ | intro _))
  all_goals try exact oH
  refine callX hA [7, 8] (by decide) rfl rfl rfl (hmarkr P C) ?_
  rintro _ _ ⟨rfl, rfl⟩
  refine ⟨rfl, ?_⟩
  iterate 2 (all_goals try cbv; all_goals repeat' (first | with_reducible exact True.intro | with_reducible refine And.intro ?_ ?_ | intro _))
  all_goals try exact oH
  refine callB hA rfl (hheld P C) ?_; rintro _ rfl; refine ⟨⟨_, rfl⟩, ?_⟩
  iterate 2 (all_goals try cbv; all_goals repeat' (first | with_reducible exact True.intro | with_reducible refine And.intro ?_ ?_ | intro _))
  all_goals try exact oH
  iterate 2 (all_goals try cbv; all_goals repeat' (first | with_reducible exact True.intro | with_reducible refine And.intro ?_ ?_ | intro _))
  all_goals try exact oH
  refine callN hA rfl (toIv_fn C hp0 hq0 hb_l0 hb_m0) ?_; rintro _ _ ⟨rfl, rfl⟩; refine ⟨rfl, ?_⟩
  iterate 2 (all_goals try cbv; all_goals repeat' (first | with_reducible exact True.intro | with_reducible refine And.intro ?_ ?_ | intro _))
  all_goals try exact oH
  refine callN hA rfl (himpl P C) ?_; rintro _ _ ⟨rfl, rfl⟩; refine ⟨rfl, ?_⟩
  iterate 2 (all_goals try cbv; all_goals repeat' (first | with_reducible exact True.intro | with_reducible refine And.intro ?_ ?_ | intro _))
  all_goals try exact oH
  refine callB hA rfl (eqIv_fs C (l := o) (m := w_) hr_r hr_x hb_o hb_w_) ?_; rintro _ rfl; refine ⟨⟨_, rfl⟩, ?_⟩
  iterate 2 (all_goals try cbv; all_goals repeat' (first | with_reducible exact True.intro | with_reducible refine And.intro ?_ ?_ | intro _))
  all_goals try exact oH
  refine callB hA rfl (hheld P C) ?_; rintro _ rfl; refine ⟨⟨_, rfl⟩, ?_⟩
  iterate 2 (all_goals try cbv; all_goals repeat' (first | with_reducible exact True.intro | with_reducible refine And.intro ?_ ?_ | intro _))
  all_goals try exact oH
  iterate 2 (all_goals try cbv; all_goals repeat' (first | with_reducible exact True.intro | with_reducible refine And.intro ?_ ?_ | intro _))
  all_goals try exact oH

set_option maxHeartbeats 4000000 in
set_option maxRecDepth 100000 in
/-- the walk where the answer's lists are of memory of their own (o) or empty (n): on -/
theorem law_on_fs (C : Cx P gl) {l0 m0 : List Int} {p0 q0 : List PV} {s0 t0 : Bool} {e0 f0 : Int} {n1 : Int} {u : Bool} {g : Int} {r : List PV} {o : List Int} {v : Bool} {h : Int} {w : Bool} (hp0 : p0 = intsL l0) (hq0 : q0 = intsL m0) (hr_r : r = intsL o) (ho_o : o.length ≤ 100)
    (hbig : l0.length + m0.length ≤ 1048576)
    (hspec : ∀ P', Cx P' gl → FS P' gl 18 [.agg [B s0, .lst p0, I e0, B t0, .lst q0, I f0], I n1] (· = .tup [.agg [B u, .lst r, I g, B v, .lst [], I h], B w]))
    (himpl : ∀ P', Cx P' gl → FN P' gl 19 [.agg [B s0, .lst p0, I e0, B t0, .lst q0, I f0], I n1] (fun own rr => own = [.row 3 1 r] ∧ rr = .tup [.agg [.pv (B u), .own 0, .pv (I g), .pv (B v), .pv (.lst []), .pv (I h)], .pv (B w)])) :
    FS P gl 4 [.agg [B s0, .lst p0, I e0, B t0, .lst q0, I f0], I n1] (· = B true) := by
  obtain ⟨k1, hk1⟩ : ∃ k : Int, k = if (l0.length : Int) + m0.length ≤ (1048576 : Int) then (1048576 : Int) - l0.length - m0.length else -1 := ⟨_, rfl⟩
  have hc1 : ((l0.length : Int) + m0.length ≤ (1048576 : Int) ∧ k1 = (1048576 : Int) - l0.length - m0.length) ∨ ((1048576 : Int) < (l0.length : Int) + m0.length ∧ k1 = -1) := by
    rw [hk1]; split
    · exact .inl ⟨by assumption, rfl⟩
    · exact .inr ⟨by omega, rfl⟩
  have hz1 : 0 ≤ k1 := by omega
  have hu1 : k1 ≤ 1048576 := by omega
  clear hc1
  obtain ⟨a1, ha1⟩ : ∃ x, x = intsL (up1 1 l0.length) := ⟨_, rfl⟩
  obtain ⟨c1, hc1⟩ : ∃ c : Int, c = 1 + l0.length := ⟨_, rfl⟩
  obtain ⟨a2, ha2⟩ : ∃ x, x = intsL (up1 c1 m0.length) := ⟨_, rfl⟩
  obtain ⟨c2, hc2⟩ : ∃ c : Int, c = c1 + m0.length := ⟨_, rfl⟩
  have hcn : 0 ≤ c2 := by omega
  have hb_l0 : l0.length ≤ 2000000 := by omega
  have hb_m0 : m0.length ≤ 2000000 := by omega
  have hmark0 := fun (P' : Program) (C' : Cx P' gl) => @markIv_fx P' gl C' l0 m0 p0 q0 a1 a2 1 c1 c2 s0 t0 e0 f0 hp0 ha1 hc1 hq0 ha2 hc2 hb_l0 hb_m0 (by decide) (by decide)
  have hb_o : o.length ≤ 2000000 := by omega
  obtain ⟨b1, hb1⟩ : ∃ x, x = intsL (up1 1 o.length) := ⟨_, rfl⟩
  obtain ⟨d1, hd1⟩ : ∃ c : Int, c = 1 + o.length := ⟨_, rfl⟩
  have hdn1 : 0 ≤ d1 := by omega
  have hheld := fun (P' : Program) (C' : Cx P' gl) => @heldIv_fs P' gl C' o.length 0 b1 [] 1 d1 d1 u v g h hb1 hd1 rfl (by simp) hb_o (by decide) (by decide) (by decide)
  have hmarkr := fun (P' : Program) (C' : Cx P' gl) => @markIv_on_fx P' gl C' o r b1 1 d1 u v g h hr_r hb1 hd1 hb_o (by decide) (by decide)
  obtain ⟨rfl, hG⟩ := C
  refine FS_ofT (args := fun A => [.agg [B s0, .lst p0, I e0, B t0, .lst q0, I f0], I n1]) (R := fun A rr => rr = B true) Tryz.hT Tryz.mix Tryz.func4 rfl rfl (Nat.le_of_ble_eq_true rfl) ?_
  generalize hP : Tryz.prog = P
  intro A hA
  have C : Tryz.Cx P gl := ⟨hP.symm, hG⟩
  have hI : intsL = A.ints := by subst hA; rfl
  iterate 2 (all_goals try cbv; all_goals repeat' (first | with_reducible exact True.intro | with_reducible refine And.intro ?_ ?_ | intro _))
  all_goals try exact oH
  refine callS hA rfl (szIv_fs C hp0 hq0 (by omega) (by omega) (by decide) (by decide) hk1) ?_; rintro _ rfl
  clear hk1
  iterate 2 (all_goals try cbv; all_goals repeat' (first | with_reducible exact True.intro | with_reducible refine And.intro ?_ ?_ | intro _))
  all_goals try exact oH
  refine callN hA rfl (toIv_fn C hp0 hq0 hb_l0 hb_m0) ?_; rintro _ _ ⟨rfl, rfl⟩; refine ⟨rfl, ?_⟩
  iterate 2 (all_goals try cbv; all_goals repeat' (first | with_reducible exact True.intro | with_reducible refine And.intro ?_ ?_ | intro _))
  all_goals try exact oH
  refine callS hA rfl (hspec P C) ?_; rintro _ rfl
  iterate 2 (all_goals try cbv; all_goals repeat' (first | with_reducible exact True.intro | with_reducible refine And.intro ?_ ?_ | intro _))
  all_goals try exact oH
  refine callN hA rfl (toIv_fn C hp0 hq0 hb_l0 hb_m0) ?_; rintro _ _ ⟨rfl, rfl⟩; refine ⟨rfl, ?_⟩
  iterate 2 (all_goals try cbv; all_goals repeat' (first | with_reducible exact True.intro | with_reducible refine And.intro ?_ ?_ | intro _))
  all_goals try exact oH
  refine callN hA rfl (himpl P C) ?_; rintro _ _ ⟨rfl, rfl⟩; refine ⟨rfl, ?_⟩
  iterate 2 (all_goals try cbv; all_goals repeat' (first | with_reducible exact True.intro | with_reducible refine And.intro ?_ ?_ | intro _))
  all_goals try exact oH
  refine callB hA rfl (eqIv_fs C (l := o) (m := []) hr_r rfl hb_o (by decide)) ?_; rintro _ rfl; refine ⟨⟨_, rfl⟩, ?_⟩
  iterate 2 (all_goals try cbv; all_goals repeat' (first | with_reducible exact True.intro | with_reducible refine And.intro ?_ ?_ | intro _))
  all_goals try exact oH
  refine ⟨_, toIv_fs C hp0 hq0 hb_l0 hb_m0, ?_⟩
  iterate 2 (all_goals try cbv; all_goals repeat' (first | with_reducible exact True.intro | with_reducible refine And.intro ?_ ?_ | intro _))
  all_goals try exact oH
  refine callB hA rfl (eqIv_fs C hp0 hq0 hb_l0 hb_m0) ?_; rintro _ rfl; refine ⟨⟨_, rfl⟩, ?_⟩
  iterate 2 (all_goals try cbv; all_goals repeat' (first | with_reducible exact True.intro | with_reducible refine And.intro ?_ ?_ | intro _))
  all_goals try exact oH
  refine callX hA [4, 5] (by decide) rfl rfl rfl (hmark0 P C) ?_
  rintro _ _ ⟨rfl, rfl⟩
  refine ⟨rfl, ?_⟩
  iterate 2 (all_goals try cbv; all_goals repeat' (first | with_reducible exact True.intro | with_reducible refine And.intro ?_ ?_ | intro _))
  all_goals try exact oH
  refine ⟨_, fun _ => eqIv_fs C (l := o) (m := []) hr_r rfl hb_o (by decide), ⟨_, rfl⟩, ?_⟩
  iterate 2 (all_goals try cbv; all_goals repeat' (first | with_reducible exact True.intro | with_reducible refine And.intro ?_ ?_ | intro _))
  all_goals try exact oH
  refine callX hA [7] (by decide) rfl rfl rfl (hmarkr P C) ?_
  rintro _ _ ⟨rfl, rfl⟩
  refine ⟨rfl, ?_⟩
  iterate 2 (all_goals try cbv; all_goals repeat' (first | with_reducible exact True.intro | with_reducible refine And.intro ?_ ?_ | intro _))
  all_goals try exact oH
  refine callB hA rfl (hheld P C) ?_; rintro _ rfl; refine ⟨⟨_, rfl⟩, ?_⟩
  iterate 2 (all_goals try cbv; all_goals repeat' (first | with_reducible exact True.intro | with_reducible refine And.intro ?_ ?_ | intro _))
  all_goals try exact oH
  iterate 2 (all_goals try cbv; all_goals repeat' (first | with_reducible exact True.intro | with_reducible refine And.intro ?_ ?_ | intro _))
  all_goals try exact oH
  refine callN hA rfl (toIv_fn C hp0 hq0 hb_l0 hb_m0) ?_; rintro _ _ ⟨rfl, rfl⟩; refine ⟨rfl, ?_⟩
  iterate 2 (all_goals try cbv; all_goals repeat' (first | with_reducible exact True.intro | with_reducible refine And.intro ?_ ?_ | intro _))
  all_goals try exact oH
  refine callN hA rfl (himpl P C) ?_; rintro _ _ ⟨rfl, rfl⟩; refine ⟨rfl, ?_⟩
  iterate 2 (all_goals try cbv; all_goals repeat' (first | with_reducible exact True.intro | with_reducible refine And.intro ?_ ?_ | intro _))
  all_goals try exact oH
  refine callB hA rfl (eqIv_fs C (l := o) (m := []) hr_r rfl hb_o (by decide)) ?_; rintro _ rfl; refine ⟨⟨_, rfl⟩, ?_⟩
  iterate 2 (all_goals try cbv; all_goals repeat' (first | with_reducible exact True.intro | with_reducible refine And.intro ?_ ?_ | intro _))
  all_goals try exact oH
  refine callB hA rfl (hheld P C) ?_; rintro _ rfl; refine ⟨⟨_, rfl⟩, ?_⟩
  iterate 2 (all_goals try cbv; all_goals repeat' (first | with_reducible exact True.intro | with_reducible refine And.intro ?_ ?_ | intro _))
  all_goals try exact oH
  iterate 2 (all_goals try cbv; all_goals repeat' (first | with_reducible exact True.intro | with_reducible refine And.intro ?_ ?_ | intro _))
  all_goals try exact oH

set_option maxHeartbeats 4000000 in
set_option maxRecDepth 100000 in
/-- the walk where the answer's lists are of memory of their own (o) or empty (n): no -/
theorem law_no_fs (C : Cx P gl) {l0 m0 : List Int} {p0 q0 : List PV} {s0 t0 : Bool} {e0 f0 : Int} {n1 : Int} {u : Bool} {g : Int} {v : Bool} {h : Int} {x : List PV} {w_ : List Int} {w : Bool} (hp0 : p0 = intsL l0) (hq0 : q0 = intsL m0) (hr_x : x = intsL w_) (ho_w_ : w_.length ≤ 100)
    (hbig : l0.length + m0.length ≤ 1048576)
    (hspec : ∀ P', Cx P' gl → FS P' gl 18 [.agg [B s0, .lst p0, I e0, B t0, .lst q0, I f0], I n1] (· = .tup [.agg [B u, .lst [], I g, B v, .lst x, I h], B w]))
    (himpl : ∀ P', Cx P' gl → FN P' gl 19 [.agg [B s0, .lst p0, I e0, B t0, .lst q0, I f0], I n1] (fun own rr => own = [.row 3 1 x] ∧ rr = .tup [.agg [.pv (B u), .pv (.lst []), .pv (I g), .pv (B v), .own 0, .pv (I h)], .pv (B w)])) :
    FS P gl 4 [.agg [B s0, .lst p0, I e0, B t0, .lst q0, I f0], I n1] (· = B true) := by
  obtain ⟨k1, hk1⟩ : ∃ k : Int, k = if (l0.length : Int) + m0.length ≤ (1048576 : Int) then (1048576 : Int) - l0.length - m0.length else -1 := ⟨_, rfl⟩
  have hc1 : ((l0.length : Int) + m0.length ≤ (1048576 : Int) ∧ k1 = (1048576 : Int) - l0.length - m0.length) ∨ ((1048576 : Int) < (l0.length : Int) + m0.length ∧ k1 = -1) := by
    rw [hk1]; split
    · exact .inl ⟨by assumption, rfl⟩
    · exact .inr ⟨by omega, rfl⟩
  have hz1 : 0 ≤ k1 := by omega
  have hu1 : k1 ≤ 1048576 := by omega
  clear hc1
  obtain ⟨a1, ha1⟩ : ∃ x, x = intsL (up1 1 l0.length) := ⟨_, rfl⟩
  obtain ⟨c1, hc1⟩ : ∃ c : Int, c = 1 + l0.length := ⟨_, rfl⟩
  obtain ⟨a2, ha2⟩ : ∃ x, x = intsL (up1 c1 m0.length) := ⟨_, rfl⟩
  obtain ⟨c2, hc2⟩ : ∃ c : Int, c = c1 + m0.length := ⟨_, rfl⟩
  have hcn : 0 ≤ c2 := by omega
  have hb_l0 : l0.length ≤ 2000000 := by omega
  have hb_m0 : m0.length ≤ 2000000 := by omega
  have hmark0 := fun (P' : Program) (C' : Cx P' gl) => @markIv_fx P' gl C' l0 m0 p0 q0 a1 a2 1 c1 c2 s0 t0 e0 f0 hp0 ha1 hc1 hq0 ha2 hc2 hb_l0 hb_m0 (by decide) (by decide)
  have hb_w_ : w_.length ≤ 2000000 := by omega
  obtain ⟨b1, hb1⟩ : ∃ x, x = intsL (up1 1 w_.length) := ⟨_, rfl⟩
  obtain ⟨d1, hd1⟩ : ∃ c : Int, c = 1 + w_.length := ⟨_, rfl⟩
  have hdn1 : 0 ≤ d1 := by omega
  have hheld := fun (P' : Program) (C' : Cx P' gl) => @heldIv_fs P' gl C' 0 w_.length [] b1 1 1 d1 u v g h rfl (by simp) hb1 hd1 (by decide) hb_w_ (by decide) (by decide)
  have hmarkr := fun (P' : Program) (C' : Cx P' gl) => @markIv_no_fx P' gl C' w_ x b1 1 d1 u v g h hr_x hb1 hd1 hb_w_ (by decide) (by decide)
  obtain ⟨rfl, hG⟩ := C
  refine FS_ofT (args := fun A => [.agg [B s0, .lst p0, I e0, B t0, .lst q0, I f0], I n1]) (R := fun A rr => rr = B true) Tryz.hT Tryz.mix Tryz.func4 rfl rfl (Nat.le_of_ble_eq_true rfl) ?_
  generalize hP : Tryz.prog = P
  intro A hA
  have C : Tryz.Cx P gl := ⟨hP.symm, hG⟩
  have hI : intsL = A.ints := by subst hA; rfl
  iterate 2 (all_goals try cbv; all_goals repeat' (first | with_reducible exact True.intro | with_reducible refine And.intro ?_ ?_ | intro _))
  all_goals try exact oH
  refine callS hA rfl (szIv_fs C hp0 hq0 (by omega) (by omega) (by decide) (by decide) hk1) ?_; rintro _ rfl
  clear hk1
  iterate 2 (all_goals try cbv; all_goals repeat' (first | with_reducible exact True.intro | with_reducible refine And.intro ?_ ?_ | intro _))
  all_goals try exact oH
  refine callN hA rfl (toIv_fn C hp0 hq0 hb_l0 hb_m0) ?_; rintro _ _ ⟨rfl, rfl⟩; refine ⟨rfl, ?_⟩
  iterate 2 (all_goals try cbv; all_goals repeat' (first | with_reducible exact True.intro | with_reducible refine And.intro ?_ ?_ | intro _))
  all_goals try exact oH
  refine callS hA rfl (hspec P C) ?_; rintro _ rfl
  iterate 2 (all_goals try cbv; all_goals repeat' (first | with_reducible exact True.intro | with_reducible refine And.intro ?_ ?_ | intro _))
  all_goals try exact oH
  refine callN hA rfl (toIv_fn C hp0 hq0 hb_l0 hb_m0) ?_; rintro _ _ ⟨rfl, rfl⟩; refine ⟨rfl, ?_⟩
  iterate 2 (all_goals try cbv; all_goals repeat' (first | with_reducible exact True.intro | with_reducible refine And.intro ?_ ?_ | intro _))
  all_goals try exact oH
  refine callN hA rfl (himpl P C) ?_; rintro _ _ ⟨rfl, rfl⟩; refine ⟨rfl, ?_⟩
  iterate 2 (all_goals try cbv; all_goals repeat' (first | with_reducible exact True.intro | with_reducible refine And.intro ?_ ?_ | intro _))
  all_goals try exact oH
  refine callB hA rfl (eqIv_fs C (l := []) (m := w_) rfl hr_x (by decide) hb_w_) ?_; rintro _ rfl; refine ⟨⟨_, rfl⟩, ?_⟩
  iterate 2 (all_goals try cbv; all_goals repeat' (first | with_reducible exact True.intro | with_reducible refine And.intro ?_ ?_ | intro _))
  all_goals try exact oH
  refine ⟨_, toIv_fs C hp0 hq0 hb_l0 hb_m0, ?_⟩
  iterate 2 (all_goals try cbv; all_goals repeat' (first | with_reducible exact True.intro | with_reducible refine And.intro ?_ ?_ | intro _))
  all_goals try exact oH
  refine callB hA rfl (eqIv_fs C hp0 hq0 hb_l0 hb_m0) ?_; rintro _ rfl; refine ⟨⟨_, rfl⟩, ?_⟩
  iterate 2 (all_goals try cbv; all_goals repeat' (first | with_reducible exact True.intro | with_reducible refine And.intro ?_ ?_ | intro _))
  all_goals try exact oH
  refine callX hA [4, 5] (by decide) rfl rfl rfl (hmark0 P C) ?_
  rintro _ _ ⟨rfl, rfl⟩
  refine ⟨rfl, ?_⟩
  iterate 2 (all_goals try cbv; all_goals repeat' (first | with_reducible exact True.intro | with_reducible refine And.intro ?_ ?_ | intro _))
  all_goals try exact oH
  refine ⟨_, fun _ => eqIv_fs C (l := []) (m := w_) rfl hr_x (by decide) hb_w_, ⟨_, rfl⟩, ?_⟩
  iterate 2 (all_goals try cbv; all_goals repeat' (first | with_reducible exact True.intro | with_reducible refine And.intro ?_ ?_ | intro _))
  all_goals try exact oH
  refine callX hA [7] (by decide) rfl rfl rfl (hmarkr P C) ?_
  rintro _ _ ⟨rfl, rfl⟩
  refine ⟨rfl, ?_⟩
  iterate 2 (all_goals try cbv; all_goals repeat' (first | with_reducible exact True.intro | with_reducible refine And.intro ?_ ?_ | intro _))
  all_goals try exact oH
  refine callB hA rfl (hheld P C) ?_; rintro _ rfl; refine ⟨⟨_, rfl⟩, ?_⟩
  iterate 2 (all_goals try cbv; all_goals repeat' (first | with_reducible exact True.intro | with_reducible refine And.intro ?_ ?_ | intro _))
  all_goals try exact oH
  iterate 2 (all_goals try cbv; all_goals repeat' (first | with_reducible exact True.intro | with_reducible refine And.intro ?_ ?_ | intro _))
  all_goals try exact oH
  refine callN hA rfl (toIv_fn C hp0 hq0 hb_l0 hb_m0) ?_; rintro _ _ ⟨rfl, rfl⟩; refine ⟨rfl, ?_⟩
  iterate 2 (all_goals try cbv; all_goals repeat' (first | with_reducible exact True.intro | with_reducible refine And.intro ?_ ?_ | intro _))
  all_goals try exact oH
  refine callN hA rfl (himpl P C) ?_; rintro _ _ ⟨rfl, rfl⟩; refine ⟨rfl, ?_⟩
  iterate 2 (all_goals try cbv; all_goals repeat' (first | with_reducible exact True.intro | with_reducible refine And.intro ?_ ?_ | intro _))
  all_goals try exact oH
  refine callB hA rfl (eqIv_fs C (l := []) (m := w_) rfl hr_x (by decide) hb_w_) ?_; rintro _ rfl; refine ⟨⟨_, rfl⟩, ?_⟩
  iterate 2 (all_goals try cbv; all_goals repeat' (first | with_reducible exact True.intro | with_reducible refine And.intro ?_ ?_ | intro _))
  all_goals try exact oH
  refine callB hA rfl (hheld P C) ?_; rintro _ rfl; refine ⟨⟨_, rfl⟩, ?_⟩
  iterate 2 (all_goals try cbv; all_goals repeat' (first | with_reducible exact True.intro | with_reducible refine And.intro ?_ ?_ | intro _))
  all_goals try exact oH
  iterate 2 (all_goals try cbv; all_goals repeat' (first | with_reducible exact True.intro | with_reducible refine And.intro ?_ ?_ | intro _))
  all_goals try exact oH

set_option maxHeartbeats 4000000 in
set_option maxRecDepth 100000 in
/-- the walk where the answer's lists are of memory of their own (o) or empty (n): nn -/
theorem law_nn_fs (C : Cx P gl) {l0 m0 : List Int} {p0 q0 : List PV} {s0 t0 : Bool} {e0 f0 : Int} {n1 : Int} {u : Bool} {g : Int} {v : Bool} {h : Int} {w : Bool} (hp0 : p0 = intsL l0) (hq0 : q0 = intsL m0) 
    (hbig : l0.length + m0.length ≤ 1048576)
    (hspec : ∀ P', Cx P' gl → FS P' gl 18 [.agg [B s0, .lst p0, I e0, B t0, .lst q0, I f0], I n1] (· = .tup [.agg [B u, .lst [], I g, B v, .lst [], I h], B w]))
    (himpl : ∀ P', Cx P' gl → FS P' gl 19 [.agg [B s0, .lst p0, I e0, B t0, .lst q0, I f0], I n1] (· = .tup [.agg [B u, .lst [], I g, B v, .lst [], I h], B w])) :
    FS P gl 4 [.agg [B s0, .lst p0, I e0, B t0, .lst q0, I f0], I n1] (· = B true) := by
  obtain ⟨k1, hk1⟩ : ∃ k : Int, k = if (l0.length : Int) + m0.length ≤ (1048576 : Int) then (1048576 : Int) - l0.length - m0.length else -1 := ⟨_, rfl⟩
  have hc1 : ((l0.length : Int) + m0.length ≤ (1048576 : Int) ∧ k1 = (1048576 : Int) - l0.length - m0.length) ∨ ((1048576 : Int) < (l0.length : Int) + m0.length ∧ k1 = -1) := by
    rw [hk1]; split
    · exact .inl ⟨by assumption, rfl⟩
    · exact .inr ⟨by omega, rfl⟩
  have hz1 : 0 ≤ k1 := by omega
  have hu1 : k1 ≤ 1048576 := by omega
  clear hc1
  obtain ⟨a1, ha1⟩ : ∃ x, x = intsL (up1 1 l0.length) := ⟨_, rfl⟩
  obtain ⟨c1, hc1⟩ : ∃ c : Int, c = 1 + l0.length := ⟨_, rfl⟩
  obtain ⟨a2, ha2⟩ : ∃ x, x = intsL (up1 c1 m0.length) := ⟨_, rfl⟩
  obtain ⟨c2, hc2⟩ : ∃ c : Int, c = c1 + m0.length := ⟨_, rfl⟩
  have hcn : 0 ≤ c2 := by omega
  have hb_l0 : l0.length ≤ 2000000 := by omega
  have hb_m0 : m0.length ≤ 2000000 := by omega
  have hmark0 := fun (P' : Program) (C' : Cx P' gl) => @markIv_fx P' gl C' l0 m0 p0 q0 a1 a2 1 c1 c2 s0 t0 e0 f0 hp0 ha1 hc1 hq0 ha2 hc2 hb_l0 hb_m0 (by decide) (by decide)
  have hheld := fun (P' : Program) (C' : Cx P' gl) => @heldIv_fs P' gl C' 0 0 [] [] 1 1 1 u v g h rfl (by simp) rfl (by simp) (by decide) (by decide) (by decide) (by decide)
  have hmarkr := fun (P' : Program) (C' : Cx P' gl) => @markIv0_fs P' gl C' 1 u v g h
  obtain ⟨rfl, hG⟩ := C
  refine FS_ofT (args := fun A => [.agg [B s0, .lst p0, I e0, B t0, .lst q0, I f0], I n1]) (R := fun A rr => rr = B true) Tryz.hT Tryz.mix Tryz.func4 rfl rfl (Nat.le_of_ble_eq_true rfl) ?_
  generalize hP : Tryz.prog = P
  intro A hA
  have C : Tryz.Cx P gl := ⟨hP.symm, hG⟩
  have hI : intsL = A.ints := by subst hA; rfl
  iterate 2 (all_goals try cbv; all_goals repeat' (first | with_reducible exact True.intro | with_reducible refine And.intro ?_ ?_ | intro _))
  all_goals try exact oH
  refine callS hA rfl (szIv_fs C hp0 hq0 (by omega) (by omega) (by decide) (by decide) hk1) ?_; rintro _ rfl
  clear hk1
  iterate 2 (all_goals try cbv; all_goals repeat' (first | with_reducible exact True.intro | with_reducible refine And.intro ?_ ?_ | intro _))
  all_goals try exact oH
  refine callN hA rfl (toIv_fn C hp0 hq0 hb_l0 hb_m0) ?_; rintro _ _ ⟨rfl, rfl⟩; refine ⟨rfl, ?_⟩
  iterate 2 (all_goals try cbv; all_goals repeat' (first | with_reducible exact True.intro | with_reducible refine And.intro ?_ ?_ | intro _))
  all_goals try exact oH
  refine callS hA rfl (hspec P C) ?_; rintro _ rfl
  iterate 2 (all_goals try cbv; all_goals repeat' (first | with_reducible exact True.intro | with_reducible refine And.intro ?_ ?_ | intro _))
  all_goals try exact oH
  refine callN hA rfl (toIv_fn C hp0 hq0 hb_l0 hb_m0) ?_; rintro _ _ ⟨rfl, rfl⟩; refine ⟨rfl, ?_⟩
  iterate 2 (all_goals try cbv; all_goals repeat' (first | with_reducible exact True.intro | with_reducible refine And.intro ?_ ?_ | intro _))
  all_goals try exact oH
  refine callN hA rfl (FN_ofS (himpl P C) rfl) ?_; rintro _ _ ⟨rfl, rfl⟩; refine ⟨rfl, ?_⟩
  iterate 2 (all_goals try cbv; all_goals repeat' (first | with_reducible exact True.intro | with_reducible refine And.intro ?_ ?_ | intro _))
  all_goals try exact oH
  refine callS hA rfl (eqIv_fs C (l := []) (m := []) rfl rfl (by decide) (by decide)) ?_; rintro _ rfl
  iterate 2 (all_goals try cbv; all_goals repeat' (first | with_reducible exact True.intro | with_reducible refine And.intro ?_ ?_ | intro _))
  all_goals try exact oH
  refine ⟨_, toIv_fs C hp0 hq0 hb_l0 hb_m0, ?_⟩
  iterate 2 (all_goals try cbv; all_goals repeat' (first | with_reducible exact True.intro | with_reducible refine And.intro ?_ ?_ | intro _))
  all_goals try exact oH
  refine callB hA rfl (eqIv_fs C hp0 hq0 hb_l0 hb_m0) ?_; rintro _ rfl; refine ⟨⟨_, rfl⟩, ?_⟩
  iterate 2 (all_goals try cbv; all_goals repeat' (first | with_reducible exact True.intro | with_reducible refine And.intro ?_ ?_ | intro _))
  all_goals try exact oH
  refine callX hA [4, 5] (by decide) rfl rfl rfl (hmark0 P C) ?_
  rintro _ _ ⟨rfl, rfl⟩
  refine ⟨rfl, ?_⟩
  iterate 2 (all_goals try cbv; all_goals repeat' (first | with_reducible exact True.intro | with_reducible refine And.intro ?_ ?_ | intro _))
  all_goals try exact oH
  refine ⟨_, fun _ => eqIv_fs C (l := []) (m := []) rfl rfl (by decide) (by decide), ?_⟩
  iterate 2 (all_goals try cbv; all_goals repeat' (first | with_reducible exact True.intro | with_reducible refine And.intro ?_ ?_ | intro _))
  all_goals try exact oH
  refine callS hA rfl (hmarkr P C) ?_; rintro _ rfl
  iterate 2 (all_goals try cbv; all_goals repeat' (first | with_reducible exact True.intro | with_reducible refine And.intro ?_ ?_ | intro _))
  all_goals try exact oH
  refine callS hA rfl (hheld P C) ?_; rintro _ rfl
  iterate 2 (all_goals try cbv; all_goals repeat' (first | with_reducible exact True.intro | with_reducible refine And.intro ?_ ?_ | intro _))
  all_goals try exact oH
  iterate 2 (all_goals try cbv; all_goals repeat' (first | with_reducible exact True.intro | with_reducible refine And.intro ?_ ?_ | intro _))
  all_goals try exact oH
  refine callN hA rfl (toIv_fn C hp0 hq0 hb_l0 hb_m0) ?_; rintro _ _ ⟨rfl, rfl⟩; refine ⟨rfl, ?_⟩
  iterate 2 (all_goals try cbv; all_goals repeat' (first | with_reducible exact True.intro | with_reducible refine And.intro ?_ ?_ | intro _))
  all_goals try exact oH
  refine callN hA rfl (FN_ofS (himpl P C) rfl) ?_; rintro _ _ ⟨rfl, rfl⟩; refine ⟨rfl, ?_⟩
  iterate 2 (all_goals try cbv; all_goals repeat' (first | with_reducible exact True.intro | with_reducible refine And.intro ?_ ?_ | intro _))
  all_goals try exact oH
  refine callS hA rfl (eqIv_fs C (l := []) (m := []) rfl rfl (by decide) (by decide)) ?_; rintro _ rfl
  iterate 2 (all_goals try cbv; all_goals repeat' (first | with_reducible exact True.intro | with_reducible refine And.intro ?_ ?_ | intro _))
  all_goals try exact oH
  refine callS hA rfl (hheld P C) ?_; rintro _ rfl
  iterate 2 (all_goals try cbv; all_goals repeat' (first | with_reducible exact True.intro | with_reducible refine And.intro ?_ ?_ | intro _))
  all_goals try exact oH
  iterate 2 (all_goals try cbv; all_goals repeat' (first | with_reducible exact True.intro | with_reducible refine And.intro ?_ ?_ | intro _))
  all_goals try exact oH

end Tryz
end Go.Proofs
