/- Proved: at every argument the law laws.FnExactPolyAt returns true, and its arguments read as they did; the tables of math/bits are tied to the program's text by the card; no further condition. -/
import Derived.Test.YthmkdfmapdbenaaGreatDoorEW16
import Derived.Test.YthmkdfmapdbenaaGreatDoorEM54
import Derived.Test.YthmkdfmapdbenaaGreatDoorEM55
import Derived.Test.YthmkdfmapdbenaaGreatDoorER0
import Derived.Test.YthmkdfmapdbenaaGreatDoorEEvD
import Derived.SevenTiedAt
import Derived.Test.YthmkdfmapdbenaaGreatDoorCards
import Derived.Test.YthmkdfmapdbenaaGreatDoorTie
namespace Go.Proofs
open Go Go.Pe Go.Dg
namespace Tryz
set_option linter.unusedSimpArgs false
set_option linter.unusedVariables false
variable {P : Program} {gl : List (Nat × Obj)}

theorem law_fs (C : Cx P gl) {l0 l1 : List Cell3} {p0 p1 : List PV} {n1 : Int} (hp0 : p0 = cells3 l0) (hp1 : p1 = cells3 l1)
    (h0 : l0.length ≤ 9223372036854775807) (y0 : ∀ y ∈ l0, y.2.1.length ≤ 9223372036854775807) (h1 : l1.length ≤ 9223372036854775807) (y1 : ∀ y ∈ l1, y.2.1.length ≤ 9223372036854775807) :
    FS P gl 12 [.lst p0, .agg [I n1, .lst p1]] (· = B true) := by
  rcases Nat.lt_or_ge 1048576 (l0.length + tot l0 + l1.length + tot l1) with hbig | hbig
  · exact lawL_fs C hp0 hp1 h0 h1 y0 y1 hbig
  have b0 : l0.length ≤ 2000000 := by omega
  have b1 : l1.length ≤ 2000000 := by omega
  have z0 : ∀ y ∈ l0, y.2.1.length ≤ 2000000 := fun y hy => Nat.le_trans (tot_mem hy) (by omega)
  have z1 : ∀ y ∈ l1, y.2.1.length ≤ 2000000 := fun y hy => Nat.le_trans (tot_mem hy) (by omega)
  by_cases hok : matOk n1 l1 ∧ l0.length ≤ 12 ∧ allY l0
  · have hl16 := matLen hok.1.1 hok.1.2.1 hok.1.2.2.1
    by_cases hf : ∀ k, k < l1.length → fits ((polS n1 (dvY l1) (dvY l0) l0.length) k)
    · have hw : true = true ↔ (matOk n1 l1 ∧ l0.length ≤ 12 ∧ allY l0) ∧ ∀ k, k < l1.length → fits ((polS n1 (dvY l1) (dvY l0) l0.length) k) := ⟨fun _ => ⟨hok, hf⟩, fun _ => rfl⟩
      refine law_o_fs C hp0 hp1 (u := n1) (w := true) (r := cells3 (canL (polS n1 (dvY l1) (dvY l0) l0.length) l1.length)) rfl (by rw [canL_len]; omega) (fun y hy => ?_) hbig (fun P' C' => specPolyAt_fs C' hp0 hp1 hw (fun _ => ⟨rfl, rfl⟩) (fun h => absurd h (by decide)) b1 z1 b0 z0) (fun P' C' => implPolyAt_o_fn C' hp0 hp1 hok hf rfl b1 z1 b0 z0)
      obtain ⟨k, hk, rfl⟩ := List.mem_map.1 hy
      exact (hf k (List.mem_range.1 hk)).1
    · have hw : false = true ↔ (matOk n1 l1 ∧ l0.length ≤ 12 ∧ allY l0) ∧ ∀ k, k < l1.length → fits ((polS n1 (dvY l1) (dvY l0) l0.length) k) := ⟨fun h => absurd h (by decide), fun h => absurd h.2 hf⟩
      exact law_n_fs C hp0 hp1 (u := 0) (w := false) hbig (fun P' C' => specPolyAt_fs C' hp0 hp1 hw (fun h => absurd h (by decide)) (fun _ => ⟨rfl, rfl⟩) b1 z1 b0 z0) (fun P' C' => implPolyAt_X_fs C' hp0 hp1 hok hf b1 z1 b0 z0)
  · have hw : false = true ↔ (matOk n1 l1 ∧ l0.length ≤ 12 ∧ allY l0) ∧ ∀ k, k < l1.length → fits ((polS n1 (dvY l1) (dvY l0) l0.length) k) := ⟨fun h => absurd h (by decide), fun h => absurd h.1 hok⟩
    exact law_n_fs C hp0 hp1 (u := 0) (w := false) hbig (fun P' C' => specPolyAt_fs C' hp0 hp1 hw (fun h => absurd h (by decide)) (fun _ => ⟨rfl, rfl⟩) b1 z1 b0 z0) (fun P' C' => implPolyAt_N_fs C' hp0 hp1 hok b1 z1 b0 z0)

end Tryz
end Go.Proofs

set_option linter.unusedSimpArgs false
set_option linter.unusedVariables false
namespace Go.Proofs.YthmkdfmapdbenaaGreatDoor.fnExactPolyAt
open Go Go.Pe Go.Dg Go.ChangeShapes Go.WideShapes Go.ChangeAt Go.RowKit
set_option linter.unusedVariables false
set_option maxRecDepth 100000

theorem shape_dys {c : List PV} (h : Typed Tryz.prog 7 22 c) : ∃ (l : List Cell3), c = [.lst (cells3 l)] ∧ l.length ≤ maxLen ∧ ∀ y ∈ l, y.2.1.length ≤ maxLen := by
  have dy : ∀ (c : List PV), Typed Tryz.prog 6 96 c → ∃ (s : Bool) (l : List Int) (e : Int), c = [.val (.bool s), .lst (intsL l), .val (.int .i64 e)] ∧ l.length ≤ maxLen := by
    intro c h
    obtain ⟨p, q, h1, h2, rfl⟩ := typed_st2 Tryz.underlying96 h
    obtain ⟨e, rfl, _⟩ := typed_int Tryz.underlying3 h2
    obtain ⟨p1, p2, h3, h4, rfl⟩ := typed_st2 Tryz.underlying94 h1
    obtain ⟨s, rfl⟩ := typed_bool Tryz.underlying4 h3
    obtain ⟨l, rfl, hl⟩ := typed_ints Tryz.underlying35 Tryz.underlying3 (typed_st1 Tryz.underlying92 h4)
    exact ⟨s, l, e, rfl, hl⟩
  obtain ⟨ys, rfl, h3, h4⟩ := typed_dys Tryz.underlying22 (by unfold isSt; rw [Tryz.underlying96]) dy h
  exact ⟨ys, rfl, h3, h4⟩

theorem shape_mat {c : List PV} (h : Typed Tryz.prog 8 24 c) : ∃ (n : Int) (l : List Cell3), c = [.val (.int .i64 n), .lst (cells3 l)] ∧ l.length ≤ maxLen ∧ ∀ y ∈ l, y.2.1.length ≤ maxLen := by
  have dy : ∀ (c : List PV), Typed Tryz.prog 6 96 c → ∃ (s : Bool) (l : List Int) (e : Int), c = [.val (.bool s), .lst (intsL l), .val (.int .i64 e)] ∧ l.length ≤ maxLen := by
    intro c h
    obtain ⟨p, q, h1, h2, rfl⟩ := typed_st2 Tryz.underlying96 h
    obtain ⟨e, rfl, _⟩ := typed_int Tryz.underlying3 h2
    obtain ⟨p1, p2, h3, h4, rfl⟩ := typed_st2 Tryz.underlying94 h1
    obtain ⟨s, rfl⟩ := typed_bool Tryz.underlying4 h3
    obtain ⟨l, rfl, hl⟩ := typed_ints Tryz.underlying35 Tryz.underlying3 (typed_st1 Tryz.underlying92 h4)
    exact ⟨s, l, e, rfl, hl⟩
  obtain ⟨p, q, h1, h2, rfl⟩ := typed_st2 Tryz.underlying24 h
  obtain ⟨n, rfl, _⟩ := typed_int Tryz.underlying3 h1
  obtain ⟨ys, rfl, h3, h4⟩ := typed_dys Tryz.underlying22 (by unfold isSt; rw [Tryz.underlying96]) dy h2
  exact ⟨n, ys, rfl, h3, h4⟩

theorem lifted (os : Os) (started : os.Started) (H : Type) (enc : TypeId × Value → H) :
    ReturnsInHanded {} Tryz.checked os 12 .any (fun w args => (Rows.fnExactPolyAtSpec.pre enc Tryz.prog Tryz.f12 [] false w args ∧ laidMetH Tryz.prog laidB w) ∧ sizedMet enc Tryz.prog Tryz.f12 (OpenSpec.ofChange Rows.fnExactPolyAtSpec) false w args)
      (Rows.fnExactPolyAtSpec.post enc Tryz.prog Tryz.f12 false true false false) := by
  refine returnsInHanded_of_change_and (C := Tryz.checked) (X := fun w _ => laidMetH Tryz.prog laidB w) (fun _ _ _ hh h => h.of_heap hh) own started (by kernel_rfl) Tryz.func12
    (ChangeSpec.witness_shaped (enc := enc) (C := Tryz.checked) (os := os) (X := fun w _ => laidMetH Tryz.prog laidB w) false (World.doorLaid Tryz.prog 400 os) #[.slice none 0 0, .agg #[.int .i64 0, .slice none 0 0]] 8 rfl (World.shaped_of_RefB (by kernel_rfl) (by kernel_rfl)) (by kernel_rfl) (by kernel_rfl) (by kernel_rfl) (door_met os _)) ?_
  intro W base args ds gs before hval0 hW _ _ hL _
  have hval : ∀ (j : Nat) t v, Tryz.f12.params[j]? = some t → args[j]? = some v → Value.okWide Tryz.prog W .any base t v := hval0
  have hW' := hW
  obtain ⟨p, q, hA0, hV, rfl, hfz, hnd⟩ := hW
  have hA : DataW.TrodAll enc Tryz.prog W 0 (fun _ => true) true Tryz.f12.params.toList args.toList ds p := hA0
  have hA1 := hA
  rw [Tryz.params12] at hA hval
  obtain ⟨v0, vs0, d0, ds0, pl0, ql0, hargs0, rfl, hpl0, h0, r0⟩ := trodAll_cons hA
  obtain ⟨v1, vs1, d1, ds1, pl1, ql1, hargs1, rfl, hpl1, h1, r1⟩ := trodAll_cons r0
  obtain ⟨hvn, rfl, hpn⟩ := trodAll_nil r1
  obtain rfl : args = #[v0, v1] := by
    cases args
    simp_all
  obtain ⟨rfl, rfl⟩ := trodVars_none hV
  obtain ⟨c0, hty0, hrep0⟩ := rep_arg kids (m := 7) (show 22 < Tryz.prog.types.size by decide +kernel) (by kernel_rfl) (hval 0 22 v0 rfl rfl) h0
  obtain ⟨l0, rfl, hl0, hyl0⟩ := shape_dys hty0
  obtain ⟨c1, hty1, hrep1⟩ := rep_arg kids (m := 8) (show 24 < Tryz.prog.types.size by decide +kernel) (by kernel_rfl) (hval 1 24 v1 rfl rfl) h1
  obtain ⟨n1, l1, rfl, hl1, hyl1⟩ := shape_mat hty1
  obtain ⟨gl, htab, hgl⟩ := of_laid hL
  have hlaw := Tryz.law_fs (P := Tryz.prog) (gl := gl) ⟨rfl, htab⟩ (l0 := l0) (n1 := n1) (l1 := l1) rfl rfl hl0 hyl0 hl1 hyl1
  refine (law_calls hlaw W hgl (vs := #[v0, v1]) rfl (fun j hj => ?_)).mono fun e W' ⟨he, hg⟩ => ?_
  · simp only [List.length_cons, List.length_nil] at hj
    rcases (by omega : j = 0 ∨ j = 1) with rfl | rfl
    · have : isSt Tryz.prog 22 = false := by unfold isSt; rw [Tryz.underlying22]
      simpa [mkEl, this] using hrep0
    · have : isSt Tryz.prog 24 = true := by unfold isSt; rw [Tryz.underlying24]
      simpa [mkEl, this] using hrep1
  subst he
  exact ⟨_, rfl, _, _, _, [], p, [], hW', trodAll_mk1 (shut_bool Tryz.underlying4 _), args_again kids full (fun t ht => by
    rw [Tryz.params12] at ht
    have hall : ([22, 24].all fun u => decide (u < Tryz.prog.types.size)) = true := by decide +kernel
    exact of_decide_eq_true (List.all_eq_true.1 hall t (by simpa using ht))) hA1 hg, rfl, hg.frame _, fun h => by cases h⟩

theorem holds : Rows.FnExactPolyAtSaid :=
  OpenClaim.holds_of_wide 12 Tryz.f12 rfl rfl rfl rfl rfl rfl rfl ⟨rfl, rfl, rfl, rfl, rfl⟩ rfl rfl rfl rfl rfl (by kernel_rfl) Tryz.func12 (by kernel_rfl)
    (of_decide_eq_true (by kernel_rfl)) (by unfold Func.isWrapper; first | (rw [if_pos (by decide +kernel)]; kernel_rfl) | (rw [if_neg (by decide +kernel)]; exact ⟨rfl, rfl⟩))
    (fun os started H enc _ => lifted os started H enc)

/-- the statement: the tied card -/
theorem proved : Rows.FnExactPolyAtCardSaid :=
  Claim7.holds_tied_plain_at .later [] [.data, .data] true (true, "eafcfc0a6f4958edb2f7ef481d712bca7e501864f1dc436bd2de778d539293d3") false
    holds (fun _ h => by cases h) (by kernel_rfl) (fun _ h => by cases h) fnExactPolyAt_row_tie rfl ⟨rfl, rfl⟩ (by kernel_rfl) rfl
    (fun f fn hf hfn => by
      obtain rfl : f = 12 := Option.some.inj ((show Tryz.prog.funcNamed "loop.example/g00382/laws.FnExactPolyAt" = some 12 by kernel_rfl).symm.trans hf) |>.symm
      obtain rfl : fn = Tryz.f12 := (Option.some.inj (Tryz.func12.symm.trans hfn)).symm
      exact ⟨by kernel_rfl, fun j t ht => by
        rw [Tryz.params12] at ht
        have hm : t ∈ [22, 24] := by simpa using Array.mem_of_getElem? ht
        have hall : ([22, 24].all fun u => !Tryz.prog.wantsStandIn u) = true := by kernel_rfl
        exact (show Tryz.prog.wantsStandIn t = false by simpa using List.all_eq_true.1 hall t hm)⟩)
    (by kernel_rfl)
#print axioms proved
end Go.Proofs.YthmkdfmapdbenaaGreatDoor.fnExactPolyAt

