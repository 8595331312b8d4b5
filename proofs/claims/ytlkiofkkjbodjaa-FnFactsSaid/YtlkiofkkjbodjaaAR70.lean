/- Proved: at every code the law laws.FnFacts returns true, and the code reads as it did; no condition. -/
import Derived.Test.YtlkiofkkjbodjaaRows
import Derived.ProofKit
import Derived.LaidMore
import Derived.OpenShut
import Derived.Stop.Joined
import Derived.Test.YtlkiofkkjbodjaaAEvD
import Derived.Test.YtlkiofkkjbodjaaAT3
set_option maxHeartbeats 4000000
set_option linter.unusedSimpArgs false
set_option linter.unusedVariables false
namespace Go.Proofs.Ytlkiofkkjbodjaa.fnFacts
open Go Go.Pe Go.Dg Go.ChangeShapes Go.WideShapes Go.ChangeAt Go.RowKit
set_option linter.unusedVariables false
set_option maxRecDepth 100000

theorem own : ownKnob Try.prog.godebug = none := by kernel_rfl
theorem kids : Kids Try.prog (· < Try.prog.types.size) := kids_rows (by kernel_rfl) (by kernel_rfl)
theorem full : ∀ t e, t < Try.prog.types.size → Try.prog.underlying t = some (.slice e) → 0 < Try.prog.cellsOf e := slices_full_of Try.prog (by kernel_rfl)

theorem shape_bytes {c : List PV} (h : Typed Try.prog 6 22 c) : ∃ (b : List PV), c = [.lst b] ∧ Try.isCode b := by
 unfold Typed at h
 rw [Try.underlying22] at h
 obtain ⟨cl, rfl, hl, hc⟩ := h
 refine ⟨_, rfl, fun k hk => ?_, by rw [List.length_map]; exact hl⟩
 rw [List.length_map] at hk
 obtain ⟨m, hm, _⟩ : ∃ m, cl[k] = [.val (.int .u8 m)] ∧ (Lit.int .u8 m).wf = true := by
  have h1 := hc cl[k] (List.getElem_mem hk)
  unfold Typed at h1
  rw [Try.underlying5] at h1
  exact h1
 refine ⟨m, ?_⟩
 have hst : isSt Try.prog 5 = false := by unfold isSt; rw [Try.underlying5]
 rw [List.getD, List.getElem?_map, List.getElem?_eq_getElem hk]
 simp [mkEl, hst, hm]

theorem lifted (os : Os) (started : os.Started) (H : Type) (enc : TypeId × Value → H) :
  ReturnsInHanded {} Try.checked os 3 .any (Rows.fnFactsSpec.pre6 enc Try.prog Try.f3 Rows.fnFactsRow.domain false) (Rows.fnFactsSpec.post enc Try.prog Try.f3 false true false false) := by
 refine returnsInHanded_of_change (C := Try.checked) own started (by kernel_rfl) Try.func3
  (ChangeSpec.witness6 (enc := enc) (C := Try.checked) false ⟨#[], #[.slice none 0 0], []⟩ 8 (by kernel_rfl) (by kernel_rfl) (by kernel_rfl) (by kernel_rfl)) ?_
 intro W base args ds gs before hval0 hW hcnd _
 have hval : ∀ (j : Nat) t v, Try.f3.params[j]? = some t → args[j]? = some v → Value.okWide Try.prog W .any base t v := hval0
 have hW' := hW
 obtain ⟨p, q, hA0, hV, rfl, hfz, hnd⟩ := hW
 have hA : DataW.TrodAll enc Try.prog W 0 (fun _ => true) true Try.f3.params.toList args.toList ds p := hA0
 have hA1 := hA
 rw [Try.params3] at hA hval
 obtain ⟨v0, d0, rfl, rfl, h0⟩ := trodAll_one hA
 obtain ⟨rfl, rfl⟩ := trodVars_none hV
 obtain ⟨c0, hty0, hrep0⟩ := rep_arg kids (m := 6) (show 22 < Try.prog.types.size by decide +kernel) (by kernel_rfl) (hval 0 22 v0 rfl rfl) h0
 obtain ⟨b0, rfl, hb0⟩ := shape_bytes hty0
 have hlaw := Try.law_fs (P := Try.prog) (gl := []) ⟨rfl, rfl⟩ hb0
 refine (law_calls hlaw W (fun x hx => by cases hx) (vs := #[v0]) rfl (fun j hj => ?_)).mono fun e W' ⟨he, hg⟩ => ?_
 ·simp only [List.length_singleton] at hj
  obtain rfl : j = 0 := by omega
  have : isSt Try.prog 22 = false := by unfold isSt; rw [Try.underlying22]
  simpa [mkEl, this] using hrep0
 subst he
 exact ⟨_, rfl, _, _, _, [], p, [], hW', trodAll_mk1 (shut_bool Try.underlying4 _), args_again kids full (fun t ht => by
  rw [Try.params3] at ht
  have hall : ([22].all fun u => decide (u < Try.prog.types.size)) = true := by decide +kernel
  exact of_decide_eq_true (List.all_eq_true.1 hall t (by simpa using ht))) hA1 hg, rfl, hg.frame _, fun h => by cases h⟩

theorem proved : Rows.FnFactsSaid :=
 OpenClaim.holds_of_wide 3 Try.f3 rfl rfl rfl rfl rfl rfl rfl ⟨rfl, rfl, rfl, rfl, rfl⟩ rfl rfl rfl rfl rfl (by kernel_rfl) Try.func3 (by kernel_rfl)
  (of_decide_eq_true (by kernel_rfl)) (by unfold Func.isWrapper; first | (rw [if_pos (by decide +kernel)]; kernel_rfl) | (rw [if_neg (by decide +kernel)]; exact ⟨rfl, rfl⟩))
  (fun os started H enc _ => lifted os started H enc)
#print axioms proved
end Go.Proofs.Ytlkiofkkjbodjaa.fnFacts
