/- Contracts: results that own nothing. -/
import Derived.Test.YtlkiofkkjbodjaaGreatDoorBN13
set_option maxHeartbeats 1000000
set_option maxRecDepth 100000
namespace Go.Proofs
open Go Go.Pe Go.Dg
namespace Tryz

theorem gX8 {P : Program} {gl : List (Nat × Obj)} (C : Tryz.Cx P gl) {f : FuncId} {fn : Func} {c : Code} {own : List Blk} {args : List FV} {R : List Blk → FV → Prop} (hf : Tryz.prog.funcs[f]? = some fn) (hb : fn.body = some c) (hm : (fn.name == "runtime.NumGoroutine") = false) (hn : Nat.ble args.length fn.ntmps = true)
 (hv : ∀ A, A = AR.std → aA = A.ints → iU P Tryz.T A gl .any c (aT1 Tryz.T A fn.results.toList own.length R) ⟨cS 0 args, own, fn.ntmps, own.length⟩) : FX P gl f own args R := by
 obtain ⟨rfl, hG⟩ := C
 exact aNL (own := fun _ => own) (args := fun _ => args) (R := fun _ => R) Tryz.hT Tryz.mix hf hb hm (Nat.le_of_ble_eq_true hn) fun A hA => hv A hA (by subst hA; rfl)

set_option linter.unusedSimpArgs false
set_option linter.unusedVariables false
variable {P : Program} {gl : List (Nat × Obj)}

theorem aD2 (C : Cx P gl) {l : List Int} {p : List PV} (hp : p = aA l) (h : 0 < l.length) (h1 : l.length ≤ 1000000) : FX P gl 258 [] [.pv (.lst p)] (fun own r => own = [.row 3 1 p] ∧ r = .own 0) := by
 refine gX8 C func258 rfl rfl rfl fun A hA hI => ?_
 iterate 2 all_goals try cbv; with_reducible repeat' first | exact ⟨⟩ | apply And.intro | intro _
 all_goals try exact oH
 ·rename_i hb hbt
  exfalso
  have := hb hbt
  rw [this] at hp
  have h2 := congrArg List.length hp
  rw [bC] at h2
  simp at h2
  simp [h2] at h
 iterate 2 all_goals try cbv; with_reducible repeat' first | exact ⟨⟩ | apply And.intro | intro _
 all_goals try exact oH
 ·subst hA; intro p hp; cases hp
 ·subst hA
  exact ⟨[0], _, _, by decide, Nat.zero_le _, rfl, rfl, rfl, rfl, rfl, rfl⟩

theorem aQ6 (C : Cx P gl) {l : List Int} {p : List PV} (hp : p = aA l) (h : 0 < l.length) (h1 : l.length ≤ 100) : FX P gl 239 [] [.pv (.lst p)] (fun own r => own = [.row 3 1 p] ∧ r = .tup [.agg [.own 0], .pv (B true)]) := by
 refine gX8 C func239 rfl rfl rfl fun A hA hI => ?_
 iterate 2 all_goals try cbv; with_reducible repeat' first | exact ⟨⟩ | apply And.intro | intro _
 all_goals try exact oH
 refine gO hA [] List.nodup_nil rfl rfl rfl (aD2 C hp h (by omega)) ?_; rintro _ _ ⟨rfl, rfl⟩; refine ⟨rfl, ?_⟩
 iterate 2 all_goals try cbv; with_reducible repeat' first | exact ⟨⟩ | apply And.intro | intro _
 all_goals try exact oH
 subst hA
 exact ⟨[1], _, _, by decide, Nat.zero_le _, rfl, rfl, rfl, rfl, rfl, rfl⟩

theorem zU (C : Cx P gl) {l : List Int} {p : List PV} {s : Bool} (hp : p = aA l) (h : 0 < l.length) (h1 : l.length ≤ 100) :
  FX P gl 188 [] [.pv (B s), .pv (.lst p)] (fun own r => own = [.row 3 1 p] ∧ r = .tup [.agg [.pv (B s), .own 0], .pv (B true)]) := by
 refine gX8 C func188 rfl rfl rfl fun A hA hI => ?_
 iterate 2 all_goals try cbv; with_reducible repeat' first | exact ⟨⟩ | apply And.intro | intro _
 all_goals try exact oH
 refine gO hA [] List.nodup_nil rfl rfl rfl (aQ6 C hp h h1) ?_; rintro _ _ ⟨rfl, rfl⟩; refine ⟨rfl, ?_⟩
 iterate 2 all_goals try cbv; with_reducible repeat' first | exact ⟨⟩ | apply And.intro | intro _
 all_goals try exact oH
 iterate 2 all_goals try cbv; with_reducible repeat' first | exact ⟨⟩ | apply And.intro | intro _
 all_goals try exact oH
 have e0 := aKJ hA hp
 have e1 : A.pick s (decide (l.length ≠ 0)) false = s := by subst hA; rw [decide_eq_true (by omega)]; cases s <;> rfl
 simp only [e0, e1]
 subst hA
 exact ⟨[1], _, _, by decide, Nat.zero_le _, rfl, rfl, rfl, rfl, rfl, rfl⟩

theorem aXW (C : Cx P gl) {z e f : Int} {p r : List PV} {s u : Bool} {d : Dyadic} (hp : p = aA (dg z.natAbs)) (hs : s = decide (z < 0)) (hd : d = mk z e)
  (hr : r = aA (dg (cZ d).natAbs)) (hu : u = decide (cZ d < 0)) (hf : f = cE d) (h0 : e.natAbs ≤ 1000000000) (hl : (dg z.natAbs).length ≤ 10000000) (hn : z ≠ 0) (nA : fits d) :
  FX P gl 111 [] [.pv (.agg [B s, .lst p, I e])] (fun own rr => own = [.row 3 1 r] ∧ rr = .tup [.agg [.pv (B u), .own 0, .pv (I f)], .pv (B true)]) := by
 have hl2 : 0 < (dg (cZ d).natAbs).length := by
  rcases Nat.eq_zero_or_pos (dg (cZ d).natAbs).length with h | h
  ·rw [cO] at h
   have : d = 0 := eI.1 (by omega)
   rw [this, ← mk_zero e, mk_inj] at hd
   exact absurd hd.symm hn
  ·exact h
 have hl3 := nA.1
 have hf1 : -3000 ≤ f := by rw [hf]; exact nA.2.1
 have hf2 : f ≤ 3000 := by rw [hf]; exact nA.2.2
 have hw : true = (decide (-3000 ≤ f) && decide (f ≤ 3000)) := by rw [decide_eq_true hf1, decide_eq_true hf2]; rfl
 refine gX8 C func111 rfl rfl rfl fun A hA hI => ?_
 iterate 2 all_goals try cbv; with_reducible repeat' first | exact ⟨⟩ | apply And.intro | intro _
 all_goals try exact oH
 refine aD hA rfl (aDT C hp hs hd hr hu hf h0 hl) ?_; rintro _ rfl
 iterate 2 all_goals try cbv; with_reducible repeat' first | exact ⟨⟩ | apply And.intro | intro _
 all_goals try exact oH
 refine gO hA [] List.nodup_nil rfl rfl rfl (zU C hr hl2 hl3) ?_; rintro _ _ ⟨rfl, rfl⟩; refine ⟨rfl, ?_⟩
 iterate 2 all_goals try cbv; with_reducible repeat' first | exact ⟨⟩ | apply And.intro | intro _
 all_goals try exact oH
 refine ⟨_, fun _ => gN C hw, ?_⟩
 iterate 2 all_goals try cbv; with_reducible repeat' first | exact ⟨⟩ | apply And.intro | intro _
 all_goals try exact oH
 iterate 2 all_goals try cbv; with_reducible repeat' first | exact ⟨⟩ | apply And.intro | intro _
 all_goals try exact oH
 subst hA
 exact ⟨[2], _, _, by decide, Nat.zero_le _, rfl, rfl, rfl, rfl, rfl, rfl⟩

end Tryz
end Go.Proofs

set_option maxHeartbeats 1000000
set_option maxRecDepth 100000
namespace Go.Proofs
open Go Go.Pe Go.Dg
namespace Tryz
set_option linter.unusedSimpArgs false
set_option linter.unusedVariables false
variable {P : Program} {gl : List (Nat × Obj)}

theorem aBA (C : Cx P gl) : FS P gl 258 [.lst []] (· = .lst []) := by
 refine gS C func258 rfl rfl rfl fun A hA hI => ?_
 iterate 2 all_goals try cbv; with_reducible repeat' first | exact ⟨⟩ | apply And.intro | intro _
 all_goals try exact oH
 iterate 2 all_goals try cbv; with_reducible repeat' first | exact ⟨⟩ | apply And.intro | intro _
 all_goals try exact oH
 ·subst hA; intro p hp; cases hp
 ·subst hA; intro p hp; cases hp
 ·subst hA; rfl

theorem aM2 (C : Cx P gl) : FS P gl 239 [.lst []] (· = .tup [.agg [.lst []], B true]) := by
 refine gS C func239 rfl rfl rfl fun A hA hI => ?_
 iterate 2 all_goals try cbv; with_reducible repeat' first | exact ⟨⟩ | apply And.intro | intro _
 all_goals try exact oH
 refine aD hA rfl (aBA C) ?_; rintro _ rfl
 iterate 2 all_goals try cbv; with_reducible repeat' first | exact ⟨⟩ | apply And.intro | intro _
 all_goals try exact oH

theorem aM3 (C : Cx P gl) {l : List Int} {p : List PV} (hp : p = aA l) (h : 100 < l.length) (h1 : l.length ≤ 1000000000) : FS P gl 239 [.lst p] (· = .tup [.agg [.lst []], B false]) := by
 refine gS C func239 rfl rfl rfl fun A hA hI => ?_
 iterate 2 all_goals try cbv; with_reducible repeat' first | exact ⟨⟩ | apply And.intro | intro _
 all_goals try exact oH

theorem aGH (C : Cx P gl) {s : Bool} : FS P gl 188 [B s, .lst []] (· = .tup [.agg [B false, .lst []], B true]) := by
 refine gS C func188 rfl rfl rfl fun A hA hI => ?_
 iterate 2 all_goals try cbv; with_reducible repeat' first | exact ⟨⟩ | apply And.intro | intro _
 all_goals try exact oH
 refine aD hA rfl (aM2 C) ?_; rintro _ rfl
 iterate 2 all_goals try cbv; with_reducible repeat' first | exact ⟨⟩ | apply And.intro | intro _
 all_goals try exact oH
 iterate 2 all_goals try cbv; with_reducible repeat' first | exact ⟨⟩ | apply And.intro | intro _
 all_goals try exact oH
 subst hA; cases s <;> rfl

theorem aGI (C : Cx P gl) {l : List Int} {p : List PV} {s : Bool} (hp : p = aA l) (h : 100 < l.length) (h1 : l.length ≤ 1000000000) : FS P gl 188 [B s, .lst p] (· = .tup [.agg [B false, .lst []], B false]) := by
 refine gS C func188 rfl rfl rfl fun A hA hI => ?_
 iterate 2 all_goals try cbv; with_reducible repeat' first | exact ⟨⟩ | apply And.intro | intro _
 all_goals try exact oH
 refine aD hA rfl (aM3 C hp h h1) ?_; rintro _ rfl
 iterate 2 all_goals try cbv; with_reducible repeat' first | exact ⟨⟩ | apply And.intro | intro _
 all_goals try exact oH
 iterate 2 all_goals try cbv; with_reducible repeat' first | exact ⟨⟩ | apply And.intro | intro _
 all_goals try exact oH

theorem aTB (C : Cx P gl) {e : Int} {s : Bool} : FS P gl 187 [.agg [B s, .lst [], I e]] (· = .agg [B false, .lst [], I 0]) := by
 refine gS C func187 rfl rfl rfl fun A hA hI => ?_
 iterate 2 all_goals try cbv; with_reducible repeat' first | exact ⟨⟩ | apply And.intro | intro _
 all_goals try exact oH
 iterate 2 all_goals try cbv; with_reducible repeat' first | exact ⟨⟩ | apply And.intro | intro _
 all_goals try exact oH

theorem aI1 (C : Cx P gl) {e : Int} {s : Bool} : FS P gl 111 [.agg [B s, .lst [], I e]] (· = .tup [.agg [B false, .lst [], I 0], B true]) := by
 refine gS C func111 rfl rfl rfl fun A hA hI => ?_
 iterate 2 all_goals try cbv; with_reducible repeat' first | exact ⟨⟩ | apply And.intro | intro _
 all_goals try exact oH
 refine aD hA rfl (aTB C) ?_; rintro _ rfl
 iterate 2 all_goals try cbv; with_reducible repeat' first | exact ⟨⟩ | apply And.intro | intro _
 all_goals try exact oH
 refine aD hA rfl (aGH C) ?_; rintro _ rfl
 iterate 2 all_goals try cbv; with_reducible repeat' first | exact ⟨⟩ | apply And.intro | intro _
 all_goals try exact oH
 refine ⟨_, fun _ => gN C (b := true) rfl, ?_⟩
 iterate 2 all_goals try cbv; with_reducible repeat' first | exact ⟨⟩ | apply And.intro | intro _
 all_goals try exact oH
 iterate 2 all_goals try cbv; with_reducible repeat' first | exact ⟨⟩ | apply And.intro | intro _
 all_goals try exact oH

end Tryz
end Go.Proofs

