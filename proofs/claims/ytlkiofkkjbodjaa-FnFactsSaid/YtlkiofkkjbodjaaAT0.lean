/- Contracts: the cursor over a drawn code. -/
import Derived.Test.YtlkiofkkjbodjaaAN2
import Derived.Test.YtlkiofkkjbodjaaAEvD
set_option maxHeartbeats 1000000
set_option maxRecDepth 100000
namespace Go.Proofs
open Go Go.Pe Go.Dg
namespace Try
set_option linter.unusedSimpArgs false
set_option linter.unusedVariables false
variable {P : Program} {gl : List (Nat × Obj)}

theorem band255 (a : Int) : 0 ≤ AR.std.band .i64 a 255 ∧ AR.std.band .i64 a 255 ≤ 255 := by
 have h : (BitVec.ofInt 64 a &&& BitVec.ofInt 64 255).toNat ≤ 255 := by
  rw [BitVec.toNat_and]
  exact Nat.le_trans Nat.and_le_right (by decide)
 have e : AR.std.band .i64 a 255 = IntKind.i64.wrap ((BitVec.ofInt 64 a &&& BitVec.ofInt 64 255).toNat : Int) := rfl
 rw [e]
 generalize (BitVec.ofInt 64 a &&& BitVec.ofInt 64 255).toNat = n at *
 rw [wrapi (by omega) (by omega)]
 omega

abbrev cur (bs : List PV) (pos h : Int) : Blk := .box [.pv (.lst bs), .pv (I pos), .pv (I h)]

def isCode (bs : List PV) : Prop := (∀ k, k < bs.length → ∃ n, bs.getD k D0 = .val (.int .u8 n)) ∧ bs.length ≤ 9223372036854775807

theorem l1Byte_fx (C : Cx P gl) {bs : List PV} {pos h : Int} (hc : isCode bs) (h0 : 0 ≤ pos) (h1 : pos ≤ bs.length) :
  FX P gl 33 [cur bs pos h] [.box 0 0] (fun own r => ∃ pos' h' x : Int, own = [cur bs pos' h'] ∧ r = .pv (I x) ∧ 0 ≤ x ∧ x ≤ 255 ∧ 0 ≤ pos' ∧ pos' ≤ bs.length) := by
 obtain ⟨hb, hl⟩ := hc
 obtain ⟨rfl, hG⟩ := C
 refine FX_ofT (own := fun A => [.box [.pv (.lst bs), .pv (I pos), .pv (I h)]]) (args := fun A => [.box 0 0]) (R := fun A ow rr => ∃ pos' h' x : Int, ow = [cur bs pos' h'] ∧ rr = .pv (I x) ∧ 0 ≤ x ∧ x ≤ 255 ∧ 0 ≤ pos' ∧ pos' ≤ bs.length) Try.hT Try.mix Try.func33 rfl rfl (Nat.le_of_ble_eq_true rfl) ?_
 generalize hP : Try.prog = P
 intro A hA
 have C : Try.Cx P gl := ⟨hP.symm, hG⟩
 have hI : intsL = A.ints := by subst hA; rfl
 iterate 2 (all_goals try cbv; all_goals with_reducible repeat' first | exact True.intro | refine And.intro ?_ ?_ | intro _)
 iterate 2 (all_goals try cbv; all_goals with_reducible repeat' first | exact True.intro | refine And.intro ?_ ?_ | intro _)
 all_goals try cbv
 all_goals with_reducible repeat' first | exact True.intro | refine And.intro ?_ ?_ | intro _
 all_goals try exact oH
 ·rename_i hh
  subst hA
  subst_vars
  simp only [AR.std, natCast_eq, sH, reduceCtorEq] at *
  try simp (disch := omega) only [AR.std, natCast_eq, sH, reduceCtorEq] at *
  obtain ⟨n, hn⟩ := hb pos.toNat (by omega)
  rw [hn]; rfl
 ·rename_i hh
  subst hA
  subst_vars
  simp only [AR.std, natCast_eq, sH, reduceCtorEq] at *
  try simp (disch := omega) only [AR.std, natCast_eq, sH, reduceCtorEq] at *
  obtain ⟨n, hn⟩ := hb pos.toNat (by omega)
  rw [hn]; exact Nat.le_refl _
 ·rename_i hh
  subst hA
  subst_vars
  simp only [AR.std, natCast_eq, sH, reduceCtorEq] at *
  try simp (disch := omega) only [AR.std, natCast_eq, sH, reduceCtorEq] at *
  obtain ⟨n, hn⟩ := hb pos.toNat (by omega)
  rw [hn]; rfl
 ·rename_i hh
  have hlt : pos < bs.length := by clear hb; subst hA; simpa only [AR.std, natCast_eq, sH, reduceCtorEq] using hh
  have hp : A.add .i64 pos 1 = pos + 1 := by clear hb; subst hA; simp (disch := omega) only [AR.std, natCast_eq, sH, reduceCtorEq]
  refine ⟨[0], _, _, by decide, Nat.le_refl _, rfl, rfl, rfl, rfl, _, _, _, rfl, rfl, ?_, ?_, ?_, ?_⟩
  ·subst hA; exact (band255 _).1
  ·subst hA; exact (band255 _).2
  ·show 0 ≤ A.add .i64 pos 1; rw [hp]; omega
  ·show A.add .i64 pos 1 ≤ (bs.length : Int); rw [hp]; omega
 ·refine ⟨[0], _, _, by decide, Nat.le_refl _, rfl, rfl, rfl, rfl, _, _, _, rfl, rfl, ?_, ?_, h0, h1⟩
  ·subst hA; exact (band255 _).1
  ·subst hA; exact (band255 _).2

theorem l1Below_fx (C : Cx P gl) {bs : List PV} {pos h n : Int} (hc : isCode bs) (h0 : 0 ≤ pos) (h1 : pos ≤ bs.length) (hn0 : 1 ≤ n) (hn1 : n ≤ 256) :
  FX P gl 23 [cur bs pos h] [.box 0 0, .pv (I n)] (fun own r => ∃ pos' h' x : Int, own = [cur bs pos' h'] ∧ r = .pv (I x) ∧ 0 ≤ x ∧ x < n ∧ 0 ≤ pos' ∧ pos' ≤ bs.length) := by
 have hc0 := fun (P' : Program) (C' : Cx P' gl) => l1Byte_fx C' (h := h) hc h0 h1
 obtain ⟨rfl, hG⟩ := C
 refine FX_ofT (own := fun A => [.box [.pv (.lst bs), .pv (I pos), .pv (I h)]]) (args := fun A => [.box 0 0, .pv (I n)]) (R := fun A ow rr => ∃ pos' h' x : Int, ow = [cur bs pos' h'] ∧ rr = .pv (I x) ∧ 0 ≤ x ∧ x < n ∧ 0 ≤ pos' ∧ pos' ≤ bs.length) Try.hT Try.mix Try.func23 rfl rfl (Nat.le_of_ble_eq_true rfl) ?_
 generalize hP : Try.prog = P
 intro A hA
 have C : Try.Cx P gl := ⟨hP.symm, hG⟩
 have hI : intsL = A.ints := by subst hA; rfl
 iterate 2 (all_goals try cbv; all_goals with_reducible repeat' first | exact True.intro | refine And.intro ?_ ?_ | intro _)
 all_goals try exact oH
 iterate 2 (all_goals try cbv; all_goals with_reducible repeat' first | exact True.intro | refine And.intro ?_ ?_ | intro _)
 all_goals try exact oH
 refine callX hA [0] (by decide) rfl rfl rfl (hc0 P C) ?_; rintro _ _ ⟨pos', h', x, rfl, rfl, hx0, hx1, hp0, hp1⟩; refine ⟨rfl, ?_⟩
 clear hc0
 iterate 2 (all_goals try cbv; all_goals with_reducible repeat' first | exact True.intro | refine And.intro ?_ ?_ | intro _)
 all_goals try exact oH
 have e : A.rem .i64 x n = x % n := by subst hA; exact Int.tmod_eq_emod_of_nonneg hx0
 refine ⟨[0], _, _, by decide, Nat.le_refl _, rfl, rfl, rfl, rfl, _, _, _, rfl, rfl, ?_, ?_, hp0, hp1⟩
 ·show 0 ≤ A.rem .i64 x n
  rw [e]; exact Int.emod_nonneg _ (by omega)
 ·show A.rem .i64 x n < n
  rw [e]; exact Int.emod_lt_of_pos _ (by omega)

theorem l1PickOwn_fx (C : Cx P gl) {bs : List PV} {pos h : Int} {l : List Int} {p : List PV} (hp : p = intsL l) (hc : isCode bs) (h0 : 0 ≤ pos) (h1 : pos ≤ bs.length) (hn0 : 1 ≤ l.length) (hn1 : l.length ≤ 256) :
  FX P gl 12 [cur bs pos h, .row 3 1 p] [.box 0 0, .own 1] (fun own r => ∃ pos' h' x : Int, own = [cur bs pos' h', .row 3 1 p] ∧ r = .pv (I x) ∧ x ∈ l ∧ 0 ≤ pos' ∧ pos' ≤ bs.length) := by
 obtain ⟨m, hm⟩ : ∃ m : Int, m = l.length := ⟨_, rfl⟩
 have hc0 := fun (P' : Program) (C' : Cx P' gl) => l1Below_fx C' (h := h) (n := m) hc h0 h1 (by omega) (by omega)
 have hpl : p.length = l.length := by rw [hp, ints_len]
 have hml : ∀ x : Int, 0 ≤ x → x < m → x.toNat < l.length := fun x h1 h2 => by omega
 obtain ⟨rfl, hG⟩ := C
 refine FX_ofT (own := fun A => [.box [.pv (.lst bs), .pv (I pos), .pv (I h)], .row 3 1 p]) (args := fun A => [.box 0 0, .own 1]) (R := fun A ow rr => ∃ pos' h' x : Int, ow = [cur bs pos' h', .row 3 1 p] ∧ rr = .pv (I x) ∧ x ∈ l ∧ 0 ≤ pos' ∧ pos' ≤ bs.length) Try.hT Try.mix Try.func12 rfl rfl (Nat.le_of_ble_eq_true rfl) ?_
 generalize hP : Try.prog = P
 intro A hA
 have C : Try.Cx P gl := ⟨hP.symm, hG⟩
 have hI : intsL = A.ints := by subst hA; rfl
 have el : A.cast (A.len p) = m := by clear hc0; subst hA; show ((p.length : Nat) : Int) = m; omega
 iterate 2 (all_goals try cbv; all_goals with_reducible repeat' first | exact True.intro | refine And.intro ?_ ?_ | intro _)
 all_goals try exact oH
 all_goals try simp only [el]
 refine callX hA [0] (by decide) rfl rfl rfl (hc0 P C) ?_; rintro _ _ ⟨pos', h', x, rfl, rfl, hx0, hx1, hp0, hp1⟩; refine ⟨rfl, ?_⟩
 clear hc0
 have hx : x.toNat < l.length := hml x hx0 hx1
 clear hml
 have ex : A.gi (A.el p (A.nat x)) 0 = l.getD x.toNat 0 := by rw [hp]; clear hp hpl el; subst hA; simp only [AR.std, natCast_eq, sH, reduceCtorEq]
 iterate 2 (all_goals try cbv; all_goals with_reducible repeat' first | exact True.intro | refine And.intro ?_ ?_ | intro _)
 all_goals try exact oH
 all_goals try simp only [ex]
 refine ⟨[0, 1], _, _, by decide, Nat.le_refl _, rfl, rfl, rfl, rfl, _, _, _, rfl, rfl, ?_, hp0, hp1⟩
 rw [List.getD, List.getElem?_eq_getElem hx]
 exact List.getElem_mem hx

theorem l1New_fx (C : Cx P gl) {bs : List PV} (hc : isCode bs) :
  FX P gl 13 [] [.pv (.lst bs)] (fun own r => ∃ h : Int, own = [cur bs 0 h] ∧ r = .box 0 0) := by
 obtain ⟨hb, hl⟩ := hc
 obtain ⟨rfl, hG⟩ := C
 refine FX_ofT (own := fun A => []) (args := fun A => [.pv (.lst bs)]) (R := fun A ow rr => ∃ h : Int, ow = [cur bs 0 h] ∧ rr = .box 0 0) Try.hT Try.mix Try.func13 rfl rfl (Nat.le_of_ble_eq_true rfl) ?_
 generalize hP : Try.prog = P
 intro A hA
 have C : Try.Cx P gl := ⟨hP.symm, hG⟩
 have hI : intsL = A.ints := by subst hA; rfl
 iterate 2 (all_goals try cbv; all_goals with_reducible repeat' first | exact True.intro | refine And.intro ?_ ?_ | intro _)
 all_goals try exact oH
 obtain ⟨h9, hh9⟩ : ∃ h9, h9 = A.add .i64 38282 (A.cast (A.len bs)) := ⟨_, rfl⟩
 all_goals try simp only [← hh9]
 refine loopI hA [] (ι := Int × Int) (fun x => [(3, .pv (I x.2)), (4, .pv (I x.1))]) (fun x => []) (fun x => (bs.length - x.1).toNat) (fun x => 0 ≤ x.1 ∧ x.1 ≤ bs.length) (0, h9) (by rfl) ?_ ?_ ?_
 all_goals try exact tH
 ·exact ⟨Int.le_refl _, Int.natCast_nonneg _⟩
 rintro ⟨i, h⟩ ⟨hi0, hi1⟩
 simp only at hi0 hi1
 clear hh9
 iterate 2 (all_goals try cbv; all_goals with_reducible repeat' first | exact True.intro | refine And.intro ?_ ?_ | intro _)
 iterate 2 (all_goals try cbv; all_goals with_reducible repeat' first | exact True.intro | refine And.intro ?_ ?_ | intro _)
 all_goals try cbv
 all_goals with_reducible repeat' first | exact True.intro | refine And.intro ?_ ?_ | intro _
 all_goals try exact oH
 ·rename_i hh
  subst hA
  subst_vars
  simp only [AR.std, natCast_eq, sH, reduceCtorEq] at *
  try simp (disch := omega) only [AR.std, natCast_eq, sH, reduceCtorEq] at *
  obtain ⟨n, hn⟩ := hb i.toNat (by omega)
  rw [hn]; rfl
 ·rename_i hh
  subst hA
  subst_vars
  simp only [AR.std, natCast_eq, sH, reduceCtorEq] at *
  try simp (disch := omega) only [AR.std, natCast_eq, sH, reduceCtorEq] at *
  obtain ⟨n, hn⟩ := hb i.toNat (by omega)
  rw [hn]; exact Nat.le_refl _
 ·rename_i hh
  subst hA
  subst_vars
  simp only [AR.std, natCast_eq, sH, reduceCtorEq] at *
  try simp (disch := omega) only [AR.std, natCast_eq, sH, reduceCtorEq] at *
  obtain ⟨n, hn⟩ := hb i.toNat (by omega)
  rw [hn]; rfl
 ·rename_i hh
  have hlt : i < bs.length := by clear hb; subst hA; simp only [AR.std, natCast_eq, sH, reduceCtorEq] at hh; exact hh.1
  have hp : A.add .i64 i 1 = i + 1 := by clear hb; subst hA; simp (disch := omega) only [AR.std, natCast_eq, sH, reduceCtorEq]
  refine ⟨⟨(A.add .i64 i 1, _), ?_⟩, rfl, ?_⟩
  ·show 0 ≤ A.add .i64 i 1 ∧ A.add .i64 i 1 ≤ (bs.length : Int); rw [hp]; omega
  ·show ((bs.length : Int) - A.add .i64 i 1).toNat < ((bs.length : Int) - i).toNat
   rw [hp]; omega
 ·exact ⟨[0], _, _, by decide, Nat.zero_le _, rfl, rfl, rfl, rfl, _, rfl, rfl⟩

theorem DrawFact_fs (C : Cx P gl) {bs : List PV} (hc : isCode bs) : FS P gl 4 [.lst bs] (fun r => ∃ x : Int, r = I x ∧ x ∈ ([0, 1, 2, 5, 20, 100, 200, 201, -1] : List Int)) := by
 obtain ⟨p, hp⟩ : ∃ p, p = intsL [0, 1, 2, 5, 20, 100, 200, 201, -1] := ⟨_, rfl⟩
 have hn := fun (P' : Program) (C' : Cx P' gl) => l1New_fx C' hc
 have hk := fun (h : Int) (P' : Program) (C' : Cx P' gl) => l1PickOwn_fx C' (h := h) (pos := 0) hp hc (Int.le_refl _) (Int.natCast_nonneg _) (by decide) (by decide)
 obtain ⟨rfl, hG⟩ := C
 refine FS_ofT (args := fun A => [.lst bs]) (R := fun A rr => ∃ x : Int, rr = I x ∧ x ∈ ([0, 1, 2, 5, 20, 100, 200, 201, -1] : List Int)) Try.hT Try.mix Try.func4 rfl rfl (Nat.le_of_ble_eq_true rfl) ?_
 generalize hP : Try.prog = P
 intro A hA
 have C : Try.Cx P gl := ⟨hP.symm, hG⟩
 have hI : intsL = A.ints := by subst hA; rfl
 iterate 2 (all_goals try cbv; all_goals with_reducible repeat' first | exact True.intro | refine And.intro ?_ ?_ | intro _)
 all_goals try exact oH
 refine callX hA [] List.nodup_nil rfl rfl rfl (hn P C) ?_; rintro _ _ ⟨h, rfl, rfl⟩; refine ⟨rfl, ?_⟩
 have hk2 := hk h
 clear hn hk
 have ep : [I 0, I 1, I 2, I 5, I 20, I 100, I 200, I 201, I (-1)] = p := by rw [hp]; rfl
 iterate 2 (all_goals try cbv; all_goals with_reducible repeat' first | exact True.intro | refine And.intro ?_ ?_ | intro _)
 all_goals try exact oH
 all_goals try simp only [ep]
 ·rw [hp]; clear hk2 ep; subst hA; exact ints_ok _
 refine callX hA [0, 1] (by decide) ?_ ?_ ?_ (hk2 P C) ?_
 ·rfl
 ·rfl
 ·rfl
 rintro _ _ ⟨pos', h', x, rfl, rfl, hx, _, _⟩
 refine ⟨rfl, ?_⟩
 iterate 2 (all_goals try cbv; all_goals with_reducible repeat' first | exact True.intro | refine And.intro ?_ ?_ | intro _)
 all_goals try exact oH
 exact ⟨x, rfl, hx⟩

theorem DrawExpTerms_fs (C : Cx P gl) {bs : List PV} (hc : isCode bs) : FS P gl 9 [.lst bs] (fun r => ∃ x : Int, r = I x ∧ x ∈ ([0, -1, -10, -60, -200, -400, -401, 1] : List Int)) := by
 obtain ⟨p, hp⟩ : ∃ p, p = intsL [0, -1, -10, -60, -200, -400, -401, 1] := ⟨_, rfl⟩
 have hn := fun (P' : Program) (C' : Cx P' gl) => l1New_fx C' hc
 have hk := fun (h : Int) (P' : Program) (C' : Cx P' gl) => l1PickOwn_fx C' (h := h) (pos := 0) hp hc (Int.le_refl _) (Int.natCast_nonneg _) (by decide) (by decide)
 obtain ⟨rfl, hG⟩ := C
 refine FS_ofT (args := fun A => [.lst bs]) (R := fun A rr => ∃ x : Int, rr = I x ∧ x ∈ ([0, -1, -10, -60, -200, -400, -401, 1] : List Int)) Try.hT Try.mix Try.func9 rfl rfl (Nat.le_of_ble_eq_true rfl) ?_
 generalize hP : Try.prog = P
 intro A hA
 have C : Try.Cx P gl := ⟨hP.symm, hG⟩
 have hI : intsL = A.ints := by subst hA; rfl
 iterate 2 (all_goals try cbv; all_goals with_reducible repeat' first | exact True.intro | refine And.intro ?_ ?_ | intro _)
 all_goals try exact oH
 refine callX hA [] List.nodup_nil rfl rfl rfl (hn P C) ?_; rintro _ _ ⟨h, rfl, rfl⟩; refine ⟨rfl, ?_⟩
 have hk2 := hk h
 clear hn hk
 have ep : [I 0, I (-1), I (-10), I (-60), I (-200), I (-400), I (-401), I 1] = p := by rw [hp]; rfl
 iterate 2 (all_goals try cbv; all_goals with_reducible repeat' first | exact True.intro | refine And.intro ?_ ?_ | intro _)
 all_goals try exact oH
 all_goals try simp only [ep]
 ·rw [hp]; clear hk2 ep; subst hA; exact ints_ok _
 refine callX hA [0, 1] (by decide) ?_ ?_ ?_ (hk2 P C) ?_
 ·rfl
 ·rfl
 ·rfl
 rintro _ _ ⟨pos', h', x, rfl, rfl, hx, _, _⟩
 refine ⟨rfl, ?_⟩
 iterate 2 (all_goals try cbv; all_goals with_reducible repeat' first | exact True.intro | refine And.intro ?_ ?_ | intro _)
 all_goals try exact oH
 exact ⟨x, rfl, hx⟩

end Try
end Go.Proofs
