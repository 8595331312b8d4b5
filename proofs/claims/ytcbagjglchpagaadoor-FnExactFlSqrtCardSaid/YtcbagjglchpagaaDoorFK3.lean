/- Contracts: a number out of its digits, in the reference. -/
import Derived.Test.YtcbagjglchpagaaDoorFK2
namespace Go.Proofs
open Go Go.Pe Go.Dg
namespace Tryd
set_option linter.unusedSimpArgs false
set_option linter.unusedVariables false
variable {P : Program} {gl : List (Nat × Obj)}

/-- digits from the top down -/
def l2iI (l : List Int) (i x : Int) : Prop := -1 ≤ i ∧ i < l.length ∧ x = val (l.drop (i + 1).toNat)

theorem l2iI_next {l : List Int} {i x y : Int} (h : l2iI l i x) (hi : 0 ≤ i) (hy : y = x * 65536 + l.getD i.toNat 0) : l2iI l (i - 1) y := by
  obtain ⟨a, b, c⟩ := h
  refine ⟨by omega, by omega, ?_⟩
  rw [show (i - 1 + 1).toNat = i.toNat by omega, hy, c, List.drop_eq_getElem_cons (show i.toNat < l.length by omega), show (i + 1).toNat = i.toNat + 1 by omega, List.getD, List.getElem?_eq_getElem (show i.toNat < l.length by omega)]
  simp only [val, Option.getD_some]
  omega

theorem val_drop_le {l : List Int} (h : Valid l) (k : Nat) : 0 ≤ val (l.drop k) ∧ val (l.drop k) ≤ val l := by
  have h1 := val_td l k
  have h2 := val_nonneg (h.drop k)
  have h3 := val_nonneg (h.take k)
  refine ⟨h2, ?_⟩
  have h4 : (1 : Int) ≤ 65536 ^ k := by rw [← pow_cast]; have := Nat.pow_pos (n := k) (show 0 < 65536 by decide); omega
  have h5 := Int.mul_le_mul_of_nonneg_right h4 h2
  omega

set_option maxHeartbeats 4000000 in
set_option maxRecDepth 100000 in
theorem l2int_fs (C : Cx P gl) {n : Nat} {p : List PV} {k : Int} (hp : p = intsL (dg n)) (hk : k = n) (hn : n < 9007199254740992) : FS P gl 73 [.agg [.lst p]] (· = I k) := by
  have hl : (dg n).length ≤ 4 := dg_len_le 4 n (Nat.lt_of_lt_of_le hn (by decide))
  have hv := valid_dg n
  have hval := val_dg n
  obtain ⟨l, hl'⟩ : ∃ l, l = dg n := ⟨_, rfl⟩
  rw [← hl'] at hp hl hv hval
  obtain ⟨N, hN⟩ : ∃ N : Int, N = n := ⟨_, rfl⟩
  have hNb : N < 9007199254740992 := by omega
  rw [← hN] at hval hk
  have hbd : ∀ j, 0 ≤ val (l.drop j) ∧ val (l.drop j) ≤ N := fun j => by have := val_drop_le hv j; rw [hval] at this; exact this
  clear hl' hN
  obtain ⟨i0, hi0⟩ : ∃ i0 : Int, i0 = (l.length : Int) - 1 := ⟨_, rfl⟩
  have hinit : l2iI l i0 0 := ⟨by omega, by omega, by rw [show (i0 + 1).toNat = l.length by omega, List.drop_length]; rfl⟩
  obtain ⟨rfl, hG⟩ := C
  refine FS_ofT (args := fun A => [.agg [.lst p]]) (R := fun A rr => rr = I k) Tryd.hT Tryd.mix Tryd.func73 rfl rfl (Nat.le_of_ble_eq_true rfl) ?_
  generalize hP : Tryd.prog = P
  intro A hA
  have C : Tryd.Cx P gl := ⟨hP.symm, hG⟩
  have hI : intsL = A.ints := by subst hA; rfl
  have hlen : A.sub .i64 (A.cast (A.len p)) 1 = (l.length : Int) - 1 := by
    rw [hp]; subst hA
    show IntKind.i64.wrap ((((intsL l).length : Nat) : Int) - 1) = _
    rw [ints_len, wrapi (by omega) (by omega)]
  rw [← hi0] at hlen
  iterate 2 (all_goals try cbv; all_goals repeat' (first | with_reducible exact True.intro | with_reducible refine And.intro ?_ ?_ | intro _))
  all_goals try exact oH
  all_goals try simp only [hlen]
  refine loopI hA [] (ι := Int × Int) (fun x => [(3, .pv (I x.2)), (4, .pv (I x.1))]) (fun x => []) (fun x => (x.1 + 1).toNat) (fun x => l2iI l x.1 x.2) (i0, 0) (by rfl) ?_ ?_ ?_
  all_goals try exact tH
  · exact hinit
  rintro ⟨i, x⟩ hinv
  simp only at hinv
  obtain ⟨q1, q2, q3⟩ := id hinv
  have hb1 := hbd (i + 1).toNat
  rw [← q3] at hb1
  have hb2 : ∀ y, 0 ≤ i → y = x * 65536 + l.getD i.toNat 0 → 0 ≤ y ∧ y ≤ N ∧ l2iI l (i - 1) y := fun y h1 h2 => by
    have h3 := l2iI_next hinv h1 h2
    obtain ⟨_, _, h4⟩ := id h3
    rw [show (i - 1 + 1).toNat = i.toNat by omega] at h4
    have h5 := hbd i.toNat
    rw [← h4] at h5
    exact ⟨h5.1, h5.2, h3⟩
  have hdig := hv.get i.toNat
  have hend : ¬(0 ≤ i) → x = k := fun h => by
    rw [q3, show (i + 1).toNat = 0 by omega, List.drop_zero, hval, hk]
  have hel : ∀ _ : Unit, 0 ≤ i → A.gi (A.el p (A.nat i)) 0 = l.getD i.toNat 0 ∧ i.toNat < l.length := fun _ h => by
    refine ⟨?_, by omega⟩
    rw [hp]; subst hA
    show getI ((intsL l).getD i.toNat D0) 0 = _
    rw [ints_get l i.toNat (by omega)]; rfl
  obtain ⟨v, hv'⟩ : ∃ v, v = x * 65536 + l.getD i.toNat 0 := ⟨_, rfl⟩
  have hstep : ∀ _ : Unit, 0 ≤ i → A.add .i64 (A.mul .i64 x 65536) (A.gi (A.el p (A.nat i)) 0) = v ∧ l2iI l (i - 1) v ∧ i.toNat < l.length := fun _ h => by
    obtain ⟨h1, h2, h3⟩ := hb2 v h hv'
    obtain ⟨h4, h5⟩ := hel () h
    refine ⟨?_, h3, h5⟩
    rw [h4, hv']
    have hm : A.mul .i64 x 65536 = x * 65536 := by subst hA; exact wrapi (by omega) (by omega)
    rw [hm]; subst hA; exact wrapi (by omega) (by omega)
  clear hinv q3 hb1 hb2 hdig hel hv' hbd hval hv hk hi0
  iterate 2 (all_goals try cbv; all_goals repeat' (first | with_reducible exact True.intro | with_reducible refine And.intro ?_ ?_ | intro _))
  all_goals try exact oH
  · rename_i g
    have gi : 0 ≤ i := by clear hend hstep; (subst hA; subst_vars; simp only [AR.std, natCast_eq, sH, reduceCtorEq] at *; try simp (disch := omega) only [AR.std, natCast_eq, sH, reduceCtorEq] at *); omega
    obtain ⟨e1, e2, e3⟩ := hstep () gi
    clear hend hstep
    all_goals try simp only [e1]

    obtain ⟨y1, hy1⟩ : ∃ y, y = i - 1 := ⟨_, rfl⟩
    obtain ⟨y2, hy2⟩ : ∃ y, y = v := ⟨_, rfl⟩
    refine ⟨⟨(y1, y2), ?_⟩, ?_, ?_⟩
    rotate_left
    · cbv
      exact nH
    · (subst hA; subst_vars; simp only [AR.std, natCast_eq, sH, reduceCtorEq] at *; try simp (disch := omega) only [AR.std, natCast_eq, sH, reduceCtorEq] at *); omega
    · rw [hy1, hy2]; exact e2
  · rename_i g
    rw [hend (by clear hend hstep; (subst hA; subst_vars; simp only [AR.std, natCast_eq, sH, reduceCtorEq] at *; try simp (disch := omega) only [AR.std, natCast_eq, sH, reduceCtorEq] at *); omega)]

end Tryd
end Go.Proofs
