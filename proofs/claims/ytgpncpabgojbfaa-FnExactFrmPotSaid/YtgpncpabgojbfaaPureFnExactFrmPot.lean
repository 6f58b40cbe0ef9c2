/- The plain law FnExactFrmPot: what the printed functions compute answers as the statement says. -/
import Derived.Test.YtgpncpabgojbfaaQFnExactFrmPotx2
import Derived.OpenShut
set_option linter.unusedVariables false
set_option linter.unusedSimpArgs false
namespace Go.Proofs.Ytgpncpabgojbfaa.Pure
open Go.RowKit Go.Proofs.Ytgpncpabgojbfaa.QFnExactFrmPot Go.Proofs.YtgpncpabgojbfaaW.PrintWords Go.Proofs.YtgpncpabgojbfaaW.PrintLast Go.Proofs.Ytgpncpabgojbfaa.HWords

theorem bd64 {x : Int} (h : (Lit.int .i64 x).wf = true) : -9223372036854775808 ≤ x ∧ x ≤ 9223372036854775807 := bounds_i64 h
theorem wrap_id {x : Int} (h0 : -9223372036854775808 ≤ x) (h1 : x ≤ 9223372036854775807) : wrap64 x = x := by unfold wrap64; omega
theorem wrap_l (x y : Int) : wrap64 (wrap64 x + y) = wrap64 (x + y) := by unfold wrap64; omega
theorem wrap_r (x y : Int) : wrap64 (x + wrap64 y) = wrap64 (x + y) := by unfold wrap64; omega
theorem getD_at (l : List Int) (i : Nat) (h : i < l.length) : rd l (i : Int) = l[i] := by
  unfold rd
  rw [show ((i : Int)).toNat = i from by omega, List.getD_eq_getElem?_getD, List.getElem?_eq_getElem h]
  rfl
/-- The plain 'within bounds'. -/
def ibB (n lo hi : Int) : Bool := decide (lo ≤ n) && decide (n ≤ hi)
/-- As many as must be, each within a bound. -/
def okB (l : List Int) (n m : Int) : Bool := decide ((l.length : Int) = n) && l.all (fun x => ibB x (wrap64 (-m)) m)
theorem ibB_iff {n lo hi : Int} : ibB n lo hi = true ↔ lo ≤ n ∧ n ≤ hi := by unfold ibB; simp
theorem okB_iff {l : List Int} {n m : Int} : okB l n m = true ↔ (l.length : Int) = n ∧ ∀ x ∈ l, wrap64 (-m) ≤ x ∧ x ≤ m := by
  unfold okB ibB; simp

theorem eq_loop (l : List Int) (hl : l.length ≤ 1048576) (d : Nat) : ∀ (k i : Nat), i + d = l.length → d < k → laws_eqIntS.l0 k l l (i : Int) = some true := by
  induction d with
  | zero =>
    intro k i hi hk
    obtain ⟨k, rfl⟩ : ∃ m, k = m + 1 := ⟨k - 1, by omega⟩
    simp only [laws_eqIntS.l0]
    rw [if_neg (by omega)]
  | succ d ih =>
    intro k i hi hk
    obtain ⟨k, rfl⟩ : ∃ m, k = m + 1 := ⟨k - 1, by omega⟩
    simp only [laws_eqIntS.l0, if_true]
    rw [if_pos (by omega), if_pos (by omega), if_pos (by omega), wrap_id (by omega) (by omega), show (i : Int) + 1 = ((i + 1 : Nat) : Int) from by omega]
    exact ih k (i + 1) (by omega) (by omega)
theorem eq_int (l : List Int) (k : Nat) (hk : l.length < k) (hl : l.length ≤ 1048576) : laws_eqIntS.f k l l = some true := by
  unfold laws_eqIntS.f
  rw [if_pos rfl]
  exact eq_loop l hl l.length k 0 (by omega) hk

theorem eq_frm (C D : List Int) (K : Int) (k : Nat) (hc : C.length < k) (hd : D.length < k) (hc2 : C.length ≤ 1048576) (hd2 : D.length ≤ 1048576) : laws_eqFrmForm.f k C D K C D K = some true := by
  unfold laws_eqFrmForm.f
  rw [eq_int C k hc hc2]; simp only [Option.bind_some, if_true, bne_self_eq_false, Bool.false_eq_true, if_false]
  rw [eq_int D k hd hd2]; simp only [Option.bind_some, if_true, bne_self_eq_false, Bool.false_eq_true, if_false]

/-- The numbers from m on, so many. -/
def seqI (m : Int) (n : Nat) : List Int := (List.range n).map fun (i : Nat) => m + (i : Int)
theorem seqI_length (m : Int) (n : Nat) : (seqI m n).length = n := by simp [seqI]
theorem seqI_at (m : Int) (n i : Nat) (h : i < n) : rd (seqI m n) (i : Int) = m + i := by
  rw [getD_at _ _ (by rw [seqI_length]; exact h)]
  simp [seqI]
theorem seqI_set (l : List Int) (m : Int) (i : Nat) (h : i < l.length) : (seqI m i ++ l.drop i).set i (m + i) = seqI m (i + 1) ++ l.drop (i + 1) := by
  rw [List.set_append_right _ _ (by rw [seqI_length]; omega), seqI_length, Nat.sub_self, List.drop_eq_getElem_cons h, List.set_cons_zero]
  unfold seqI
  rw [List.range_succ]
  simp
theorem mark_loop (l : List Int) (m : Int) (hl : l.length ≤ 1048576) (h0 : 0 ≤ m) (h1 : m ≤ 1099511627776) (d : Nat) : ∀ (k i : Nat), i + d = l.length → d < k →
    laws_markIntS.l0 k (seqI m i ++ l.drop i) (m + i) (i : Int) = some (m + l.length, seqI m l.length) := by
  induction d with
  | zero =>
    intro k i hi hk
    obtain ⟨k, rfl⟩ : ∃ m, k = m + 1 := ⟨k - 1, by omega⟩
    have hi' : i = l.length := by omega
    subst hi'
    simp only [laws_markIntS.l0]
    rw [if_neg (by simp [seqI_length])]
    simp
  | succ d ih =>
    intro k i hi hk
    obtain ⟨k, rfl⟩ : ∃ m, k = m + 1 := ⟨k - 1, by omega⟩
    have hlt : i < l.length := by omega
    simp only [laws_markIntS.l0]
    rw [if_pos (by simp [seqI_length]; omega), if_pos (by omega), show ((i : Int)).toNat = i from by omega, seqI_set l m i hlt, wrap_id (by omega) (by omega), wrap_id (by omega) (by omega),
      show m + (i : Int) + 1 = m + ((i + 1 : Nat) : Int) from by omega, show (i : Int) + 1 = ((i + 1 : Nat) : Int) from by omega]
    exact ih k (i + 1) (by omega) (by omega)
theorem mark_int (l : List Int) (m : Int) (k : Nat) (hk : l.length < k) (hl : l.length ≤ 1048576) (h0 : 0 ≤ m) (h1 : m ≤ 1099511627776) : laws_markIntS.f k l m = some (m + l.length, seqI m l.length) := by
  unfold laws_markIntS.f
  have := mark_loop l m hl h0 h1 l.length k 0 (by omega) hk
  simpa [seqI] using this
theorem held_loop (n : Nat) (m : Int) (hl : n ≤ 1048576) (h0 : 0 ≤ m) (h1 : m ≤ 1099511627776) (d : Nat) : ∀ (k i : Nat), i + d = n → d < k →
    laws_heldIntS.l0 k (seqI m n) (m + i) (i : Int) = some (m + n) := by
  induction d with
  | zero =>
    intro k i hi hk
    obtain ⟨k, rfl⟩ : ∃ m, k = m + 1 := ⟨k - 1, by omega⟩
    have hi' : i = n := by omega
    subst hi'
    simp only [laws_heldIntS.l0]
    rw [if_neg (by simp [seqI_length])]
  | succ d ih =>
    intro k i hi hk
    obtain ⟨k, rfl⟩ : ∃ m, k = m + 1 := ⟨k - 1, by omega⟩
    have hlt : i < n := by omega
    simp only [laws_heldIntS.l0]
    rw [if_pos (by simp [seqI_length]; omega), if_pos (by omega), if_pos (seqI_at m n i hlt), wrap_id (by omega) (by omega), wrap_id (by omega) (by omega),
      show m + (i : Int) + 1 = m + ((i + 1 : Nat) : Int) from by omega, show (i : Int) + 1 = ((i + 1 : Nat) : Int) from by omega]
    exact ih k (i + 1) (by omega) (by omega)
theorem held_int (n : Nat) (m : Int) (k : Nat) (hk : n < k) (hl : n ≤ 1048576) (h0 : 0 ≤ m) (h1 : m ≤ 1099511627776) : laws_heldIntS.f k (seqI m n) m = some (m + n) := by
  unfold laws_heldIntS.f
  have := held_loop n m hl h0 h1 n k 0 (by omega) hk
  simpa using this

theorem mark_frm (C D : List Int) (K m : Int) (k : Nat) (hc : C.length < k) (hd : D.length < k) (hc2 : C.length ≤ 1048576) (hd2 : D.length ≤ 1048576) (h0 : 0 ≤ m) (h1 : m ≤ 1048576) :
    laws_markFrmForm.f k C D K m = some (m + C.length + D.length, seqI m C.length, seqI (m + C.length) D.length) := by
  unfold laws_markFrmForm.f
  rw [mark_int C m k hc hc2 h0 (by omega)]; simp only [Option.bind_some, if_true, bne_self_eq_false, Bool.false_eq_true, if_false]
  rw [mark_int D _ k hd hd2 (by omega) (by omega)]; simp only [Option.bind_some, if_true, bne_self_eq_false, Bool.false_eq_true, if_false]
theorem held_frm (c d : Nat) (K m : Int) (k : Nat) (hc : c < k) (hd : d < k) (hc2 : c ≤ 1048576) (hd2 : d ≤ 1048576) (h0 : 0 ≤ m) (h1 : m ≤ 1048576) :
    laws_heldFrmForm.f k (seqI m c) (seqI (m + c) d) K m = some (m + c + d) := by
  unfold laws_heldFrmForm.f
  rw [held_int c m k hc hc2 h0 (by omega)]; simp only [Option.bind_some, if_true, bne_self_eq_false, Bool.false_eq_true, if_false]
  rw [if_neg (by omega), held_int d _ k hd hd2 (by omega) (by omega)]; simp only [Option.bind_some, if_true, bne_self_eq_false, Bool.false_eq_true, if_false]
  rw [if_neg (by omega)]

theorem l1In_eq (n lo hi : Int) : spec_l1In.f n lo hi = some (ibB n lo hi) := by
  unfold spec_l1In.f ibB
  by_cases h : n ≥ lo
  · rw [if_pos h]; simp [h]
  · rw [if_neg h]; simp [h]

theorem in_eq (n lo hi : Int) : impl_in.f n lo hi = some (ibB n lo hi) := by
  unfold impl_in.f ibB
  by_cases h : n ≥ lo
  · rw [if_pos h]; simp [h]
  · rw [if_neg h]; simp [h]

def frmB (C D : List Int) (K : Int) : Bool := okB C 3 10000000 && (okB D 2 10000000 && ibB K (-10000000) 10000000)

theorem spec_Zero_eq : spec_FrmZero.f = some ([0, 0, 0], [0, 0], 0) := rfl

theorem impl_Zero_eq : impl_FrmZero.f = some ([0, 0, 0], [0, 0], 0) := rfl

/-- The form that is one pot, or nothing. -/
def potF (v : Int) : List Int × List Int × Int := if v = 0 then ([1, 0, 0], [0, 0], 0) else if v = 1 then ([0, 1, 0], [0, 0], 0) else if v = 2 then ([0, 0, 1], [0, 0], 0) else ([], [], 0)
theorem potF_len (v : Int) : (potF v).1.length ≤ 3 ∧ (potF v).2.1.length ≤ 2 := by
  unfold potF; repeat' split
  all_goals simp

theorem spec_Pot_eq (v : Int) : spec_FrmPot.f v = some (potF v) := by
  unfold spec_FrmPot.f
  rw [l1In_eq]; simp only [Option.bind_some]
  by_cases h : ibB v 0 2 = true
  · obtain ⟨h0, h1⟩ := ibB_iff.mp h
    rw [h]
    obtain rfl | rfl | rfl : v = 0 ∨ v = 1 ∨ v = 2 := by omega
    all_goals rfl
  · rw [Bool.eq_false_iff.mpr h]
    have h' : ¬ (0 ≤ v ∧ v ≤ 2) := fun hh => h (ibB_iff.mpr hh)
    unfold potF
    rw [if_neg (by omega : ¬ v = 0), if_neg (by omega : ¬ v = 1), if_neg (by omega : ¬ v = 2)]
    rfl

theorem impl_Pot_eq (v : Int) : impl_FrmPot.f v = some (potF v) := by
  unfold impl_FrmPot.f
  rw [in_eq]; simp only [Option.bind_some]
  by_cases h : ibB v 0 2 = true
  · obtain ⟨h0, h1⟩ := ibB_iff.mp h
    rw [h]
    obtain rfl | rfl | rfl : v = 0 ∨ v = 1 ∨ v = 2 := by omega
    all_goals rfl
  · rw [Bool.eq_false_iff.mpr h]
    have h' : ¬ (0 ≤ v ∧ v ≤ 2) := fun hh => h (ibB_iff.mpr hh)
    unfold potF
    rw [if_neg (by omega : ¬ v = 0), if_neg (by omega : ¬ v = 1), if_neg (by omega : ¬ v = 2)]
    rfl

theorem FnExactFrmPot : laws_FnExactFrmPot.Pure := by
  intro v hv
  obtain ⟨C, D, K, hs, hi, hc, hd⟩ : ∃ (C D : List Int) (K : Int), spec_FrmPot.f v = some (C, D, K) ∧ impl_FrmPot.f v = some (C, D, K) ∧ C.length ≤ 3 ∧ D.length ≤ 2 := ⟨_, _, _, spec_Pot_eq v, impl_Pot_eq v, (potF_len v).1, (potF_len v).2⟩
  refine ⟨1048578, ?_⟩
  unfold laws_FnExactFrmPot.f
  rw [hs, hi]; simp only [Option.bind_some, if_true, bne_self_eq_false, Bool.false_eq_true, if_false]

  rw [eq_frm C D K _ (by omega) (by omega) (by omega) (by omega)]; simp only [Option.bind_some, if_true, bne_self_eq_false, Bool.false_eq_true, if_false]
  rw [mark_frm C D K 1 _ (by omega) (by omega) (by omega) (by omega) (by omega) (by omega)]; simp only [Option.bind_some, if_true, bne_self_eq_false, Bool.false_eq_true, if_false]
  rw [held_frm C.length D.length K 1 _ (by omega) (by omega) (by omega) (by omega) (by omega) (by omega)]; simp only [Option.bind_some, if_true, bne_self_eq_false, Bool.false_eq_true, if_false]
  simp only [show ¬ ((1 : Int) + (C.length : Int) + (D.length : Int) < 0) from by omega, if_false]

end Go.Proofs.Ytgpncpabgojbfaa.Pure
