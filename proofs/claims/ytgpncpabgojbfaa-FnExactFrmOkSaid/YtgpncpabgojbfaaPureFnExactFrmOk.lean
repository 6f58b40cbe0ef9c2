/- The plain law FnExactFrmOk: what the printed functions compute answers as the statement says. -/
import Derived.Test.YtgpncpabgojbfaaQFnExactFrmOkx2
import Derived.OpenShut
set_option linter.unusedVariables false
set_option linter.unusedSimpArgs false
namespace Go.Proofs.Ytgpncpabgojbfaa.Pure
open Go.RowKit Go.Proofs.Ytgpncpabgojbfaa.QFnExactFrmOk Go.Proofs.YtgpncpabgojbfaaW.PrintWords Go.Proofs.YtgpncpabgojbfaaW.PrintLast Go.Proofs.Ytgpncpabgojbfaa.HWords

theorem bd64 {x : Int} (h : (Lit.int .i64 x).wf = true) : -9223372036854775808 ≤ x ∧ x ≤ 9223372036854775807 := bounds_i64 h
theorem wrap_id {x : Int} (h0 : -9223372036854775808 ≤ x) (h1 : x ≤ 9223372036854775807) : wrap64 x = x := by unfold wrap64; omega
theorem wrap_l (x y : Int) : wrap64 (wrap64 x + y) = wrap64 (x + y) := by unfold wrap64; omega
theorem wrap_r (x y : Int) : wrap64 (x + wrap64 y) = wrap64 (x + y) := by unfold wrap64; omega
theorem getD_at (l : List Int) (i : Nat) (h : i < l.length) : rd l (i : Int) = l[i] := by
  unfold rd
  rw [show ((i : Int)).toNat = i from by omega, List.getD_eq_getElem?_getD, List.getElem?_eq_getElem h]
  rfl
/-- The plain 'within bounds'. -/
def ibB (n lo hi : Int) : Bool := decide (lo ≤ n) && decide (n ≤ hi)
/-- As many as must be, each within a bound. -/
def okB (l : List Int) (n m : Int) : Bool := decide ((l.length : Int) = n) && l.all (fun x => ibB x (wrap64 (-m)) m)
theorem ibB_iff {n lo hi : Int} : ibB n lo hi = true ↔ lo ≤ n ∧ n ≤ hi := by unfold ibB; simp
theorem okB_iff {l : List Int} {n m : Int} : okB l n m = true ↔ (l.length : Int) = n ∧ ∀ x ∈ l, wrap64 (-m) ≤ x ∧ x ≤ m := by
  unfold okB ibB; simp

theorem sz_int (l : List Int) (n : Int) (h0 : 0 ≤ n) (h1 : n ≤ 1048576) (hl : l.length ≤ 9223372036854775807) :
    ∃ t, laws_szIntS.f l n = some t ∧ (t < 0 ∨ (0 ≤ t ∧ t + l.length = n)) := by
  unfold laws_szIntS.f
  have e : wrap64 (n - (l.length : Int)) = n - (l.length : Int) := wrap_id (by omega) (by omega)
  rw [e]
  by_cases h : n - (l.length : Int) < 0
  · rw [if_pos h]; exact ⟨_, rfl, .inl (by decide)⟩
  · rw [if_neg h]; exact ⟨_, rfl, .inr ⟨by omega, by omega⟩⟩

theorem sz_frm (C D : List Int) (K : Int) (n : Int) (h0 : 0 ≤ n) (h1 : n ≤ 1048576) (hc : C.length ≤ 9223372036854775807) (hd : D.length ≤ 9223372036854775807) :
    ∃ t, laws_szFrmForm.f C D K n = some t ∧ (t < 0 ∨ (0 ≤ t ∧ t + C.length + D.length = n)) := by
  unfold laws_szFrmForm.f
  obtain ⟨t, e, h⟩ := sz_int C n h0 h1 hc
  rw [e]; simp only [Option.bind_some, if_true, bne_self_eq_false, Bool.false_eq_true, if_false]
  rcases h with h | ⟨ha, hb⟩
  · rw [if_pos h]; exact ⟨_, rfl, .inl (by decide)⟩
  · rw [if_neg (by omega)]
    obtain ⟨u, e2, h2⟩ := sz_int D t ha (by omega) hd
    rw [e2]; simp only [Option.bind_some, if_true, bne_self_eq_false, Bool.false_eq_true, if_false]
    rcases h2 with h2 | ⟨hc2, hd2⟩
    · rw [if_pos h2]; exact ⟨_, rfl, .inl (by decide)⟩
    · rw [if_neg (by omega)]; exact ⟨_, rfl, .inr ⟨by omega, by omega⟩⟩

theorem set_take (l : List Int) (i : Nat) (h : i < l.length) :
    (l.take i ++ List.replicate (l.length - i) (0 : Int)).set i l[i] = l.take (i + 1) ++ List.replicate (l.length - (i + 1)) 0 := by
  rw [List.set_append_right _ _ (by rw [List.length_take]; omega), List.length_take, Nat.min_eq_left (by omega), Nat.sub_self]
  obtain ⟨m, hm⟩ : ∃ m, l.length - i = m + 1 := ⟨l.length - i - 1, by omega⟩
  rw [hm, List.replicate_succ, List.set_cons_zero, show l.length - (i + 1) = m from by omega, List.take_succ_eq_append_getElem h, List.append_assoc]
  rfl
theorem to_loop (l : List Int) (hl : l.length ≤ 1048576) (d : Nat) : ∀ (k i : Nat), i + d = l.length → d < k →
    laws_toIntS.l0 k l (l.take i ++ List.replicate (l.length - i) 0) (i : Int) = some l := by
  induction d with
  | zero =>
    intro k i hi hk
    obtain ⟨k, rfl⟩ : ∃ m, k = m + 1 := ⟨k - 1, by omega⟩
    simp only [laws_toIntS.l0]
    rw [if_neg (by omega), show i = l.length from by omega]
    simp
  | succ d ih =>
    intro k i hi hk
    obtain ⟨k, rfl⟩ : ∃ m, k = m + 1 := ⟨k - 1, by omega⟩
    have hlt : i < l.length := by omega
    simp only [laws_toIntS.l0]
    have hlen : (l.take i ++ List.replicate (l.length - i) (0 : Int)).length = l.length := by simp; omega
    rw [if_pos (by omega), if_pos (by omega), if_pos (by rw [hlen]; omega), getD_at l i hlt, show ((i : Int)).toNat = i from by omega, set_take l i hlt,
      wrap_id (by omega) (by omega), show (i : Int) + 1 = ((i + 1 : Nat) : Int) from by omega]
    exact ih k (i + 1) (by omega) (by omega)
theorem to_int (l : List Int) (k : Nat) (hk : l.length < k) (hl : l.length ≤ 1048576) : laws_toIntS.f k l = some l := by
  unfold laws_toIntS.f
  rw [if_pos (by omega), if_pos (by omega), show ((l.length : Int)).toNat = l.length from by omega]
  have := to_loop l hl l.length k 0 (by omega) hk
  simpa using this

theorem to_frm (C D : List Int) (K : Int) (k : Nat) (hc : C.length < k) (hd : D.length < k) (hc2 : C.length ≤ 1048576) (hd2 : D.length ≤ 1048576) : laws_toFrmForm.f k C D K = some (C, D, K) := by
  unfold laws_toFrmForm.f
  rw [to_int C k hc hc2]; simp only [Option.bind_some, if_true, bne_self_eq_false, Bool.false_eq_true, if_false]
  rw [to_int D k hd hd2]; simp only [Option.bind_some, if_true, bne_self_eq_false, Bool.false_eq_true, if_false]

theorem eq_loop (l : List Int) (hl : l.length ≤ 1048576) (d : Nat) : ∀ (k i : Nat), i + d = l.length → d < k → laws_eqIntS.l0 k l l (i : Int) = some true := by
  induction d with
  | zero =>
    intro k i hi hk
    obtain ⟨k, rfl⟩ : ∃ m, k = m + 1 := ⟨k - 1, by omega⟩
    simp only [laws_eqIntS.l0]
    rw [if_neg (by omega)]
  | succ d ih =>
    intro k i hi hk
    obtain ⟨k, rfl⟩ : ∃ m, k = m + 1 := ⟨k - 1, by omega⟩
    simp only [laws_eqIntS.l0, if_true]
    rw [if_pos (by omega), if_pos (by omega), if_pos (by omega), wrap_id (by omega) (by omega), show (i : Int) + 1 = ((i + 1 : Nat) : Int) from by omega]
    exact ih k (i + 1) (by omega) (by omega)
theorem eq_int (l : List Int) (k : Nat) (hk : l.length < k) (hl : l.length ≤ 1048576) : laws_eqIntS.f k l l = some true := by
  unfold laws_eqIntS.f
  rw [if_pos rfl]
  exact eq_loop l hl l.length k 0 (by omega) hk

theorem eq_frm (C D : List Int) (K : Int) (k : Nat) (hc : C.length < k) (hd : D.length < k) (hc2 : C.length ≤ 1048576) (hd2 : D.length ≤ 1048576) : laws_eqFrmForm.f k C D K C D K = some true := by
  unfold laws_eqFrmForm.f
  rw [eq_int C k hc hc2]; simp only [Option.bind_some, if_true, bne_self_eq_false, Bool.false_eq_true, if_false]
  rw [eq_int D k hd hd2]; simp only [Option.bind_some, if_true, bne_self_eq_false, Bool.false_eq_true, if_false]

theorem l1In_eq (n lo hi : Int) : spec_l1In.f n lo hi = some (ibB n lo hi) := by
  unfold spec_l1In.f ibB
  by_cases h : n ≥ lo
  · rw [if_pos h]; simp [h]
  · rw [if_neg h]; simp [h]

theorem in_eq (n lo hi : Int) : impl_in.f n lo hi = some (ibB n lo hi) := by
  unfold impl_in.f ibB
  by_cases h : n ≥ lo
  · rw [if_pos h]; simp [h]
  · rw [if_neg h]; simp [h]

theorem within_eq (l : List Int) (n m : Int) : impl_within.f l n m = some (okB l n m) := by
  unfold impl_within.f okB
  rw [List.all_eq_not_any_not]
  rfl

theorem all_loop (l : List Int) (m : Int) (hl : l.length ≤ 1048576) (d : Nat) : ∀ (k i : Nat), i + d = l.length → d < k → spec_l1All.l0 k l m (i : Int) = some ((l.drop i).all fun x => ibB x (wrap64 (-m)) m) := by
  induction d with
  | zero =>
    intro k i hi hk
    obtain ⟨k, rfl⟩ : ∃ m, k = m + 1 := ⟨k - 1, by omega⟩
    simp only [spec_l1All.l0]
    rw [if_neg (by omega), List.drop_of_length_le (by omega)]
    rfl
  | succ d ih =>
    intro k i hi hk
    obtain ⟨k, rfl⟩ : ∃ m, k = m + 1 := ⟨k - 1, by omega⟩
    have hlt : i < l.length := by omega
    simp only [spec_l1All.l0]
    rw [if_pos (by omega), if_pos (by omega), l1In_eq, getD_at l i hlt, List.drop_eq_getElem_cons hlt, List.all_cons]
    simp only [Option.bind_some, if_true, bne_self_eq_false, Bool.false_eq_true, if_false]
    cases ibB l[i] (wrap64 (-m)) m with
    | false => rfl
    | true =>
      rw [if_pos rfl, wrap_id (by omega) (by omega), show (i : Int) + 1 = ((i + 1 : Nat) : Int) from by omega, ih k (i + 1) (by omega) (by omega)]
      rfl
theorem l1All_eq (l : List Int) (n m : Int) (k : Nat) (hk : l.length < k) (hl : l.length ≤ 1048576) : spec_l1All.f k l n m = some (okB l n m) := by
  unfold spec_l1All.f okB
  by_cases h : (l.length : Int) = n
  · rw [if_pos h, decide_eq_true h, Bool.true_and]
    have := all_loop l m hl l.length k 0 (by omega) hk
    simpa using this
  · rw [if_neg h, decide_eq_false h, Bool.false_and]

def frmB (C D : List Int) (K : Int) : Bool := okB C 3 10000000 && (okB D 2 10000000 && ibB K (-10000000) 10000000)

theorem spec_Frm_eq (C D : List Int) (K : Int) (k : Nat) (hc : C.length < k) (hd : D.length < k) (hc2 : C.length ≤ 1048576) (hd2 : D.length ≤ 1048576) : spec_FrmOk.f k C D K = some (frmB C D K) := by
  unfold spec_FrmOk.f frmB
  rw [l1All_eq C _ _ k hc hc2]; simp only [Option.bind_some, if_true, bne_self_eq_false, Bool.false_eq_true, if_false]
  cases okB C 3 10000000 with
  | false => rfl
  | true =>
    rw [if_pos rfl, l1All_eq D _ _ k hd hd2]; simp only [Option.bind_some, if_true, bne_self_eq_false, Bool.false_eq_true, if_false]
    cases okB D 2 10000000 with
    | false => rfl
    | true => rw [if_pos rfl, l1In_eq]; rfl

theorem impl_Frm_eq (C D : List Int) (K : Int) : impl_FrmOk.f C D K = some (frmB C D K) := by
  unfold impl_FrmOk.f frmB
  rw [within_eq]; simp only [Option.bind_some, if_true, bne_self_eq_false, Bool.false_eq_true, if_false]
  cases okB C 3 10000000 with
  | false => rfl
  | true =>
    rw [if_pos rfl, within_eq]; simp only [Option.bind_some, if_true, bne_self_eq_false, Bool.false_eq_true, if_false]
    cases okB D 2 10000000 with
    | false => rfl
    | true => rw [if_pos rfl, in_eq]; rfl

/-- The form that is one pot, or nothing. -/
def potF (v : Int) : List Int × List Int × Int := if v = 0 then ([1, 0, 0], [0, 0], 0) else if v = 1 then ([0, 1, 0], [0, 0], 0) else if v = 2 then ([0, 0, 1], [0, 0], 0) else ([], [], 0)
theorem potF_len (v : Int) : (potF v).1.length ≤ 3 ∧ (potF v).2.1.length ≤ 2 := by
  unfold potF; repeat' split
  all_goals simp

theorem FnExactFrmOk : laws_FnExactFrmOk.Pure := by
  intro C D K hC hD hK
  refine ⟨1048578, ?_⟩
  unfold laws_FnExactFrmOk.f
  obtain ⟨t, e, h⟩ := sz_frm C D K 1048576 (by omega) (by omega) hC.1 hD.1
  rw [e]; simp only [Option.bind_some, if_true, bne_self_eq_false, Bool.false_eq_true, if_false]
  rcases h with h | ⟨h1, h2⟩
  · rw [if_pos h]
  · rw [if_neg (by omega), to_frm C D K _ (by omega) (by omega) (by omega) (by omega)]; simp only [Option.bind_some, if_true, bne_self_eq_false, Bool.false_eq_true, if_false]
    rw [spec_Frm_eq C D K _ (by omega) (by omega) (by omega) (by omega)]; simp only [Option.bind_some, if_true, bne_self_eq_false, Bool.false_eq_true, if_false]
    rw [impl_Frm_eq]; simp only [Option.bind_some, if_true, bne_self_eq_false, Bool.false_eq_true, if_false]
    rw [eq_frm C D K _ (by omega) (by omega) (by omega) (by omega)]; rfl

end Go.Proofs.Ytgpncpabgojbfaa.Pure
