/- The plain law FnExactTrtBounds: what the printed functions compute answers as the statement says. -/
import Derived.Test.YtkklkpoelkangaaQFnExactTrtBoundsx9
import Derived.OpenShut
set_option linter.unusedVariables false
set_option linter.unusedSimpArgs false
namespace Go.Proofs.Ytkklkpoelkangaa.Pure
open Go.RowKit Go.Proofs.Ytkklkpoelkangaa.QFnExactTrtBounds Go.Proofs.YtkklkpoelkangaaW.PrintWords Go.Proofs.YtkklkpoelkangaaW.PrintLast Go.Proofs.Ytkklkpoelkangaa.HWords

theorem bd64 {x : Int} (h : (Lit.int .i64 x).wf = true) : -9223372036854775808 ≤ x ∧ x ≤ 9223372036854775807 := bounds_i64 h
theorem wrap_id {x : Int} (h0 : -9223372036854775808 ≤ x) (h1 : x ≤ 9223372036854775807) : wrap64 x = x := by unfold wrap64; omega
theorem wrap_l (x y : Int) : wrap64 (wrap64 x + y) = wrap64 (x + y) := by unfold wrap64; omega
theorem wrap_r (x y : Int) : wrap64 (x + wrap64 y) = wrap64 (x + y) := by unfold wrap64; omega
theorem wrap_ll (x y z : Int) : wrap64 (wrap64 x + y + z) = wrap64 (x + y + z) := by unfold wrap64; omega
theorem wrap_lr (x y z : Int) : wrap64 (x + wrap64 y + z) = wrap64 (x + y + z) := by unfold wrap64; omega
theorem getD_at (l : List Int) (i : Nat) (h : i < l.length) : rd l (i : Int) = l[i] := by
  unfold rd
  rw [show ((i : Int)).toNat = i from by omega, List.getD_eq_getElem?_getD, List.getElem?_eq_getElem h]
  rfl
/-- The plain 'within bounds'. -/
def ibB (n lo hi : Int) : Bool := decide (lo ≤ n) && decide (n ≤ hi)
/-- As many as must be, each within a bound. -/
def okB (l : List Int) (n m : Int) : Bool := decide ((l.length : Int) = n) && l.all (fun x => ibB x (wrap64 (-m)) m)
theorem ibB_iff {n lo hi : Int} : ibB n lo hi = true ↔ lo ≤ n ∧ n ≤ hi := by unfold ibB; simp
theorem okB_iff {l : List Int} {n m : Int} : okB l n m = true ↔ (l.length : Int) = n ∧ ∀ x ∈ l, wrap64 (-m) ≤ x ∧ x ≤ m := by
  unfold okB ibB; simp

theorem sz_int (l : List Int) (n : Int) (h0 : 0 ≤ n) (h1 : n ≤ 1048576) (hl : l.length ≤ 9223372036854775807) :
    ∃ t, laws_szIntS.f l n = some t ∧ (t < 0 ∨ (0 ≤ t ∧ t + l.length = n)) := by
  unfold laws_szIntS.f
  have e : wrap64 (n - (l.length : Int)) = n - (l.length : Int) := wrap_id (by omega) (by omega)
  rw [e]
  by_cases h : n - (l.length : Int) < 0
  · rw [if_pos h]; exact ⟨_, rfl, .inl (by decide)⟩
  · rw [if_neg h]; exact ⟨_, rfl, .inr ⟨by omega, by omega⟩⟩

theorem sz_frm (C D : List Int) (K : Int) (n : Int) (h0 : 0 ≤ n) (h1 : n ≤ 1048576) (hc : C.length ≤ 9223372036854775807) (hd : D.length ≤ 9223372036854775807) :
    ∃ t, laws_szFrmForm.f C D K n = some t ∧ (t < 0 ∨ (0 ≤ t ∧ t + C.length + D.length = n)) := by
  unfold laws_szFrmForm.f
  obtain ⟨t, e, h⟩ := sz_int C n h0 h1 hc
  rw [e]; simp only [Option.bind_some, if_true, bne_self_eq_false, Bool.false_eq_true, if_false]
  rcases h with h | ⟨ha, hb⟩
  · rw [if_pos h]; exact ⟨_, rfl, .inl (by decide)⟩
  · rw [if_neg (by omega)]
    obtain ⟨u, e2, h2⟩ := sz_int D t ha (by omega) hd
    rw [e2]; simp only [Option.bind_some, if_true, bne_self_eq_false, Bool.false_eq_true, if_false]
    rcases h2 with h2 | ⟨hc2, hd2⟩
    · rw [if_pos h2]; exact ⟨_, rfl, .inl (by decide)⟩
    · rw [if_neg (by omega)]; exact ⟨_, rfl, .inr ⟨by omega, by omega⟩⟩

theorem sz_trt (C D : List Int) (n : Int) (h0 : 0 ≤ n) (h1 : n ≤ 1048576) (hc : C.length ≤ 9223372036854775807) (hd : D.length ≤ 9223372036854775807) :
    ∃ t, laws_szTrtTreaty.f C D n = some t ∧ (t < 0 ∨ (0 ≤ t ∧ t + C.length + D.length = n)) := by
  unfold laws_szTrtTreaty.f
  obtain ⟨t, e, h⟩ := sz_int C n h0 h1 hc
  rw [e]; simp only [Option.bind_some, if_true, bne_self_eq_false, Bool.false_eq_true, if_false]
  rcases h with h | ⟨ha, hb⟩
  · rw [if_pos h]; exact ⟨_, rfl, .inl (by decide)⟩
  · rw [if_neg (by omega)]
    obtain ⟨u, e2, h2⟩ := sz_int D t ha (by omega) hd
    rw [e2]; simp only [Option.bind_some, if_true, bne_self_eq_false, Bool.false_eq_true, if_false]
    rcases h2 with h2 | ⟨hc2, hd2⟩
    · rw [if_pos h2]; exact ⟨_, rfl, .inl (by decide)⟩
    · rw [if_neg (by omega)]; exact ⟨_, rfl, .inr ⟨by omega, by omega⟩⟩

theorem set_take (l : List Int) (i : Nat) (h : i < l.length) :
    (l.take i ++ List.replicate (l.length - i) (0 : Int)).set i l[i] = l.take (i + 1) ++ List.replicate (l.length - (i + 1)) 0 := by
  rw [List.set_append_right _ _ (by rw [List.length_take]; omega), List.length_take, Nat.min_eq_left (by omega), Nat.sub_self]
  obtain ⟨m, hm⟩ : ∃ m, l.length - i = m + 1 := ⟨l.length - i - 1, by omega⟩
  rw [hm, List.replicate_succ, List.set_cons_zero, show l.length - (i + 1) = m from by omega, List.take_succ_eq_append_getElem h, List.append_assoc]
  rfl
theorem to_loop (l : List Int) (hl : l.length ≤ 1048576) (d : Nat) : ∀ (k i : Nat), i + d = l.length → d < k →
    laws_toIntS.l0 k l (l.take i ++ List.replicate (l.length - i) 0) (i : Int) = some l := by
  induction d with
  | zero =>
    intro k i hi hk
    obtain ⟨k, rfl⟩ : ∃ m, k = m + 1 := ⟨k - 1, by omega⟩
    simp only [laws_toIntS.l0]
    rw [if_neg (by omega), show i = l.length from by omega]
    simp
  | succ d ih =>
    intro k i hi hk
    obtain ⟨k, rfl⟩ : ∃ m, k = m + 1 := ⟨k - 1, by omega⟩
    have hlt : i < l.length := by omega
    simp only [laws_toIntS.l0]
    have hlen : (l.take i ++ List.replicate (l.length - i) (0 : Int)).length = l.length := by simp; omega
    rw [if_pos (by omega), if_pos (by omega), if_pos (by rw [hlen]; omega), getD_at l i hlt, show ((i : Int)).toNat = i from by omega, set_take l i hlt,
      wrap_id (by omega) (by omega), show (i : Int) + 1 = ((i + 1 : Nat) : Int) from by omega]
    exact ih k (i + 1) (by omega) (by omega)
theorem to_int (l : List Int) (k : Nat) (hk : l.length < k) (hl : l.length ≤ 1048576) : laws_toIntS.f k l = some l := by
  unfold laws_toIntS.f
  rw [if_pos (by omega), if_pos (by omega), show ((l.length : Int)).toNat = l.length from by omega]
  have := to_loop l hl l.length k 0 (by omega) hk
  simpa using this

theorem to_frm (C D : List Int) (K : Int) (k : Nat) (hc : C.length < k) (hd : D.length < k) (hc2 : C.length ≤ 1048576) (hd2 : D.length ≤ 1048576) : laws_toFrmForm.f k C D K = some (C, D, K) := by
  unfold laws_toFrmForm.f
  rw [to_int C k hc hc2]; simp only [Option.bind_some, if_true, bne_self_eq_false, Bool.false_eq_true, if_false]
  rw [to_int D k hd hd2]; simp only [Option.bind_some, if_true, bne_self_eq_false, Bool.false_eq_true, if_false]

theorem to_trt (C D : List Int) (k : Nat) (hc : C.length < k) (hd : D.length < k) (hc2 : C.length ≤ 1048576) (hd2 : D.length ≤ 1048576) : laws_toTrtTreaty.f k C D = some (C, D) := by
  unfold laws_toTrtTreaty.f
  rw [to_int C k hc hc2]; simp only [Option.bind_some, if_true, bne_self_eq_false, Bool.false_eq_true, if_false]
  rw [to_int D k hd hd2]; simp only [Option.bind_some, if_true, bne_self_eq_false, Bool.false_eq_true, if_false]

theorem eq_loop (l : List Int) (hl : l.length ≤ 1048576) (d : Nat) : ∀ (k i : Nat), i + d = l.length → d < k → laws_eqIntS.l0 k l l (i : Int) = some true := by
  induction d with
  | zero =>
    intro k i hi hk
    obtain ⟨k, rfl⟩ : ∃ m, k = m + 1 := ⟨k - 1, by omega⟩
    simp only [laws_eqIntS.l0]
    rw [if_neg (by omega)]
  | succ d ih =>
    intro k i hi hk
    obtain ⟨k, rfl⟩ : ∃ m, k = m + 1 := ⟨k - 1, by omega⟩
    simp only [laws_eqIntS.l0, if_true]
    rw [if_pos (by omega), if_pos (by omega), if_pos (by omega), wrap_id (by omega) (by omega), show (i : Int) + 1 = ((i + 1 : Nat) : Int) from by omega]
    exact ih k (i + 1) (by omega) (by omega)
theorem eq_int (l : List Int) (k : Nat) (hk : l.length < k) (hl : l.length ≤ 1048576) : laws_eqIntS.f k l l = some true := by
  unfold laws_eqIntS.f
  rw [if_pos rfl]
  exact eq_loop l hl l.length k 0 (by omega) hk

theorem eq_frm (C D : List Int) (K : Int) (k : Nat) (hc : C.length < k) (hd : D.length < k) (hc2 : C.length ≤ 1048576) (hd2 : D.length ≤ 1048576) : laws_eqFrmForm.f k C D K C D K = some true := by
  unfold laws_eqFrmForm.f
  rw [eq_int C k hc hc2]; simp only [Option.bind_some, if_true, bne_self_eq_false, Bool.false_eq_true, if_false]
  rw [eq_int D k hd hd2]; simp only [Option.bind_some, if_true, bne_self_eq_false, Bool.false_eq_true, if_false]

theorem eq_trt (C D : List Int) (k : Nat) (hc : C.length < k) (hd : D.length < k) (hc2 : C.length ≤ 1048576) (hd2 : D.length ≤ 1048576) : laws_eqTrtTreaty.f k C D C D = some true := by
  unfold laws_eqTrtTreaty.f
  rw [eq_int C k hc hc2]; simp only [Option.bind_some, if_true, bne_self_eq_false, Bool.false_eq_true, if_false]
  rw [eq_int D k hd hd2]; simp only [Option.bind_some, if_true, bne_self_eq_false, Bool.false_eq_true, if_false]

theorem l1In_eq (n lo hi : Int) : spec_l1In.f n lo hi = some (ibB n lo hi) := by
  unfold spec_l1In.f ibB
  by_cases h : n ≥ lo
  · rw [if_pos h]; simp [h]
  · rw [if_neg h]; simp [h]

theorem in_eq (n lo hi : Int) : impl_in.f n lo hi = some (ibB n lo hi) := by
  unfold impl_in.f ibB
  by_cases h : n ≥ lo
  · rw [if_pos h]; simp [h]
  · rw [if_neg h]; simp [h]

theorem within_eq (l : List Int) (n m : Int) : impl_within.f l n m = some (okB l n m) := by
  unfold impl_within.f okB
  rw [List.all_eq_not_any_not]
  rfl

theorem all_loop (l : List Int) (m : Int) (hl : l.length ≤ 1048576) (d : Nat) : ∀ (k i : Nat), i + d = l.length → d < k → spec_l1All.l0 k l m (i : Int) = some ((l.drop i).all fun x => ibB x (wrap64 (-m)) m) := by
  induction d with
  | zero =>
    intro k i hi hk
    obtain ⟨k, rfl⟩ : ∃ m, k = m + 1 := ⟨k - 1, by omega⟩
    simp only [spec_l1All.l0]
    rw [if_neg (by omega), List.drop_of_length_le (by omega)]
    rfl
  | succ d ih =>
    intro k i hi hk
    obtain ⟨k, rfl⟩ : ∃ m, k = m + 1 := ⟨k - 1, by omega⟩
    have hlt : i < l.length := by omega
    simp only [spec_l1All.l0]
    rw [if_pos (by omega), if_pos (by omega), l1In_eq, getD_at l i hlt, List.drop_eq_getElem_cons hlt, List.all_cons]
    simp only [Option.bind_some, if_true, bne_self_eq_false, Bool.false_eq_true, if_false]
    cases ibB l[i] (wrap64 (-m)) m with
    | false => rfl
    | true =>
      rw [if_pos rfl, wrap_id (by omega) (by omega), show (i : Int) + 1 = ((i + 1 : Nat) : Int) from by omega, ih k (i + 1) (by omega) (by omega)]
      rfl
theorem l1All_eq (l : List Int) (n m : Int) (k : Nat) (hk : l.length < k) (hl : l.length ≤ 1048576) : spec_l1All.f k l n m = some (okB l n m) := by
  unfold spec_l1All.f okB
  by_cases h : (l.length : Int) = n
  · rw [if_pos h, decide_eq_true h, Bool.true_and]
    have := all_loop l m hl l.length k 0 (by omega) hk
    simpa using this
  · rw [if_neg h, decide_eq_false h, Bool.false_and]

theorem spec_Val_eq (l : List Int) (k : Nat) (hk : l.length < k) (hl : l.length ≤ 1048576) : spec_ValOk.f k l = some (okB l 3 10000) := by
  unfold spec_ValOk.f
  rw [l1All_eq l _ _ k hk hl]; rfl

theorem impl_Val_eq (l : List Int) : impl_ValOk.f l = some (okB l 3 10000) := by
  unfold impl_ValOk.f
  rw [within_eq]; rfl

theorem spec_Arg_eq (l : List Int) (k : Nat) (hk : l.length < k) (hl : l.length ≤ 1048576) : spec_ArgOk.f k l = some (okB l 2 9) := by
  unfold spec_ArgOk.f
  rw [l1All_eq l _ _ k hk hl]; rfl

theorem impl_Arg_eq (l : List Int) : impl_ArgOk.f l = some (okB l 2 9) := by
  unfold impl_ArgOk.f
  rw [within_eq]; rfl

def frmB (C D : List Int) (K : Int) : Bool := okB C 3 10000000 && (okB D 2 10000000 && ibB K (-10000000) 10000000)

theorem spec_Frm_eq (C D : List Int) (K : Int) (k : Nat) (hc : C.length < k) (hd : D.length < k) (hc2 : C.length ≤ 1048576) (hd2 : D.length ≤ 1048576) : spec_FrmOk.f k C D K = some (frmB C D K) := by
  unfold spec_FrmOk.f frmB
  rw [l1All_eq C _ _ k hc hc2]; simp only [Option.bind_some, if_true, bne_self_eq_false, Bool.false_eq_true, if_false]
  cases okB C 3 10000000 with
  | false => rfl
  | true =>
    rw [if_pos rfl, l1All_eq D _ _ k hd hd2]; simp only [Option.bind_some, if_true, bne_self_eq_false, Bool.false_eq_true, if_false]
    cases okB D 2 10000000 with
    | false => rfl
    | true => rw [if_pos rfl, l1In_eq]; rfl

theorem impl_Frm_eq (C D : List Int) (K : Int) : impl_FrmOk.f C D K = some (frmB C D K) := by
  unfold impl_FrmOk.f frmB
  rw [within_eq]; simp only [Option.bind_some, if_true, bne_self_eq_false, Bool.false_eq_true, if_false]
  cases okB C 3 10000000 with
  | false => rfl
  | true =>
    rw [if_pos rfl, within_eq]; simp only [Option.bind_some, if_true, bne_self_eq_false, Bool.false_eq_true, if_false]
    cases okB D 2 10000000 with
    | false => rfl
    | true => rw [if_pos rfl, in_eq]; rfl

theorem spec_Zero_eq : spec_FrmZero.f = some ([0, 0, 0], [0, 0], 0) := rfl

/-- The form that is one pot, or nothing. -/
def potF (v : Int) : List Int × List Int × Int := if v = 0 then ([1, 0, 0], [0, 0], 0) else if v = 1 then ([0, 1, 0], [0, 0], 0) else if v = 2 then ([0, 0, 1], [0, 0], 0) else ([], [], 0)
theorem potF_len (v : Int) : (potF v).1.length ≤ 3 ∧ (potF v).2.1.length ≤ 2 := by
  unfold potF; repeat' split
  all_goals simp

theorem others_loop (C l : List Int) (s : Int) (hl : l.length ≤ 1048576) (d : Nat) : ∀ (k i : Nat) (acc : Int), i + d = l.length → d < k →
    ∃ v, spec_TrtOthers.l0 k s acc (i : Int) C l = some v ∧ impl_TrtOthers.l0 k s acc l (l.length : Int) (i : Int) = some v := by
  induction d with
  | zero =>
    intro k i acc hi hk
    obtain ⟨k, rfl⟩ : ∃ m, k = m + 1 := ⟨k - 1, by omega⟩
    refine ⟨acc, ?_, ?_⟩
    · simp only [spec_TrtOthers.l0]; rw [if_neg (by omega)]
    · simp only [impl_TrtOthers.l0]; rw [if_neg (by omega)]
  | succ d ih =>
    intro k i acc hi hk
    obtain ⟨k, rfl⟩ : ∃ m, k = m + 1 := ⟨k - 1, by omega⟩
    simp only [spec_TrtOthers.l0, impl_TrtOthers.l0]
    have p1 : (i : Int) < (l.length : Int) := by omega
    have p2 : (0 : Int) ≤ (i : Int) := by omega
    have p3 : wrap64 ((i : Int) + 1) = ((i + 1 : Nat) : Int) := by rw [wrap_id (by omega) (by omega)]; omega
    simp only [p1, p2, p3, if_true]
    by_cases h : (i : Int) = s
    · simp only [if_pos h]; exact ih k (i + 1) acc (by omega) (by omega)
    · simp only [if_neg h]; exact ih k (i + 1) _ (by omega) (by omega)
theorem others_eq (C l : List Int) (s : Int) (k : Nat) (hk : l.length < k) (hl : l.length ≤ 1048576) : ∃ v, spec_TrtOthers.f k C l s = some v ∧ impl_TrtOthers.f k C l s = some v :=
  others_loop C l s hl l.length k 0 0 (by omega) hk

/-- What a form of three and two is, as the reference sums it. -/
def atV (c0 c1 c2 d0 d1 K v0 v1 v2 a0 a1 : Int) : Int := wrap64 (K + c0 * v0 + c1 * v1 + c2 * v2 + d0 * a0 + d1 * a1)
theorem l1At_eq (c0 c1 c2 d0 d1 K v0 v1 v2 a0 a1 : Int) (k : Nat) (hK : wrap64 K = K) : spec_l1At.f (k + 8) [c0, c1, c2] [d0, d1] K [v0, v1, v2] [a0, a1] = some (atV c0 c1 c2 d0 d1 K v0 v1 v2 a0 a1) := by
  have w1 : wrap64 (0 + 1) = 1 := by unfold wrap64; omega
  have w2 : wrap64 (1 + 1) = 2 := by unfold wrap64; omega
  have w3 : wrap64 (2 + 1) = 3 := by unfold wrap64; omega
  unfold spec_l1At.f
  simp only [spec_l1At.l0, spec_l1At.l1, w1, w2, w3]
  simp [rd, atV, wrap_l, wrap_r]

theorem dot3V (c0 c1 c2 v0 v1 v2 : Int) (k : Nat) : impl_dot.f (k + 4) [c0, c1, c2] [v0, v1, v2] = some (wrap64 (c0 * v0 + c1 * v1 + c2 * v2)) := by
  have w1 : wrap64 (0 + 1) = 1 := by unfold wrap64; omega
  have w2 : wrap64 (1 + 1) = 2 := by unfold wrap64; omega
  have w3 : wrap64 (2 + 1) = 3 := by unfold wrap64; omega
  unfold impl_dot.f
  simp only [impl_dot.l0, w1, w2, w3]
  simp [rd, wrap_l, wrap_r]
theorem dot2V (c0 c1 v0 v1 : Int) (k : Nat) : impl_dot.f (k + 3) [c0, c1] [v0, v1] = some (wrap64 (c0 * v0 + c1 * v1)) := by
  have w1 : wrap64 (0 + 1) = 1 := by unfold wrap64; omega
  have w2 : wrap64 (1 + 1) = 2 := by unfold wrap64; omega
  unfold impl_dot.f
  simp only [impl_dot.l0, w1, w2]
  simp [rd, wrap_l, wrap_r]
theorem at_eq (c0 c1 c2 d0 d1 K v0 v1 v2 a0 a1 : Int) (k : Nat) : impl_FrmForm_at.f (k + 4) [c0, c1, c2] [d0, d1] K [v0, v1, v2] [a0, a1] = some (atV c0 c1 c2 d0 d1 K v0 v1 v2 a0 a1) := by
  unfold impl_FrmForm_at.f
  rw [dot3V, show k + 4 = (k + 1) + 3 from rfl, dot2V]
  simp only [Option.bind_some, atV, wrap_l, wrap_r, wrap_ll, wrap_lr]
  have e : ∀ x y z : Int, x = y → some (wrap64 x) = some (wrap64 y) := fun x y _ h => by rw [h]
  refine e _ _ 0 ?_
  omega

theorem len3 {l : List Int} (h : (l.length : Int) = 3) : ∃ a b c, l = [a, b, c] := by
  match l, h with
  | [a, b, c], _ => exact ⟨a, b, c, rfl⟩
  | [], h => simp at h
  | [_], h => simp at h
  | [_, _], h => simp at h
  | _ :: _ :: _ :: _ :: _, h => simp at h; omega
theorem len2 {l : List Int} (h : (l.length : Int) = 2) : ∃ a b, l = [a, b] := by
  match l, h with
  | [a, b], _ => exact ⟨a, b, rfl⟩
  | [], h => simp at h
  | [_], h => simp at h
  | _ :: _ :: _ :: _, h => simp at h; omega
theorem okB_len {l : List Int} {n m : Int} (h : okB l n m = true) : (l.length : Int) = n := (okB_iff.mp h).1
theorem frmB_len {C D : List Int} {K : Int} (h : frmB C D K = true) : (C.length : Int) = 3 ∧ (D.length : Int) = 2 := by
  unfold frmB at h
  simp only [Bool.and_eq_true] at h
  exact ⟨okB_len h.1, okB_len h.2.1⟩

theorem inB_ib (n lo hi : Int) : inB n lo hi = ibB n lo hi := rfl

theorem withinB_ok (l : List Int) (n m : Int) : withinB l n m = okB l n m := by
  unfold withinB okB
  rw [List.all_eq_not_any_not]
  rfl

theorem set_takeG {α : Type} (z : α) (l : List α) (i : Nat) (h : i < l.length) :
    (l.take i ++ List.replicate (l.length - i) z).set i l[i] = l.take (i + 1) ++ List.replicate (l.length - (i + 1)) z := by
  rw [List.set_append_right _ _ (by rw [List.length_take]; omega), List.length_take, Nat.min_eq_left (by omega), Nat.sub_self]
  obtain ⟨m, hm⟩ : ∃ m, l.length - i = m + 1 := ⟨l.length - i - 1, by omega⟩
  rw [hm, List.replicate_succ, List.set_cons_zero, show l.length - (i + 1) = m from by omega, List.take_succ_eq_append_getElem h, List.append_assoc]
  rfl
theorem getDG {α : Type} (z : α) (l : List α) (i : Nat) (h : i < l.length) : l.getD ((i : Int)).toNat z = l[i] := by
  rw [show ((i : Int)).toNat = i from by omega, List.getD_eq_getElem?_getD, List.getElem?_eq_getElem h]
  rfl

theorem szss_loop (l : List (List Int)) (hl : l.length ≤ 1048576) (hw : ∀ x ∈ l, x.length ≤ 9223372036854775807) (d : Nat) : ∀ (k i : Nat) (n : Int), i + d = l.length → d < k → 0 ≤ n → n ≤ 1048576 →
    ∃ t, laws_szIntSS.l0 k l n (i : Int) = some t ∧ (t < 0 ∨ (0 ≤ t ∧ t ≤ n ∧ ∀ x ∈ l.drop i, (x.length : Int) ≤ n)) := by
  induction d with
  | zero =>
    intro k i n hi hk h0 h1
    obtain ⟨k, rfl⟩ : ∃ m, k = m + 1 := ⟨k - 1, by omega⟩
    refine ⟨n, ?_, .inr ⟨h0, Int.le_refl _, ?_⟩⟩
    · simp only [laws_szIntSS.l0]; rw [if_neg (by omega)]
    · rw [List.drop_of_length_le (by omega)]; simp
  | succ d ih =>
    intro k i n hi hk h0 h1
    obtain ⟨k, rfl⟩ : ∃ m, k = m + 1 := ⟨k - 1, by omega⟩
    have hlt : i < l.length := by omega
    simp only [laws_szIntSS.l0]
    rw [if_pos (by omega), if_pos (by omega), show rd_L1 l (i : Int) = l[i] from getDG [] l i hlt]
    obtain ⟨t, e, h⟩ := sz_int l[i] n h0 h1 (hw _ (List.getElem_mem hlt))
    rw [e]; simp only [Option.bind_some]
    rcases h with h | ⟨ha, hb⟩
    · rw [if_pos h]; exact ⟨_, rfl, .inl (by decide)⟩
    · rw [if_neg (by omega), show wrap64 ((i : Int) + 1) = ((i + 1 : Nat) : Int) from by rw [wrap_id (by omega) (by omega)]; omega]
      obtain ⟨u, e2, h2⟩ := ih k (i + 1) t (by omega) (by omega) ha (by omega)
      refine ⟨u, e2, ?_⟩
      rcases h2 with h2 | ⟨p, q, r⟩
      · exact .inl h2
      · refine .inr ⟨p, by omega, fun x hx => ?_⟩
        rw [List.drop_eq_getElem_cons hlt] at hx
        rcases List.mem_cons.mp hx with rfl | hx
        · omega
        · have := r x hx; omega
theorem sz_ss (l : List (List Int)) (k : Nat) (hk : 1048577 < k) (hl : l.length ≤ 9223372036854775807) (hw : ∀ x ∈ l, x.length ≤ 9223372036854775807) :
    ∃ t, laws_szIntSS.f k l 1048576 = some t ∧ (t < 0 ∨ (0 ≤ t ∧ (l.length : Int) ≤ 1048576 ∧ ∀ x ∈ l, (x.length : Int) ≤ 1048576)) := by
  unfold laws_szIntSS.f
  have e : wrap64 (1048576 - (l.length : Int)) = 1048576 - (l.length : Int) := wrap_id (by omega) (by omega)
  rw [e]
  by_cases h : (1048576 : Int) - (l.length : Int) < 0
  · rw [if_pos h]; exact ⟨_, rfl, .inl (by decide)⟩
  · rw [if_neg h]
    obtain ⟨u, e2, h2⟩ := szss_loop l (by omega) hw l.length k 0 (1048576 - (l.length : Int)) (by omega) (by omega) (by omega) (by omega)
    refine ⟨u, e2, ?_⟩
    rcases h2 with h2 | ⟨p, q, r⟩
    · exact .inl h2
    · exact .inr ⟨p, by omega, fun x hx => by have := r x (by simpa using hx); omega⟩

theorem toss_loop (l : List (List Int)) (hl : l.length ≤ 1048576) (hw : ∀ x ∈ l, (x.length : Int) ≤ 1048576) (d : Nat) : ∀ (k i : Nat), i + d = l.length → d + 1048577 < k →
    laws_toIntSS.l0 k l (l.take i ++ List.replicate (l.length - i) []) (i : Int) = some l := by
  induction d with
  | zero =>
    intro k i hi hk
    obtain ⟨k, rfl⟩ : ∃ m, k = m + 1 := ⟨k - 1, by omega⟩
    simp only [laws_toIntSS.l0]
    rw [if_neg (by omega), show i = l.length from by omega]
    simp
  | succ d ih =>
    intro k i hi hk
    obtain ⟨k, rfl⟩ : ∃ m, k = m + 1 := ⟨k - 1, by omega⟩
    have hlt : i < l.length := by omega
    simp only [laws_toIntSS.l0]
    have hlen : (l.take i ++ List.replicate (l.length - i) ([] : List Int)).length = l.length := by simp; omega
    have hx := hw _ (List.getElem_mem hlt)
    rw [if_pos (by omega), if_pos (by omega), show rd_L1 l (i : Int) = l[i] from getDG [] l i hlt, to_int l[i] k (by omega) (by omega)]
    simp only [Option.bind_some]
    rw [if_pos (by rw [hlen]; omega), show ((i : Int)).toNat = i from by omega, set_takeG [] l i hlt, show wrap64 ((i : Int) + 1) = ((i + 1 : Nat) : Int) from by rw [wrap_id (by omega) (by omega)]; omega]
    exact ih k (i + 1) (by omega) (by omega)
theorem to_ss (l : List (List Int)) (k : Nat) (hk : 2097154 < k) (hl : (l.length : Int) ≤ 1048576) (hw : ∀ x ∈ l, (x.length : Int) ≤ 1048576) : laws_toIntSS.f k l = some l := by
  unfold laws_toIntSS.f
  rw [if_pos (by omega), if_pos (by omega), show ((l.length : Int)).toNat = l.length from by omega]
  have := toss_loop l (by omega) hw l.length k 0 (by omega) (by omega)
  simpa using this

theorem eqss_loop (l : List (List Int)) (hl : l.length ≤ 1048576) (hw : ∀ x ∈ l, (x.length : Int) ≤ 1048576) (d : Nat) : ∀ (k i : Nat), i + d = l.length → d + 1048577 < k → laws_eqIntSS.l0 k l l (i : Int) = some true := by
  induction d with
  | zero =>
    intro k i hi hk
    obtain ⟨k, rfl⟩ : ∃ m, k = m + 1 := ⟨k - 1, by omega⟩
    simp only [laws_eqIntSS.l0]
    rw [if_neg (by omega)]
  | succ d ih =>
    intro k i hi hk
    obtain ⟨k, rfl⟩ : ∃ m, k = m + 1 := ⟨k - 1, by omega⟩
    have hlt : i < l.length := by omega
    have hx := hw _ (List.getElem_mem hlt)
    simp only [laws_eqIntSS.l0]
    rw [if_pos (by omega), if_pos (by omega), if_pos (by omega), show rd_L1 l (i : Int) = l[i] from getDG [] l i hlt, eq_int l[i] k (by omega) (by omega)]
    simp only [Option.bind_some, if_true, bne_self_eq_false, Bool.false_eq_true, if_false]
    rw [show wrap64 ((i : Int) + 1) = ((i + 1 : Nat) : Int) from by rw [wrap_id (by omega) (by omega)]; omega]
    exact ih k (i + 1) (by omega) (by omega)
theorem eq_ss (l : List (List Int)) (k : Nat) (hk : 2097154 < k) (hl : (l.length : Int) ≤ 1048576) (hw : ∀ x ∈ l, (x.length : Int) ≤ 1048576) : laws_eqIntSS.f k l l = some true := by
  unfold laws_eqIntSS.f
  rw [if_pos rfl]
  exact eqss_loop l (by omega) hw l.length k 0 (by omega) (by omega)

theorem l4_loop (x y : List Int) (hl : x.length = y.length) (hm : x.length ≤ 1048576) (d : Nat) : ∀ (k i : Nat), i + d = x.length → d < k → (x.take i = y.take i) → spec_l4Same.l0 k x y (i : Int) = some (decide (x = y)) := by
  induction d with
  | zero =>
    intro k i hi hk he
    obtain ⟨k, rfl⟩ : ∃ m, k = m + 1 := ⟨k - 1, by omega⟩
    simp only [spec_l4Same.l0]
    rw [if_neg (by omega)]
    rw [List.take_of_length_le (by omega), List.take_of_length_le (by omega)] at he
    rw [decide_eq_true he]
  | succ d ih =>
    intro k i hi hk he
    obtain ⟨k, rfl⟩ : ∃ m, k = m + 1 := ⟨k - 1, by omega⟩
    have h1 : i < x.length := by omega
    have h2 : i < y.length := by omega
    simp only [spec_l4Same.l0]
    rw [if_pos (by omega), if_pos (by omega), if_pos (by omega), getD_at x i h1, getD_at y i h2]
    by_cases hq : x[i] = y[i]
    · rw [if_pos hq, show wrap64 ((i : Int) + 1) = ((i + 1 : Nat) : Int) from by rw [wrap_id (by omega) (by omega)]; omega]
      exact ih k (i + 1) (by omega) (by omega) (by rw [List.take_succ_eq_append_getElem h1, List.take_succ_eq_append_getElem h2, he, hq])
    · rw [if_neg hq, decide_eq_false (fun e => hq (by subst e; rfl))]
theorem l4_eq (x y : List Int) (k : Nat) (hk : x.length < k) (hm : x.length ≤ 1048576) : spec_l4Same.f k x y = some (decide (x = y)) := by
  unfold spec_l4Same.f
  by_cases h : x.length = y.length
  · rw [if_pos (by omega)]
    exact l4_loop x y h hm x.length k 0 (by omega) hk rfl
  · rw [if_neg (by omega), decide_eq_false (fun e => h (by rw [e]))]

theorem cathas_loop (l : List (List Int)) (p : List Int) (hl : l.length ≤ 1048576) (hw : ∀ x ∈ l, (x.length : Int) ≤ 1048576) (d : Nat) : ∀ (k i : Nat), i + d = l.length → d + 1048577 < k →
    (∀ j : Int, 0 ≤ j → j < (i : Int) → decide (l.getD j.toNat [] = p) = false) → spec_CatHas.l0 k l p (i : Int) = some (idxOf (fun x => decide (x = p)) l) := by
  induction d with
  | zero =>
    intro k i hi hk hn
    obtain ⟨k, rfl⟩ : ∃ m, k = m + 1 := ⟨k - 1, by omega⟩
    simp only [spec_CatHas.l0]
    rw [if_neg (by omega), idxOf_miss [] (fun j h0 h1 => hn j h0 (by omega))]
  | succ d ih =>
    intro k i hi hk hn
    obtain ⟨k, rfl⟩ : ∃ m, k = m + 1 := ⟨k - 1, by omega⟩
    have hlt : i < l.length := by omega
    have hx := hw _ (List.getElem_mem hlt)
    simp only [spec_CatHas.l0]
    rw [if_pos (by omega), if_pos (by omega), show rd_L1 l (i : Int) = l[i] from getDG [] l i hlt, l4_eq l[i] p k (by omega) (by omega)]
    simp only [Option.bind_some]
    by_cases hq : l[i] = p
    · rw [if_pos (decide_eq_true hq), idxOf_hit [] (i : Int) (by omega) (by omega) (by rw [getDG [] l i hlt]; exact decide_eq_true hq) hn]
    · rw [if_neg (by simp [hq]), show wrap64 ((i : Int) + 1) = ((i + 1 : Nat) : Int) from by rw [wrap_id (by omega) (by omega)]; omega]
      refine ih k (i + 1) (by omega) (by omega) (fun j h0 h1 => ?_)
      by_cases e : j = (i : Int)
      · subst e; rw [getDG [] l i hlt]; exact decide_eq_false hq
      · exact hn j h0 (by omega)
theorem spec_CatHas_eq (l : List (List Int)) (p : List Int) (k : Nat) (hk : 2097154 < k) (hl : (l.length : Int) ≤ 1048576) (hw : ∀ x ∈ l, (x.length : Int) ≤ 1048576) : spec_CatHas.f k l p = some (idxOf (fun x => decide (x = p)) l) :=
  cathas_loop l p (by omega) hw l.length k 0 (by omega) (by omega) (fun j h0 h1 => by omega)

def trtB (B G : List Int) : Bool := okB B 3 10000 && (ibB (G.length : Int) 1 3 && G.all fun x => ibB x 0 50)

theorem impl_TrtOk_eq (B G : List Int) : impl_TrtOk.f B G = some (trtB B G) := by
  unfold impl_TrtOk.f trtB
  rw [withinB_ok, List.all_eq_not_any_not]
  rfl

theorem trtok_loop (B l : List Int) (hl : l.length ≤ 1048576) (d : Nat) : ∀ (k i : Nat), i + d = l.length → d < k → spec_TrtOk.l0 k (i : Int) B l = some ((l.drop i).all fun x => ibB x 0 50) := by
  induction d with
  | zero =>
    intro k i hi hk
    obtain ⟨k, rfl⟩ : ∃ m, k = m + 1 := ⟨k - 1, by omega⟩
    simp only [spec_TrtOk.l0]
    rw [if_neg (by omega), List.drop_of_length_le (by omega)]
    rfl
  | succ d ih =>
    intro k i hi hk
    obtain ⟨k, rfl⟩ : ∃ m, k = m + 1 := ⟨k - 1, by omega⟩
    have hlt : i < l.length := by omega
    simp only [spec_TrtOk.l0]
    rw [if_pos (by omega), if_pos (by omega), l1In_eq, getD_at l i hlt, List.drop_eq_getElem_cons hlt, List.all_cons]
    simp only [Option.bind_some]
    cases ibB l[i] 0 50 with
    | false => rfl
    | true =>
      rw [if_pos rfl, show wrap64 ((i : Int) + 1) = ((i + 1 : Nat) : Int) from by rw [wrap_id (by omega) (by omega)]; omega, ih k (i + 1) (by omega) (by omega)]
      rfl
theorem spec_TrtOk_eq (B G : List Int) (k : Nat) (hB : B.length < k) (hG : G.length < k) (hB2 : B.length ≤ 1048576) (hG2 : G.length ≤ 1048576) : spec_TrtOk.f (k + 1) B G = some (trtB B G) := by
  unfold spec_TrtOk.f trtB
  rw [spec_Val_eq B (k + 1) (by omega) hB2, l1In_eq]; simp only [Option.bind_some]
  have hl := trtok_loop B G hG2 G.length k 0 (by omega) hG
  rw [List.drop_zero] at hl
  cases okB B 3 10000 with
  | false => rfl
  | true =>
    rw [if_pos rfl]
    cases ibB (G.length : Int) 1 3 with
    | false => rfl
    | true =>
      simp only [spec_TrtOk.j0]
      exact hl

/-- So many times a form, or nothing. -/
def timesF (C D : List Int) (K n : Int) : List Int × List Int × Int :=
  if frmB C D K && ibB n (-10000000) 10000000 then
    (let x := C.map fun c => wrap64 (wrap64 (n * c)); let y := D.map fun c => wrap64 (wrap64 (n * c)); let z := wrap64 (wrap64 (n * K))
     if frmB x y z then (x, y, z) else ([], [], 0))
  else ([], [], 0)
theorem timesF_len (C D : List Int) (K n : Int) : (timesF C D K n).1.length ≤ 3 ∧ (timesF C D K n).2.1.length ≤ 2 := by
  unfold timesF
  split
  · rename_i h
    simp only [Bool.and_eq_true] at h
    obtain ⟨h1, h2⟩ := frmB_len h.1
    simp only
    split
    · simp only [List.length_map]; omega
    · simp
  · simp

def partsB (P : List (List Int)) : Bool := P.all fun p => okB p 3 10000000
theorem partsB_len {P : List (List Int)} (h : partsB P = true) : ∀ p ∈ P, p.length = 3 := fun p hp => by
  have := okB_len (List.all_eq_true.mp h p hp)
  omega

theorem impl_Parts_eq (P : List (List Int)) : impl_partsOk.f P = some (partsB P) := by
  unfold impl_partsOk.f partsB
  rw [List.all_eq_not_any_not]
  simp only [withinB_ok]

theorem parts_loop (l : List (List Int)) (hl : l.length ≤ 1048576) (hw : ∀ x ∈ l, (x.length : Int) ≤ 1048576) (d : Nat) : ∀ (k i : Nat), i + d = l.length → d + 1048577 < k → spec_l5Parts.l0 k l (i : Int) = some (partsB (l.drop i)) := by
  induction d with
  | zero =>
    intro k i hi hk
    obtain ⟨k, rfl⟩ : ∃ m, k = m + 1 := ⟨k - 1, by omega⟩
    simp only [spec_l5Parts.l0]
    rw [if_neg (by omega), List.drop_of_length_le (by omega)]
    rfl
  | succ d ih =>
    intro k i hi hk
    obtain ⟨k, rfl⟩ : ∃ m, k = m + 1 := ⟨k - 1, by omega⟩
    have hlt : i < l.length := by omega
    have hx := hw _ (List.getElem_mem hlt)
    simp only [spec_l5Parts.l0]
    rw [if_pos (by omega), if_pos (by omega), show rd_L1 l (i : Int) = l[i] from getDG [] l i hlt, l1All_eq l[i] _ _ k (by omega) (by omega), List.drop_eq_getElem_cons hlt]
    simp only [Option.bind_some, partsB, List.all_cons]
    cases okB l[i] 3 10000000 with
    | false => rfl
    | true =>
      rw [if_pos rfl, show wrap64 ((i : Int) + 1) = ((i + 1 : Nat) : Int) from by rw [wrap_id (by omega) (by omega)]; omega, ih k (i + 1) (by omega) (by omega), Bool.true_and]
      rfl
theorem spec_Parts_eq (l : List (List Int)) (k : Nat) (hk : 2097154 < k) (hl : (l.length : Int) ≤ 1048576) (hw : ∀ x ∈ l, (x.length : Int) ≤ 1048576) : spec_l5Parts.f k l = some (partsB l) := by
  unfold spec_l5Parts.f
  have := parts_loop l (by omega) hw l.length k 0 (by omega) (by omega)
  simpa using this

def preB (B G : List Int) (P : List (List Int)) (s : Int) (A : List Int) : Bool := trtB B G && (partsB P && (ibB s 0 (wrap64 ((G.length : Int) - 1)) && okB A 3 20000))
theorem preB_facts {B G : List Int} {P : List (List Int)} {s : Int} {A : List Int} (hG : G.length ≤ 1048576) (h : preB B G P s A = true) : (∀ p ∈ P, p.length = 3) ∧ 0 ≤ s ∧ s < (G.length : Int) ∧ A.length = 3 := by
  unfold preB at h
  simp only [Bool.and_eq_true] at h
  obtain ⟨_, h2, h3, h4⟩ := h
  obtain ⟨h5, h6⟩ := ibB_iff.mp h3
  have h7 := okB_len h4
  rw [wrap_id (by omega) (by omega)] at h6
  exact ⟨partsB_len h2, h5, by omega, by omega⟩

theorem impl_added_eq (l : List Int) : impl_addedOk.f l = some (okB l 3 20000) := by
  unfold impl_addedOk.f
  rw [within_eq]; rfl
theorem impl_ok_eq (B G : List Int) (P : List (List Int)) (s : Int) (A : List Int) : impl_TrtTreaty_ok.f B G P s A = some (preB B G P s A) := by
  unfold impl_TrtTreaty_ok.f preB
  rw [impl_TrtOk_eq]; simp only [Option.bind_some]
  cases trtB B G with
  | false => rfl
  | true =>
    rw [if_pos rfl, impl_Parts_eq]; simp only [Option.bind_some]
    cases partsB P with
    | false => rfl
    | true =>
      rw [if_pos rfl, in_eq]; simp only [Option.bind_some]
      cases ibB s 0 (wrap64 ((G.length : Int) - 1)) with
      | false => rfl
      | true => rw [if_pos rfl, impl_added_eq]; rfl

theorem sz_ssn (l : List (List Int)) (k : Nat) (n : Int) (h0 : 0 ≤ n) (h1 : n ≤ 1048576) (hk : 1048577 < k) (hl : l.length ≤ 9223372036854775807) (hw : ∀ x ∈ l, x.length ≤ 9223372036854775807) :
    ∃ t, laws_szIntSS.f k l n = some t ∧ (t < 0 ∨ (0 ≤ t ∧ t ≤ n ∧ (l.length : Int) ≤ 1048576 ∧ ∀ x ∈ l, (x.length : Int) ≤ 1048576)) := by
  unfold laws_szIntSS.f
  have e : wrap64 (n - (l.length : Int)) = n - (l.length : Int) := wrap_id (by omega) (by omega)
  rw [e]
  by_cases h : n - (l.length : Int) < 0
  · rw [if_pos h]; exact ⟨_, rfl, .inl (by decide)⟩
  · rw [if_neg h]
    obtain ⟨u, e2, h2⟩ := szss_loop l (by omega) hw l.length k 0 (n - (l.length : Int)) (by omega) (by omega) (by omega) (by omega)
    refine ⟨u, e2, ?_⟩
    rcases h2 with h2 | ⟨p, q, r⟩
    · exact .inl h2
    · exact .inr ⟨p, by omega, by omega, fun x hx => by have := r x (by simpa using hx); omega⟩

def smallB (C D : List Int) (K : Int) : Bool := okB C 3 2 && (okB D 2 2 && ibB K (-20) 20)
def lineB (a b c : Int) (C D : List Int) (K : Int) : Bool :=
  if a = 1 then decide (b = 0) && (ibB c 1 6 && smallB C D K)
  else if a = 2 then ibB b 0 2 && (decide (c = 0) && smallB C D K)
  else if a = 3 then decide (b = 0) && (decide (c = 0) && smallB C D K)
  else if a = 4 then decide (b = 0) && (decide (c = 0) && (decide (C = []) && (decide (D = []) && decide (K = 0))))
  else false

theorem idx_hit0 (q : Int → Bool) (x : Int) (xs : List Int) (h : q x = true) : idxOf q (x :: xs) = 0 := by
  unfold idxOf; rw [List.findIdx?_cons, if_pos h]; rfl
theorem idx_miss0 (q : Int → Bool) (x : Int) (xs : List Int) (h : q x = false) : (idxOf q xs = -1 ∧ idxOf q (x :: xs) = -1) ∨ (0 ≤ idxOf q xs ∧ idxOf q (x :: xs) = idxOf q xs + 1) := by
  unfold idxOf; rw [List.findIdx?_cons, if_neg (by rw [h]; decide)]
  cases hf : xs.findIdx? q with
  | none => exact .inl ⟨rfl, rfl⟩
  | some i => refine .inr ⟨by simp, ?_⟩; simp
def ngL (C : List Int) : List Int := C.map fun x => wrap64 (-x)
def catI (C : List Int) : List Int := if 0 ≤ idxOf (fun x : Int => x != 0) C ∧ rd C (idxOf (fun x : Int => x != 0) C) < 0 then C.map (fun x => wrap64 (-x)) else C
theorem catI_length (C : List Int) : (catI C).length = C.length := by unfold catI; split <;> simp
def catSgn (s x : Int) : Int := if s = 0 then (if x > 0 then 1 else if x < 0 then -1 else 0) else s
def catL : Int → List Int → List Int
  | _, [] => []
  | s, x :: xs => wrap64 (catSgn s x * x) :: catL (catSgn s x) xs
theorem catL_one : ∀ (C : List Int), (∀ x ∈ C, (Lit.int .i64 x).wf = true) → catL 1 C = C
  | [], _ => rfl
  | x :: xs, h => by
    have := bd64 (h x (List.mem_cons_self ..))
    simp only [catL, catSgn, show ¬ ((1 : Int) = 0) from by decide, if_false]
    rw [catL_one xs (fun y hy => h y (List.mem_cons_of_mem _ hy)), Int.one_mul, wrap_id this.1 this.2]
theorem catL_neg : ∀ (C : List Int), catL (-1) C = C.map fun x => wrap64 (-x)
  | [] => rfl
  | x :: xs => by
    simp only [catL, catSgn, show ¬ ((-1 : Int) = 0) from by decide, if_false, List.map_cons]
    rw [catL_neg xs, show (-1 : Int) * x = -x from by omega]
theorem catL_zero : ∀ (C : List Int), (∀ x ∈ C, (Lit.int .i64 x).wf = true) → catL 0 C = catI C
  | [], _ => by simp [catL, catI]
  | x :: xs, h => by
    have hb := bd64 (h x (List.mem_cons_self ..))
    have ht : ∀ y ∈ xs, (Lit.int .i64 y).wf = true := fun y hy => h y (List.mem_cons_of_mem _ hy)
    simp only [catL, catSgn, if_true]
    by_cases h1 : x > 0
    · rw [if_pos h1, catL_one xs ht, Int.one_mul, wrap_id hb.1 hb.2]
      unfold catI
      rw [idx_hit0 _ x xs (by simp; omega), if_neg (by rintro ⟨_, h2⟩; have : rd (x :: xs) 0 = x := rfl; omega)]
    · rw [if_neg h1]
      by_cases h2 : x < 0
      · rw [if_pos h2, catL_neg xs, show (-1 : Int) * x = -x from by omega]
        unfold catI
        rw [idx_hit0 _ x xs (by simp; omega), if_pos ⟨by omega, by have : rd (x :: xs) 0 = x := rfl; omega⟩]
        rfl
      · have h0 : x = 0 := by omega
        subst h0
        rw [if_neg h2, catL_zero xs ht, Int.zero_mul, wrap_id (by decide) (by decide)]
        unfold catI
        rcases idx_miss0 (fun x : Int => x != 0) 0 xs (by decide) with ⟨e1, e2⟩ | ⟨e1, e2⟩
        · rw [e1, e2, if_neg (by omega), if_neg (by omega)]
        · rw [e2, show rd (0 :: xs) (idxOf (fun x : Int => x != 0) xs + 1) = rd xs (idxOf (fun x : Int => x != 0) xs) from by
            unfold rd
            rw [show (idxOf (fun x : Int => x != 0) xs + 1).toNat = (idxOf (fun x : Int => x != 0) xs).toNat + 1 from by omega, List.getD_cons_succ]]
          by_cases h3 : rd xs (idxOf (fun x : Int => x != 0) xs) < 0
          · rw [if_pos ⟨e1, h3⟩, if_pos ⟨by omega, h3⟩, List.map_cons, show wrap64 (-0) = 0 from wrap_id (by decide) (by decide)]
          · rw [if_neg (fun hh => h3 hh.2), if_neg (fun hh => h3 hh.2)]

theorem impl_Part_eq (C D : List Int) (K : Int) (hC : C.length ≤ 1048576) : impl_CatPart.f C D K = some (catI C) := by
  unfold impl_CatPart.f catI
  rw [if_pos (by omega)]

theorem spec_part_loop (C D : List Int) (K : Int) (hC : C.length ≤ 1048576) (d : Nat) : ∀ (k i : Nat) (out : List Int) (s : Int), i + d = C.length → 2 * d < k → out.length = i →
    spec_CatPart.l0 k out s (i : Int) C D K = some (out ++ catL s (C.drop i)) := by
  induction d with
  | zero =>
    intro k i out s hi hk ho
    obtain ⟨k, rfl⟩ : ∃ m, k = m + 1 := ⟨k - 1, by omega⟩
    simp only [spec_CatPart.l0]
    rw [if_neg (by omega), List.drop_of_length_le (by omega)]
    simp [catL]
  | succ d ih =>
    intro k i out s hi hk ho
    obtain ⟨k, rfl⟩ : ∃ m, k = m + 2 := ⟨k - 2, by omega⟩
    have hlt : i < C.length := by omega
    have hw : wrap64 ((i : Int) + 1) = ((i + 1 : Nat) : Int) := by rw [wrap_id (by omega) (by omega)]; omega
    have step : ∀ (k : Nat) (s' : Int), 2 * d < k → catSgn s C[i] = s' → spec_CatPart.l0 k (out ++ [wrap64 (s' * C[i])]) s' ((i + 1 : Nat) : Int) C D K = some (out ++ catL s (C.drop i)) := by
      intro k s' hk' hs
      rw [ih k (i + 1) _ s' (by omega) hk' (by simp; omega), List.drop_eq_getElem_cons hlt]
      simp only [catL]
      rw [hs, List.append_assoc]
      rfl
    simp only [spec_CatPart.l0, spec_CatPart.j1]
    rw [getD_at C i hlt, hw]
    by_cases h0 : s = 0
    · subst h0
      simp only [show (i : Int) < (C.length : Int) from by omega, show (0 : Int) ≤ (i : Int) from by omega, show out.length < 17592186044416 from by omega, if_true, show ¬ ((1 : Int) = 0) from by decide, if_false]
      by_cases h1 : C[i] > 0
      · rw [if_pos (decide_eq_true h1)]
        have h9 := step k 1 (by omega) (by unfold catSgn; rw [if_pos rfl, if_pos h1])
        rw [Int.one_mul] at h9
        exact h9
      · rw [if_neg (by rw [decide_eq_false h1]; decide)]
        by_cases h2 : C[i] < 0
        · rw [if_pos h2]
          have h9 := step k (-1) (by omega) (by unfold catSgn; rw [if_pos rfl, if_neg h1, if_pos h2])
          rw [show (-1 : Int) * C[i] = -C[i] from by omega] at h9
          exact h9
        · rw [if_neg h2]
          exact step k 0 (by omega) (by unfold catSgn; rw [if_pos rfl, if_neg h1, if_neg h2])
    · simp only [show (i : Int) < (C.length : Int) from by omega, show (0 : Int) ≤ (i : Int) from by omega, show out.length < 17592186044416 from by omega, if_true, h0, if_false, Bool.false_eq_true]
      exact step k s (by omega) (by unfold catSgn; rw [if_neg h0])
theorem spec_Part_eq (C D : List Int) (K : Int) (k : Nat) (hk : 2097155 < k) (hC : C.length ≤ 1048576) (hw : ∀ x ∈ C, (Lit.int .i64 x).wf = true) : spec_CatPart.f k C D K = some (catI C) := by
  unfold spec_CatPart.f
  have := spec_part_loop C D K hC C.length k 0 [] 0 (by omega) (by omega) rfl
  rw [← catL_zero C hw]
  simpa using this

theorem at_eqk (c0 c1 c2 d0 d1 K v0 v1 v2 a0 a1 : Int) (k : Nat) (hk : 4 ≤ k) : impl_FrmForm_at.f k [c0, c1, c2] [d0, d1] K [v0, v1, v2] [a0, a1] = some (atV c0 c1 c2 d0 d1 K v0 v1 v2 a0 a1) := by
  obtain ⟨k, rfl⟩ : ∃ m, k = m + 4 := ⟨k - 4, by omega⟩
  exact at_eq c0 c1 c2 d0 d1 K v0 v1 v2 a0 a1 k
theorem l1At_eqk (c0 c1 c2 d0 d1 K v0 v1 v2 a0 a1 : Int) (k : Nat) (hk : 8 ≤ k) (hK : wrap64 K = K) : spec_l1At.f k [c0, c1, c2] [d0, d1] K [v0, v1, v2] [a0, a1] = some (atV c0 c1 c2 d0 d1 K v0 v1 v2 a0 a1) := by
  obtain ⟨k, rfl⟩ : ∃ m, k = m + 8 := ⟨k - 8, by omega⟩
  exact l1At_eq c0 c1 c2 d0 d1 K v0 v1 v2 a0 a1 k hK

theorem plus_eq (x y z a b c : Int) (k : Nat) (hk : 4 ≤ k) : impl_plus.f k [x, y, z] [a, b, c] = some [wrap64 (x + a), wrap64 (y + b), wrap64 (z + c)] := by
  obtain ⟨k, rfl⟩ : ∃ m, k = m + 4 := ⟨k - 4, by omega⟩
  have w1 : wrap64 (0 + 1) = 1 := by unfold wrap64; omega
  have w2 : wrap64 (1 + 1) = 2 := by unfold wrap64; omega
  have w3 : wrap64 (2 + 1) = 3 := by unfold wrap64; omega
  unfold impl_plus.f slices_Clone_int_int.f
  rw [if_pos (by simp)]
  simp only [Option.bind_some, impl_plus.l0, w1, w2, w3]
  simp [rd]

theorem l5Sum_eq (x y z a b c : Int) (k : Nat) (hk : 4 ≤ k) : spec_l5Sum.f k [x, y, z] [a, b, c] = some [wrap64 (x + a), wrap64 (y + b), wrap64 (z + c)] := by
  obtain ⟨k, rfl⟩ : ∃ m, k = m + 4 := ⟨k - 4, by omega⟩
  have w1 : wrap64 (0 + 1) = 1 := by unfold wrap64; omega
  have w2 : wrap64 (1 + 1) = 2 := by unfold wrap64; omega
  have w3 : wrap64 (2 + 1) = 3 := by unfold wrap64; omega
  unfold spec_l5Sum.f
  simp only [spec_l5Sum.l0, w1, w2, w3]
  simp [rd]

theorem zero_part (c0 c1 c2 : Int) (h0 : -10000000 ≤ c0 ∧ c0 ≤ 10000000) (h1 : -10000000 ≤ c1 ∧ c1 ≤ 10000000) (h2 : -10000000 ≤ c2 ∧ c2 ≤ 10000000) : decide (catI [c0, c1, c2] = [0, 0, 0]) = !([c0, c1, c2].any fun x => x != 0) := by
  by_cases h : c0 = 0 ∧ c1 = 0 ∧ c2 = 0
  · obtain ⟨rfl, rfl, rfl⟩ := h
    rfl
  · have e1 : ([c0, c1, c2].any fun x => x != 0) = true := by simp; omega
    have e2 : ¬ (catI [c0, c1, c2] = [0, 0, 0]) := by
      unfold catI
      split
      · intro e
        simp only [List.map_cons, List.map_nil, List.cons.injEq, and_true] at e
        rw [wrap_id (by omega) (by omega), wrap_id (by omega) (by omega), wrap_id (by omega) (by omega)] at e
        omega
      · intro e
        simp only [List.cons.injEq, and_true] at e
        exact h e
    rw [e1, decide_eq_false e2]
    rfl
theorem frmB_facts {C D : List Int} {K : Int} (h : frmB C D K = true) : ∃ c0 c1 c2 d0 d1, C = [c0, c1, c2] ∧ D = [d0, d1] ∧ (-10000000 ≤ c0 ∧ c0 ≤ 10000000) ∧ (-10000000 ≤ c1 ∧ c1 ≤ 10000000) ∧ (-10000000 ≤ c2 ∧ c2 ≤ 10000000) ∧ wrap64 K = K := by
  unfold frmB at h
  simp only [Bool.and_eq_true] at h
  obtain ⟨h1, h2, h3⟩ := h
  obtain ⟨a1, a2⟩ := okB_iff.mp h1
  obtain ⟨b1, b2⟩ := okB_iff.mp h2
  have k3 := ibB_iff.mp h3
  obtain ⟨c0, c1, c2, rfl⟩ := len3 a1
  obtain ⟨d0, d1, rfl⟩ := len2 b1
  have w : wrap64 (-10000000) = -10000000 := wrap_id (by decide) (by decide)
  rw [w] at a2
  exact ⟨c0, c1, c2, d0, d1, rfl, rfl, a2 c0 (by simp), a2 c1 (by simp), a2 c2 (by simp), wrap_id (by omega) (by omega)⟩
theorem bounds_eq (B G : List Int) (P : List (List Int)) (s : Int) (A C D : List Int) (K : Int) (R : List Int) (k : Nat) (hk : 5000000 < k) (hB : B.length ≤ 1048576) (hG : G.length ≤ 1048576) (hP : (P.length : Int) ≤ 1048576) (hw : ∀ x ∈ P, (x.length : Int) ≤ 1048576) (hA : A.length ≤ 1048576) (hC : C.length ≤ 1048576) (hD : D.length ≤ 1048576) (hR : R.length ≤ 1048576) (hCw : ∀ x ∈ C, (Lit.int .i64 x).wf = true) :
    ∃ x y b, spec_TrtBounds.f k B G P s A C D K R = some (x, y, b) ∧ impl_TrtBounds.f k B G P s A C D K R = some (x, y, b) := by
  obtain ⟨k, rfl⟩ : ∃ m, k = m + 1 := ⟨k - 1, by omega⟩
  have hs : spec_TrtBounds.f (k + 1) B G P s A C D K R = spec_TrtBounds.j0 (k + 1) P s A R (!(preB B G P s A && (frmB C D K && okB R 2 9))) B G C D K := by
    unfold spec_TrtBounds.f preB
    rw [spec_TrtOk_eq B G k (by omega) (by omega) hB hG]; simp only [Option.bind_some]
    cases trtB B G with
    | false => rfl
    | true =>
      rw [if_pos rfl, spec_Parts_eq P (k + 1) (by omega) hP hw]; simp only [Option.bind_some]
      cases partsB P with
      | false => rfl
      | true =>
        rw [if_pos rfl, l1In_eq]; simp only [Option.bind_some]
        cases ibB s 0 (wrap64 ((G.length : Int) - 1)) with
        | false => rfl
        | true =>
          rw [if_pos rfl, l1All_eq A _ _ (k + 1) (by omega) hA]; simp only [Option.bind_some]
          cases okB A 3 20000 with
          | false => rfl
          | true =>
            rw [if_pos rfl, spec_Frm_eq C D K (k + 1) (by omega) (by omega) hC hD]; simp only [Option.bind_some]
            cases frmB C D K with
            | false => rfl
            | true => rw [if_pos rfl, spec_Arg_eq R (k + 1) (by omega) hR]; rfl
  have hi : impl_TrtBounds.f (k + 1) B G P s A C D K R = impl_TrtBounds.j0 (k + 1) P s A R (!(preB B G P s A && (frmB C D K && okB R 2 9))) B G C D K := by
    unfold impl_TrtBounds.f
    rw [impl_ok_eq]; simp only [Option.bind_some]
    cases preB B G P s A with
    | false => rfl
    | true =>
      rw [if_pos rfl, impl_Frm_eq]; simp only [Option.bind_some]
      cases frmB C D K with
      | false => rfl
      | true => rw [if_pos rfl, impl_Arg_eq]; rfl
  rw [hs, hi]
  clear hs hi
  cases hq : (preB B G P s A && (frmB C D K && okB R 2 9)) with
  | false => exact ⟨0, 0, false, by simp [spec_TrtBounds.j0], by simp [impl_TrtBounds.j0]⟩
  | true =>
    simp only [Bool.and_eq_true] at hq
    obtain ⟨q1, q2, q3⟩ := hq
    obtain ⟨p1, p2, p3, p4⟩ := preB_facts hG q1
    obtain ⟨c0, c1, c2, d0, d1, rfl, rfl, b0, b1, b2, hK⟩ := frmB_facts q2
    obtain ⟨r0, r1, rfl⟩ := len2 (okB_len q3)
    obtain ⟨a0, a1, a2, rfl⟩ := len3 (l := A) (by omega)
    have ht : trtB B G = true := by unfold preB at q1; simp only [Bool.and_eq_true] at q1; exact q1.1
    have hb3 : (B.length : Int) = 3 := by unfold trtB at ht; simp only [Bool.and_eq_true] at ht; exact okB_len ht.1
    obtain ⟨x0, x1, x2, rfl⟩ := len3 hb3
    obtain ⟨v, hv1, hv2⟩ := others_eq [x0, x1, x2] G s k (by omega) hG
    have hl := catI_length [c0, c1, c2]
    simp only [spec_TrtBounds.j0, impl_TrtBounds.j0, Bool.not_true, Bool.false_eq_true, if_false]
    rw [l5Sum_eq x0 x1 x2 a0 a1 a2 k (by omega), plus_eq x0 x1 x2 a0 a1 a2 k (by omega)]; simp only [Option.bind_some]
    rw [l1At_eqk _ _ _ _ _ _ _ _ _ _ _ k (by omega) hK, at_eqk _ _ _ _ _ _ _ _ _ _ _ k (by omega)]; simp only [Option.bind_some]
    rw [spec_Part_eq _ _ _ k (by omega) hC hCw, spec_Zero_eq, hv2]; simp only [Option.bind_some]
    rw [l4_eq (catI [c0, c1, c2]) [0, 0, 0] k (by rw [hl]; simp; omega) (by rw [hl]; simp), zero_part c0 c1 c2 b0 b1 b2]
    unfold impl_zeros.f
    simp only [Option.bind_some]
    cases hz : !([c0, c1, c2].any fun x => x != 0) with
    | true => exact ⟨_, _, _, rfl, rfl⟩
    | false =>
      simp only [Bool.false_eq_true, if_false]
      rw [impl_Part_eq _ _ _ hC, spec_CatHas_eq P (catI [c0, c1, c2]) k (by omega) hP hw, hv1]
      unfold impl_CatHas.f
      simp only [Option.bind_some]
      by_cases hn : idxOf (fun x => decide (x = catI [c0, c1, c2])) P < 0
      · rw [if_pos hn, if_neg (by omega)]; exact ⟨_, _, _, rfl, rfl⟩
      · rw [if_neg hn, if_pos (by omega)]; exact ⟨_, _, _, rfl, rfl⟩

theorem FnExactTrtBounds : laws_FnExactTrtBounds.Pure := by
  intro B G P s A C D K R hB hG hP hs hA hC hD hK hR
  obtain ⟨k, hk⟩ : ∃ k : Nat, 6000000 < k := ⟨6000001, by omega⟩
  refine ⟨k, ?_⟩
  unfold laws_FnExactTrtBounds.f
  by_cases h0 : (A.length : Int) > 1048576
  · rw [if_pos h0]
  by_cases h9 : (R.length : Int) > 1048576
  · rw [if_neg h0, if_pos h9]
  rw [if_neg h0, if_neg h9]
  obtain ⟨t, e, h⟩ := sz_trt B G 1048576 (by omega) (by omega) hB.1 hG.1
  rw [e]; simp only [Option.bind_some, if_true, bne_self_eq_false, Bool.false_eq_true, if_false]
  rcases h with h | ⟨h1, h2⟩
  · rw [if_pos h]
  rw [if_neg (by omega)]
  obtain ⟨u, e2, g⟩ := sz_ssn P k t (by omega) (by omega) (by omega) hP.1 (fun x hx => (hP.2 x hx).1)
  rw [e2]; simp only [Option.bind_some, if_true, bne_self_eq_false, Bool.false_eq_true, if_false]
  rcases g with g | ⟨g1, g2, g3, g4⟩
  · rw [if_pos g]
  rw [if_neg (by omega)]
  obtain ⟨v, e3, f⟩ := sz_frm C D K u (by omega) (by omega) hC.1 hD.1
  rw [e3]; simp only [Option.bind_some, if_true, bne_self_eq_false, Bool.false_eq_true, if_false]
  rcases f with f | ⟨f1, f2⟩
  · rw [if_pos f]
  obtain ⟨x, y, b, hs1, hi1⟩ := bounds_eq B G P s A C D K R k (by omega) (by omega) (by omega) g3 g4 (by omega) (by omega) (by omega) (by omega) hC.2
  rw [if_neg (by omega), to_trt B G k (by omega) (by omega) (by omega) (by omega)]; simp only [Option.bind_some, if_true, bne_self_eq_false, Bool.false_eq_true, if_false]
  rw [to_ss P k (by omega) g3 g4]; simp only [Option.bind_some, if_true, bne_self_eq_false, Bool.false_eq_true, if_false]
  rw [to_int A k (by omega) (by omega)]; simp only [Option.bind_some, if_true, bne_self_eq_false, Bool.false_eq_true, if_false]
  rw [to_frm C D K k (by omega) (by omega) (by omega) (by omega)]; simp only [Option.bind_some, if_true, bne_self_eq_false, Bool.false_eq_true, if_false]
  rw [to_int R k (by omega) (by omega)]; simp only [Option.bind_some, if_true, bne_self_eq_false, Bool.false_eq_true, if_false]
  rw [hs1, hi1]; simp only [Option.bind_some, if_true, bne_self_eq_false, Bool.false_eq_true, if_false]
  obtain ⟨k, rfl⟩ : ∃ m, k = m + 1 := ⟨k - 1, by omega⟩
  simp only [laws_FnExactTrtBounds.j0, bne_self_eq_false, Bool.false_eq_true, if_false]
  rw [to_trt B G k (by omega) (by omega) (by omega) (by omega)]; simp only [Option.bind_some, if_true, bne_self_eq_false, Bool.false_eq_true, if_false]
  rw [eq_trt B G k (by omega) (by omega) (by omega) (by omega)]; simp only [Option.bind_some, if_true, bne_self_eq_false, Bool.false_eq_true, if_false]
  rw [to_ss P k (by omega) g3 g4]; simp only [Option.bind_some, if_true, bne_self_eq_false, Bool.false_eq_true, if_false]
  rw [eq_ss P k (by omega) g3 g4]; simp only [Option.bind_some, if_true, bne_self_eq_false, Bool.false_eq_true, if_false]
  rw [to_int A k (by omega) (by omega)]; simp only [Option.bind_some, if_true, bne_self_eq_false, Bool.false_eq_true, if_false]
  rw [eq_int A k (by omega) (by omega)]; simp only [Option.bind_some, if_true, bne_self_eq_false, Bool.false_eq_true, if_false]
  rw [to_frm C D K k (by omega) (by omega) (by omega) (by omega)]; simp only [Option.bind_some, if_true, bne_self_eq_false, Bool.false_eq_true, if_false]
  rw [eq_frm C D K k (by omega) (by omega) (by omega) (by omega)]; simp only [Option.bind_some, if_true, bne_self_eq_false, Bool.false_eq_true, if_false]
  rw [to_int R k (by omega) (by omega)]; simp only [Option.bind_some, if_true, bne_self_eq_false, Bool.false_eq_true, if_false]
  rw [eq_int R k (by omega) (by omega)]; simp only [Option.bind_some, if_true, bne_self_eq_false, Bool.false_eq_true, if_false]

end Go.Proofs.Ytkklkpoelkangaa.Pure
