/- The plain law FnExactRowDo: what the printed functions compute answers as the statement says. -/
import Derived.Test.YtfbdjimcjoddgaaQFnExactRowDox8
import Derived.OpenShut
set_option linter.unusedVariables false
set_option linter.unusedSimpArgs false
namespace Go.Proofs.Ytfbdjimcjoddgaa.Pure
open Go.RowKit Go.Proofs.Ytfbdjimcjoddgaa.QFnExactRowDo Go.Proofs.YtfbdjimcjoddgaaW.PrintWords Go.Proofs.YtfbdjimcjoddgaaW.PrintLast Go.Proofs.Ytfbdjimcjoddgaa.HWords

theorem bd64 {x : Int} (h : (Lit.int .i64 x).wf = true) : -9223372036854775808 ≤ x ∧ x ≤ 9223372036854775807 := bounds_i64 h
theorem wrap_id {x : Int} (h0 : -9223372036854775808 ≤ x) (h1 : x ≤ 9223372036854775807) : wrap64 x = x := by unfold wrap64; omega
theorem wrap_l (x y : Int) : wrap64 (wrap64 x + y) = wrap64 (x + y) := by unfold wrap64; omega
theorem wrap_r (x y : Int) : wrap64 (x + wrap64 y) = wrap64 (x + y) := by unfold wrap64; omega
theorem wrap_ll (x y z : Int) : wrap64 (wrap64 x + y + z) = wrap64 (x + y + z) := by unfold wrap64; omega
theorem wrap_lr (x y z : Int) : wrap64 (x + wrap64 y + z) = wrap64 (x + y + z) := by unfold wrap64; omega
theorem getD_at (l : List Int) (i : Nat) (h : i < l.length) : rd l (i : Int) = l[i] := by
  unfold rd
  rw [show ((i : Int)).toNat = i from by omega, List.getD_eq_getElem?_getD, List.getElem?_eq_getElem h]
  rfl
/-- The plain 'within bounds'. -/
def ibB (n lo hi : Int) : Bool := decide (lo ≤ n) && decide (n ≤ hi)
/-- As many as must be, each within a bound. -/
def okB (l : List Int) (n m : Int) : Bool := decide ((l.length : Int) = n) && l.all (fun x => ibB x (wrap64 (-m)) m)
theorem ibB_iff {n lo hi : Int} : ibB n lo hi = true ↔ lo ≤ n ∧ n ≤ hi := by unfold ibB; simp
theorem okB_iff {l : List Int} {n m : Int} : okB l n m = true ↔ (l.length : Int) = n ∧ ∀ x ∈ l, wrap64 (-m) ≤ x ∧ x ≤ m := by
  unfold okB ibB; simp

theorem sz_int (l : List Int) (n : Int) (h0 : 0 ≤ n) (h1 : n ≤ 1048576) (hl : l.length ≤ 9223372036854775807) :
    ∃ t, laws_szIntS.f l n = some t ∧ (t < 0 ∨ (0 ≤ t ∧ t + l.length = n)) := by
  unfold laws_szIntS.f
  have e : wrap64 (n - (l.length : Int)) = n - (l.length : Int) := wrap_id (by omega) (by omega)
  rw [e]
  by_cases h : n - (l.length : Int) < 0
  · rw [if_pos h]; exact ⟨_, rfl, .inl (by decide)⟩
  · rw [if_neg h]; exact ⟨_, rfl, .inr ⟨by omega, by omega⟩⟩

theorem sz_frm (C D : List Int) (K : Int) (n : Int) (h0 : 0 ≤ n) (h1 : n ≤ 1048576) (hc : C.length ≤ 9223372036854775807) (hd : D.length ≤ 9223372036854775807) :
    ∃ t, laws_szFrmForm.f C D K n = some t ∧ (t < 0 ∨ (0 ≤ t ∧ t + C.length + D.length = n)) := by
  unfold laws_szFrmForm.f
  obtain ⟨t, e, h⟩ := sz_int C n h0 h1 hc
  rw [e]; simp only [Option.bind_some, if_true, bne_self_eq_false, Bool.false_eq_true, if_false]
  rcases h with h | ⟨ha, hb⟩
  · rw [if_pos h]; exact ⟨_, rfl, .inl (by decide)⟩
  · rw [if_neg (by omega)]
    obtain ⟨u, e2, h2⟩ := sz_int D t ha (by omega) hd
    rw [e2]; simp only [Option.bind_some, if_true, bne_self_eq_false, Bool.false_eq_true, if_false]
    rcases h2 with h2 | ⟨hc2, hd2⟩
    · rw [if_pos h2]; exact ⟨_, rfl, .inl (by decide)⟩
    · rw [if_neg (by omega)]; exact ⟨_, rfl, .inr ⟨by omega, by omega⟩⟩

theorem set_take (l : List Int) (i : Nat) (h : i < l.length) :
    (l.take i ++ List.replicate (l.length - i) (0 : Int)).set i l[i] = l.take (i + 1) ++ List.replicate (l.length - (i + 1)) 0 := by
  rw [List.set_append_right _ _ (by rw [List.length_take]; omega), List.length_take, Nat.min_eq_left (by omega), Nat.sub_self]
  obtain ⟨m, hm⟩ : ∃ m, l.length - i = m + 1 := ⟨l.length - i - 1, by omega⟩
  rw [hm, List.replicate_succ, List.set_cons_zero, show l.length - (i + 1) = m from by omega, List.take_succ_eq_append_getElem h, List.append_assoc]
  rfl
theorem to_loop (l : List Int) (hl : l.length ≤ 1048576) (d : Nat) : ∀ (k i : Nat), i + d = l.length → d < k →
    laws_toIntS.l0 k l (l.take i ++ List.replicate (l.length - i) 0) (i : Int) = some l := by
  induction d with
  | zero =>
    intro k i hi hk
    obtain ⟨k, rfl⟩ : ∃ m, k = m + 1 := ⟨k - 1, by omega⟩
    simp only [laws_toIntS.l0]
    rw [if_neg (by omega), show i = l.length from by omega]
    simp
  | succ d ih =>
    intro k i hi hk
    obtain ⟨k, rfl⟩ : ∃ m, k = m + 1 := ⟨k - 1, by omega⟩
    have hlt : i < l.length := by omega
    simp only [laws_toIntS.l0]
    have hlen : (l.take i ++ List.replicate (l.length - i) (0 : Int)).length = l.length := by simp; omega
    rw [if_pos (by omega), if_pos (by omega), if_pos (by rw [hlen]; omega), getD_at l i hlt, show ((i : Int)).toNat = i from by omega, set_take l i hlt,
      wrap_id (by omega) (by omega), show (i : Int) + 1 = ((i + 1 : Nat) : Int) from by omega]
    exact ih k (i + 1) (by omega) (by omega)
theorem to_int (l : List Int) (k : Nat) (hk : l.length < k) (hl : l.length ≤ 1048576) : laws_toIntS.f k l = some l := by
  unfold laws_toIntS.f
  rw [if_pos (by omega), if_pos (by omega), show ((l.length : Int)).toNat = l.length from by omega]
  have := to_loop l hl l.length k 0 (by omega) hk
  simpa using this

theorem to_frm (C D : List Int) (K : Int) (k : Nat) (hc : C.length < k) (hd : D.length < k) (hc2 : C.length ≤ 1048576) (hd2 : D.length ≤ 1048576) : laws_toFrmForm.f k C D K = some (C, D, K) := by
  unfold laws_toFrmForm.f
  rw [to_int C k hc hc2]; simp only [Option.bind_some, if_true, bne_self_eq_false, Bool.false_eq_true, if_false]
  rw [to_int D k hd hd2]; simp only [Option.bind_some, if_true, bne_self_eq_false, Bool.false_eq_true, if_false]

theorem eq_loop (l : List Int) (hl : l.length ≤ 1048576) (d : Nat) : ∀ (k i : Nat), i + d = l.length → d < k → laws_eqIntS.l0 k l l (i : Int) = some true := by
  induction d with
  | zero =>
    intro k i hi hk
    obtain ⟨k, rfl⟩ : ∃ m, k = m + 1 := ⟨k - 1, by omega⟩
    simp only [laws_eqIntS.l0]
    rw [if_neg (by omega)]
  | succ d ih =>
    intro k i hi hk
    obtain ⟨k, rfl⟩ : ∃ m, k = m + 1 := ⟨k - 1, by omega⟩
    simp only [laws_eqIntS.l0, if_true]
    rw [if_pos (by omega), if_pos (by omega), if_pos (by omega), wrap_id (by omega) (by omega), show (i : Int) + 1 = ((i + 1 : Nat) : Int) from by omega]
    exact ih k (i + 1) (by omega) (by omega)
theorem eq_int (l : List Int) (k : Nat) (hk : l.length < k) (hl : l.length ≤ 1048576) : laws_eqIntS.f k l l = some true := by
  unfold laws_eqIntS.f
  rw [if_pos rfl]
  exact eq_loop l hl l.length k 0 (by omega) hk

theorem eq_frm (C D : List Int) (K : Int) (k : Nat) (hc : C.length < k) (hd : D.length < k) (hc2 : C.length ≤ 1048576) (hd2 : D.length ≤ 1048576) : laws_eqFrmForm.f k C D K C D K = some true := by
  unfold laws_eqFrmForm.f
  rw [eq_int C k hc hc2]; simp only [Option.bind_some, if_true, bne_self_eq_false, Bool.false_eq_true, if_false]
  rw [eq_int D k hd hd2]; simp only [Option.bind_some, if_true, bne_self_eq_false, Bool.false_eq_true, if_false]

/-- The numbers from m on, so many. -/
def seqI (m : Int) (n : Nat) : List Int := (List.range n).map fun (i : Nat) => m + (i : Int)
theorem seqI_length (m : Int) (n : Nat) : (seqI m n).length = n := by simp [seqI]
theorem seqI_at (m : Int) (n i : Nat) (h : i < n) : rd (seqI m n) (i : Int) = m + i := by
  rw [getD_at _ _ (by rw [seqI_length]; exact h)]
  simp [seqI]
theorem seqI_set (l : List Int) (m : Int) (i : Nat) (h : i < l.length) : (seqI m i ++ l.drop i).set i (m + i) = seqI m (i + 1) ++ l.drop (i + 1) := by
  rw [List.set_append_right _ _ (by rw [seqI_length]; omega), seqI_length, Nat.sub_self, List.drop_eq_getElem_cons h, List.set_cons_zero]
  unfold seqI
  rw [List.range_succ]
  simp
theorem mark_loop (l : List Int) (m : Int) (hl : l.length ≤ 1048576) (h0 : 0 ≤ m) (h1 : m ≤ 1152921504606846976) (d : Nat) : ∀ (k i : Nat), i + d = l.length → d < k →
    laws_markIntS.l0 k (seqI m i ++ l.drop i) (m + i) (i : Int) = some (m + l.length, seqI m l.length) := by
  induction d with
  | zero =>
    intro k i hi hk
    obtain ⟨k, rfl⟩ : ∃ m, k = m + 1 := ⟨k - 1, by omega⟩
    have hi' : i = l.length := by omega
    subst hi'
    simp only [laws_markIntS.l0]
    rw [if_neg (by simp [seqI_length])]
    simp
  | succ d ih =>
    intro k i hi hk
    obtain ⟨k, rfl⟩ : ∃ m, k = m + 1 := ⟨k - 1, by omega⟩
    have hlt : i < l.length := by omega
    simp only [laws_markIntS.l0]
    rw [if_pos (by simp [seqI_length]; omega), if_pos (by omega), show ((i : Int)).toNat = i from by omega, seqI_set l m i hlt, wrap_id (by omega) (by omega), wrap_id (by omega) (by omega),
      show m + (i : Int) + 1 = m + ((i + 1 : Nat) : Int) from by omega, show (i : Int) + 1 = ((i + 1 : Nat) : Int) from by omega]
    exact ih k (i + 1) (by omega) (by omega)
theorem mark_int (l : List Int) (m : Int) (k : Nat) (hk : l.length < k) (hl : l.length ≤ 1048576) (h0 : 0 ≤ m) (h1 : m ≤ 1152921504606846976) : laws_markIntS.f k l m = some (m + l.length, seqI m l.length) := by
  unfold laws_markIntS.f
  have := mark_loop l m hl h0 h1 l.length k 0 (by omega) hk
  simpa [seqI] using this
theorem held_loop (n : Nat) (m : Int) (hl : n ≤ 1048576) (h0 : 0 ≤ m) (h1 : m ≤ 1099511627776) (d : Nat) : ∀ (k i : Nat), i + d = n → d < k →
    laws_heldIntS.l0 k (seqI m n) (m + i) (i : Int) = some (m + n) := by
  induction d with
  | zero =>
    intro k i hi hk
    obtain ⟨k, rfl⟩ : ∃ m, k = m + 1 := ⟨k - 1, by omega⟩
    have hi' : i = n := by omega
    subst hi'
    simp only [laws_heldIntS.l0]
    rw [if_neg (by simp [seqI_length])]
  | succ d ih =>
    intro k i hi hk
    obtain ⟨k, rfl⟩ : ∃ m, k = m + 1 := ⟨k - 1, by omega⟩
    have hlt : i < n := by omega
    simp only [laws_heldIntS.l0]
    rw [if_pos (by simp [seqI_length]; omega), if_pos (by omega), if_pos (seqI_at m n i hlt), wrap_id (by omega) (by omega), wrap_id (by omega) (by omega),
      show m + (i : Int) + 1 = m + ((i + 1 : Nat) : Int) from by omega, show (i : Int) + 1 = ((i + 1 : Nat) : Int) from by omega]
    exact ih k (i + 1) (by omega) (by omega)
theorem held_int (n : Nat) (m : Int) (k : Nat) (hk : n < k) (hl : n ≤ 1048576) (h0 : 0 ≤ m) (h1 : m ≤ 1099511627776) : laws_heldIntS.f k (seqI m n) m = some (m + n) := by
  unfold laws_heldIntS.f
  have := held_loop n m hl h0 h1 n k 0 (by omega) hk
  simpa using this

theorem l1In_eq (n lo hi : Int) : spec_l1In.f n lo hi = some (ibB n lo hi) := by
  unfold spec_l1In.f ibB
  by_cases h : n ≥ lo
  · rw [if_pos h]; simp [h]
  · rw [if_neg h]; simp [h]

theorem within_eq (l : List Int) (n m : Int) : impl_within.f l n m = some (okB l n m) := by
  unfold impl_within.f okB
  rw [List.all_eq_not_any_not]
  rfl

theorem all_loop (l : List Int) (m : Int) (hl : l.length ≤ 1048576) (d : Nat) : ∀ (k i : Nat), i + d = l.length → d < k → spec_l1All.l0 k l m (i : Int) = some ((l.drop i).all fun x => ibB x (wrap64 (-m)) m) := by
  induction d with
  | zero =>
    intro k i hi hk
    obtain ⟨k, rfl⟩ : ∃ m, k = m + 1 := ⟨k - 1, by omega⟩
    simp only [spec_l1All.l0]
    rw [if_neg (by omega), List.drop_of_length_le (by omega)]
    rfl
  | succ d ih =>
    intro k i hi hk
    obtain ⟨k, rfl⟩ : ∃ m, k = m + 1 := ⟨k - 1, by omega⟩
    have hlt : i < l.length := by omega
    simp only [spec_l1All.l0]
    rw [if_pos (by omega), if_pos (by omega), l1In_eq, getD_at l i hlt, List.drop_eq_getElem_cons hlt, List.all_cons]
    simp only [Option.bind_some, if_true, bne_self_eq_false, Bool.false_eq_true, if_false]
    cases ibB l[i] (wrap64 (-m)) m with
    | false => rfl
    | true =>
      rw [if_pos rfl, wrap_id (by omega) (by omega), show (i : Int) + 1 = ((i + 1 : Nat) : Int) from by omega, ih k (i + 1) (by omega) (by omega)]
      rfl
theorem l1All_eq (l : List Int) (n m : Int) (k : Nat) (hk : l.length < k) (hl : l.length ≤ 1048576) : spec_l1All.f k l n m = some (okB l n m) := by
  unfold spec_l1All.f okB
  by_cases h : (l.length : Int) = n
  · rw [if_pos h, decide_eq_true h, Bool.true_and]
    have := all_loop l m hl l.length k 0 (by omega) hk
    simpa using this
  · rw [if_neg h, decide_eq_false h, Bool.false_and]

theorem spec_Val_eq (l : List Int) (k : Nat) (hk : l.length < k) (hl : l.length ≤ 1048576) : spec_ValOk.f k l = some (okB l 3 10000) := by
  unfold spec_ValOk.f
  rw [l1All_eq l _ _ k hk hl]; rfl

theorem impl_Val_eq (l : List Int) : impl_ValOk.f l = some (okB l 3 10000) := by
  unfold impl_ValOk.f
  rw [within_eq]; rfl

theorem spec_Arg_eq (l : List Int) (k : Nat) (hk : l.length < k) (hl : l.length ≤ 1048576) : spec_ArgOk.f k l = some (okB l 2 9) := by
  unfold spec_ArgOk.f
  rw [l1All_eq l _ _ k hk hl]; rfl

theorem impl_Arg_eq (l : List Int) : impl_ArgOk.f l = some (okB l 2 9) := by
  unfold impl_ArgOk.f
  rw [within_eq]; rfl

def frmB (C D : List Int) (K : Int) : Bool := okB C 3 10000000 && (okB D 2 10000000 && ibB K (-10000000) 10000000)

theorem spec_Frm_eq (C D : List Int) (K : Int) (k : Nat) (hc : C.length < k) (hd : D.length < k) (hc2 : C.length ≤ 1048576) (hd2 : D.length ≤ 1048576) : spec_FrmOk.f k C D K = some (frmB C D K) := by
  unfold spec_FrmOk.f frmB
  rw [l1All_eq C _ _ k hc hc2]; simp only [Option.bind_some, if_true, bne_self_eq_false, Bool.false_eq_true, if_false]
  cases okB C 3 10000000 with
  | false => rfl
  | true =>
    rw [if_pos rfl, l1All_eq D _ _ k hd hd2]; simp only [Option.bind_some, if_true, bne_self_eq_false, Bool.false_eq_true, if_false]
    cases okB D 2 10000000 with
    | false => rfl
    | true => rw [if_pos rfl, l1In_eq]; rfl

/-- What a form of three and two is, as the reference sums it. -/
def atV (c0 c1 c2 d0 d1 K v0 v1 v2 a0 a1 : Int) : Int := wrap64 (K + c0 * v0 + c1 * v1 + c2 * v2 + d0 * a0 + d1 * a1)

theorem l1At_eq (c0 c1 c2 d0 d1 K v0 v1 v2 a0 a1 : Int) (k : Nat) (hK : wrap64 K = K) : spec_l1At.f (k + 8) [c0, c1, c2] [d0, d1] K [v0, v1, v2] [a0, a1] = some (atV c0 c1 c2 d0 d1 K v0 v1 v2 a0 a1) := by
  have w1 : wrap64 (0 + 1) = 1 := by unfold wrap64; omega
  have w2 : wrap64 (1 + 1) = 2 := by unfold wrap64; omega
  have w3 : wrap64 (2 + 1) = 3 := by unfold wrap64; omega
  unfold spec_l1At.f
  simp only [spec_l1At.l0, spec_l1At.l1, w1, w2, w3]
  simp [rd, atV, wrap_l, wrap_r]

theorem dot3V (c0 c1 c2 v0 v1 v2 : Int) (k : Nat) : impl_dot.f (k + 4) [c0, c1, c2] [v0, v1, v2] = some (wrap64 (c0 * v0 + c1 * v1 + c2 * v2)) := by
  have w1 : wrap64 (0 + 1) = 1 := by unfold wrap64; omega
  have w2 : wrap64 (1 + 1) = 2 := by unfold wrap64; omega
  have w3 : wrap64 (2 + 1) = 3 := by unfold wrap64; omega
  unfold impl_dot.f
  simp only [impl_dot.l0, w1, w2, w3]
  simp [rd, wrap_l, wrap_r]
theorem dot2V (c0 c1 v0 v1 : Int) (k : Nat) : impl_dot.f (k + 3) [c0, c1] [v0, v1] = some (wrap64 (c0 * v0 + c1 * v1)) := by
  have w1 : wrap64 (0 + 1) = 1 := by unfold wrap64; omega
  have w2 : wrap64 (1 + 1) = 2 := by unfold wrap64; omega
  unfold impl_dot.f
  simp only [impl_dot.l0, w1, w2]
  simp [rd, wrap_l, wrap_r]
theorem at_eq (c0 c1 c2 d0 d1 K v0 v1 v2 a0 a1 : Int) (k : Nat) : impl_FrmForm_at.f (k + 4) [c0, c1, c2] [d0, d1] K [v0, v1, v2] [a0, a1] = some (atV c0 c1 c2 d0 d1 K v0 v1 v2 a0 a1) := by
  unfold impl_FrmForm_at.f
  rw [dot3V, show k + 4 = (k + 1) + 3 from rfl, dot2V]
  simp only [Option.bind_some, atV, wrap_l, wrap_r, wrap_ll, wrap_lr]
  have e : ∀ x y z : Int, x = y → some (wrap64 x) = some (wrap64 y) := fun x y _ h => by rw [h]
  refine e _ _ 0 ?_
  omega

theorem len3 {l : List Int} (h : (l.length : Int) = 3) : ∃ a b c, l = [a, b, c] := by
  match l, h with
  | [a, b, c], _ => exact ⟨a, b, c, rfl⟩
  | [], h => simp at h
  | [_], h => simp at h
  | [_, _], h => simp at h
  | _ :: _ :: _ :: _ :: _, h => simp at h; omega
theorem len2 {l : List Int} (h : (l.length : Int) = 2) : ∃ a b, l = [a, b] := by
  match l, h with
  | [a, b], _ => exact ⟨a, b, rfl⟩
  | [], h => simp at h
  | [_], h => simp at h
  | _ :: _ :: _ :: _, h => simp at h; omega
theorem okB_len {l : List Int} {n m : Int} (h : okB l n m = true) : (l.length : Int) = n := (okB_iff.mp h).1
theorem frmB_len {C D : List Int} {K : Int} (h : frmB C D K = true) : (C.length : Int) = 3 ∧ (D.length : Int) = 2 := by
  unfold frmB at h
  simp only [Bool.and_eq_true] at h
  exact ⟨okB_len h.1, okB_len h.2.1⟩

theorem inB_ib (n lo hi : Int) : inB n lo hi = ibB n lo hi := rfl

theorem withinB_ok (l : List Int) (n m : Int) : withinB l n m = okB l n m := by
  unfold withinB okB
  rw [List.all_eq_not_any_not]
  rfl

theorem set_takeG {α : Type} (z : α) (l : List α) (i : Nat) (h : i < l.length) :
    (l.take i ++ List.replicate (l.length - i) z).set i l[i] = l.take (i + 1) ++ List.replicate (l.length - (i + 1)) z := by
  rw [List.set_append_right _ _ (by rw [List.length_take]; omega), List.length_take, Nat.min_eq_left (by omega), Nat.sub_self]
  obtain ⟨m, hm⟩ : ∃ m, l.length - i = m + 1 := ⟨l.length - i - 1, by omega⟩
  rw [hm, List.replicate_succ, List.set_cons_zero, show l.length - (i + 1) = m from by omega, List.take_succ_eq_append_getElem h, List.append_assoc]
  rfl
theorem getDG {α : Type} (z : α) (l : List α) (i : Nat) (h : i < l.length) : l.getD ((i : Int)).toNat z = l[i] := by
  rw [show ((i : Int)).toNat = i from by omega, List.getD_eq_getElem?_getD, List.getElem?_eq_getElem h]
  rfl

def cvFrm (x : S24) : S26 := ⟨x.f0, x.f1, x.f2⟩

theorem szsFrm_loop (l : List S24) (hl : l.length ≤ 1048576) (hw : ∀ x ∈ l, x.f0.length ≤ 9223372036854775807 ∧ x.f1.length ≤ 9223372036854775807) (d : Nat) : ∀ (k i : Nat) (n : Int), i + d = l.length → d < k → 0 ≤ n → n ≤ 1048576 →
    ∃ t, laws_szFrmFormS.l0 k l n (i : Int) = some t ∧ (t < 0 ∨ (0 ≤ t ∧ t ≤ n ∧ ∀ x ∈ l.drop i, (x.f0.length : Int) ≤ n ∧ (x.f1.length : Int) ≤ n)) := by
  induction d with
  | zero =>
    intro k i n hi hk h0 h1
    obtain ⟨k, rfl⟩ : ∃ m, k = m + 1 := ⟨k - 1, by omega⟩
    refine ⟨n, ?_, .inr ⟨h0, Int.le_refl _, ?_⟩⟩
    · simp only [laws_szFrmFormS.l0]; rw [if_neg (by omega)]
    · rw [List.drop_of_length_le (by omega)]; simp
  | succ d ih =>
    intro k i n hi hk h0 h1
    obtain ⟨k, rfl⟩ : ∃ m, k = m + 1 := ⟨k - 1, by omega⟩
    have hlt : i < l.length := by omega
    have hq := hw _ (List.getElem_mem hlt)
    simp only [laws_szFrmFormS.l0]
    rw [if_pos (by omega), if_pos (by omega), show rd_T24 l (i : Int) = l[i] from getDG z24 l i hlt]
    obtain ⟨t, e, h⟩ := sz_frm l[i].f0 l[i].f1 l[i].f2 n h0 h1 hq.1 hq.2
    rw [e]; simp only [Option.bind_some]
    rcases h with h | ⟨ha, hb⟩
    · rw [if_pos h]; exact ⟨_, rfl, .inl (by decide)⟩
    · rw [if_neg (by omega), show wrap64 ((i : Int) + 1) = ((i + 1 : Nat) : Int) from by rw [wrap_id (by omega) (by omega)]; omega]
      obtain ⟨u, e2, h2⟩ := ih k (i + 1) t (by omega) (by omega) ha (by omega)
      refine ⟨u, e2, ?_⟩
      rcases h2 with h2 | ⟨p, q, r⟩
      · exact .inl h2
      · refine .inr ⟨p, by omega, fun x hx => ?_⟩
        rw [List.drop_eq_getElem_cons hlt] at hx
        rcases List.mem_cons.mp hx with rfl | hx
        · omega
        · have := r x hx; omega
theorem sz_sFrm (l : List S24) (k : Nat) (n : Int) (h0 : 0 ≤ n) (h1 : n ≤ 1048576) (hk : 1048577 < k) (hl : l.length ≤ 9223372036854775807) (hw : ∀ x ∈ l, x.f0.length ≤ 9223372036854775807 ∧ x.f1.length ≤ 9223372036854775807) :
    ∃ t, laws_szFrmFormS.f k l n = some t ∧ (t < 0 ∨ (0 ≤ t ∧ t ≤ n ∧ (l.length : Int) ≤ n ∧ ∀ x ∈ l, (x.f0.length : Int) ≤ 1048576 ∧ (x.f1.length : Int) ≤ 1048576)) := by
  unfold laws_szFrmFormS.f
  have e : wrap64 (n - (l.length : Int)) = n - (l.length : Int) := wrap_id (by omega) (by omega)
  rw [e]
  by_cases h : n - (l.length : Int) < 0
  · rw [if_pos h]; exact ⟨_, rfl, .inl (by decide)⟩
  · rw [if_neg h]
    obtain ⟨u, e2, h2⟩ := szsFrm_loop l (by omega) hw l.length k 0 (n - (l.length : Int)) (by omega) (by omega) (by omega) (by omega)
    refine ⟨u, e2, ?_⟩
    rcases h2 with h2 | ⟨p, q, r⟩
    · exact .inl h2
    · exact .inr ⟨p, by omega, by omega, fun x hx => by have := r x (by simpa using hx); omega⟩

theorem tosFrm_loop (l : List S24) (hl : l.length ≤ 1048576) (hw : ∀ x ∈ l, (x.f0.length : Int) ≤ 1048576 ∧ (x.f1.length : Int) ≤ 1048576) (d : Nat) : ∀ (k i : Nat), i + d = l.length → d + 1048577 < k →
    laws_toFrmFormS.l0 k l ((l.map cvFrm).take i ++ List.replicate ((l.map cvFrm).length - i) z26) (i : Int) = some (l.map cvFrm) := by
  induction d with
  | zero =>
    intro k i hi hk
    obtain ⟨k, rfl⟩ : ∃ m, k = m + 1 := ⟨k - 1, by omega⟩
    simp only [laws_toFrmFormS.l0]
    rw [if_neg (by omega), List.take_of_length_le (by rw [List.length_map]; omega), show (l.map cvFrm).length - i = 0 from by rw [List.length_map]; omega]
    simp
  | succ d ih =>
    intro k i hi hk
    obtain ⟨k, rfl⟩ : ∃ m, k = m + 1 := ⟨k - 1, by omega⟩
    have hlt : i < l.length := by omega
    have hlm : i < (l.map cvFrm).length := by rw [List.length_map]; exact hlt
    simp only [laws_toFrmFormS.l0]
    have hlen : ((l.map cvFrm).take i ++ List.replicate ((l.map cvFrm).length - i) z26).length = l.length := by simp; omega
    have hx := hw _ (List.getElem_mem hlt)
    rw [if_pos (by omega), if_pos (by omega), show rd_T24 l (i : Int) = l[i] from getDG z24 l i hlt, to_frm l[i].f0 l[i].f1 l[i].f2 k (by omega) (by omega) (by omega) (by omega)]
    simp only [Option.bind_some]
    have e := set_takeG z26 (l.map cvFrm) i hlm
    rw [List.getElem_map] at e
    rw [if_pos (by rw [hlen]; omega), show ((i : Int)).toNat = i from by omega, show wrap64 ((i : Int) + 1) = ((i + 1 : Nat) : Int) from by rw [wrap_id (by omega) (by omega)]; omega]
    refine Eq.trans ?_ (ih k (i + 1) (by omega) (by omega))
    rw [← e]; rfl
theorem to_sFrm (l : List S24) (k : Nat) (hk : 2097154 < k) (hl : (l.length : Int) ≤ 1048576) (hw : ∀ x ∈ l, (x.f0.length : Int) ≤ 1048576 ∧ (x.f1.length : Int) ≤ 1048576) : laws_toFrmFormS.f k l = some (l.map cvFrm) := by
  unfold laws_toFrmFormS.f
  rw [if_pos (by omega), if_pos (by omega), show ((l.length : Int)).toNat = l.length from by omega]
  have := tosFrm_loop l (by omega) hw l.length k 0 (by omega) (by omega)
  simpa using this
theorem cvsFrm (l : List S24) (hw : ∀ x ∈ l, (x.f0.length : Int) ≤ 1048576 ∧ (x.f1.length : Int) ≤ 1048576) : ∀ x ∈ l.map cvFrm, (x.f0.length : Int) ≤ 1048576 ∧ (x.f1.length : Int) ≤ 1048576 := by
  intro x hx
  obtain ⟨y, hy, rfl⟩ := List.mem_map.mp hx
  exact hw y hy

theorem eqsFrm_loop (l : List S26) (hl : l.length ≤ 1048576) (hw : ∀ x ∈ l, (x.f0.length : Int) ≤ 1048576 ∧ (x.f1.length : Int) ≤ 1048576) (d : Nat) : ∀ (k i : Nat), i + d = l.length → d + 1048577 < k → laws_eqFrmFormS.l0 k l l (i : Int) = some true := by
  induction d with
  | zero =>
    intro k i hi hk
    obtain ⟨k, rfl⟩ : ∃ m, k = m + 1 := ⟨k - 1, by omega⟩
    simp only [laws_eqFrmFormS.l0]
    rw [if_neg (by omega)]
  | succ d ih =>
    intro k i hi hk
    obtain ⟨k, rfl⟩ : ∃ m, k = m + 1 := ⟨k - 1, by omega⟩
    have hlt : i < l.length := by omega
    have hx := hw _ (List.getElem_mem hlt)
    simp only [laws_eqFrmFormS.l0]
    rw [if_pos (by omega), if_pos (by omega), if_pos (by omega), show rd_T26 l (i : Int) = l[i] from getDG z26 l i hlt, eq_frm l[i].f0 l[i].f1 l[i].f2 k (by omega) (by omega) (by omega) (by omega)]
    simp only [Option.bind_some, if_true, bne_self_eq_false, Bool.false_eq_true, if_false]
    rw [show wrap64 ((i : Int) + 1) = ((i + 1 : Nat) : Int) from by rw [wrap_id (by omega) (by omega)]; omega]
    exact ih k (i + 1) (by omega) (by omega)
theorem eq_sFrm (l : List S26) (k : Nat) (hk : 2097154 < k) (hl : (l.length : Int) ≤ 1048576) (hw : ∀ x ∈ l, (x.f0.length : Int) ≤ 1048576 ∧ (x.f1.length : Int) ≤ 1048576) : laws_eqFrmFormS.f k l l = some true := by
  unfold laws_eqFrmFormS.f
  rw [if_pos rfl]
  exact eqsFrm_loop l (by omega) hw l.length k 0 (by omega) (by omega)

theorem at_eqk (c0 c1 c2 d0 d1 K v0 v1 v2 a0 a1 : Int) (k : Nat) (hk : 4 ≤ k) : impl_FrmForm_at.f k [c0, c1, c2] [d0, d1] K [v0, v1, v2] [a0, a1] = some (atV c0 c1 c2 d0 d1 K v0 v1 v2 a0 a1) := by
  obtain ⟨k, rfl⟩ : ∃ m, k = m + 4 := ⟨k - 4, by omega⟩
  exact at_eq c0 c1 c2 d0 d1 K v0 v1 v2 a0 a1 k

theorem l1At_eqk (c0 c1 c2 d0 d1 K v0 v1 v2 a0 a1 : Int) (k : Nat) (hk : 8 ≤ k) (hK : wrap64 K = K) : spec_l1At.f k [c0, c1, c2] [d0, d1] K [v0, v1, v2] [a0, a1] = some (atV c0 c1 c2 d0 d1 K v0 v1 v2 a0 a1) := by
  obtain ⟨k, rfl⟩ : ∃ m, k = m + 8 := ⟨k - 8, by omega⟩
  exact l1At_eq c0 c1 c2 d0 d1 K v0 v1 v2 a0 a1 k hK

theorem plus_eq (x y z a b c : Int) (k : Nat) (hk : 4 ≤ k) : impl_plus.f k [x, y, z] [a, b, c] = some [wrap64 (x + a), wrap64 (y + b), wrap64 (z + c)] := by
  obtain ⟨k, rfl⟩ : ∃ m, k = m + 4 := ⟨k - 4, by omega⟩
  have w1 : wrap64 (0 + 1) = 1 := by unfold wrap64; omega
  have w2 : wrap64 (1 + 1) = 2 := by unfold wrap64; omega
  have w3 : wrap64 (2 + 1) = 3 := by unfold wrap64; omega
  unfold impl_plus.f slices_Clone_int_int.f
  rw [if_pos (by simp)]
  simp only [Option.bind_some, impl_plus.l0, w1, w2, w3]
  simp [rd]

/-- Forms of a size that the laws let in. -/
def szdL (l : List S24) : Prop := (l.length : Int) ≤ 1048576 ∧ ∀ x ∈ l, (x.f0.length : Int) ≤ 1048576 ∧ (x.f1.length : Int) ≤ 1048576
def szdI (l : List S26) : Prop := (l.length : Int) ≤ 1048576 ∧ ∀ x ∈ l, (x.f0.length : Int) ≤ 1048576 ∧ (x.f1.length : Int) ≤ 1048576
theorem cv_szd {l : List S24} (h : szdL l) : szdI (l.map cvFrm) := ⟨by rw [List.length_map]; exact h.1, cvsFrm l h.2⟩
def bigL (l : List S24) : Prop := l.length ≤ 9223372036854775807 ∧ ∀ x ∈ l, x.f0.length ≤ 9223372036854775807 ∧ x.f1.length ≤ 9223372036854775807
theorem sz_row (g a t : List S24) (s : Bool) (k : Nat) (n : Int) (h0 : 0 ≤ n) (h1 : n ≤ 1048576) (hk : 2097154 < k) (hg : bigL g) (ha : bigL a) (ht : bigL t) :
    ∃ u, laws_szRowRow.f k g a t s n = some u ∧ (u < 0 ∨ (0 ≤ u ∧ u ≤ n ∧ szdL g ∧ szdL a ∧ szdL t)) := by
  unfold laws_szRowRow.f
  obtain ⟨u, e, h⟩ := sz_sFrm g k n h0 h1 (by omega) hg.1 hg.2
  rw [e]; simp only [Option.bind_some, if_true, bne_self_eq_false, Bool.false_eq_true, if_false]
  rcases h with h | ⟨p1, p2, p3, p4⟩
  · rw [if_pos h]; exact ⟨_, rfl, .inl (by decide)⟩
  rw [if_neg (by omega)]
  obtain ⟨v, e2, h2⟩ := sz_sFrm a k u p1 (by omega) (by omega) ha.1 ha.2
  rw [e2]; simp only [Option.bind_some, if_true, bne_self_eq_false, Bool.false_eq_true, if_false]
  rcases h2 with h2 | ⟨q1, q2, q3, q4⟩
  · rw [if_pos h2]; exact ⟨_, rfl, .inl (by decide)⟩
  rw [if_neg (by omega)]
  obtain ⟨z, e3, h3⟩ := sz_sFrm t k v q1 (by omega) (by omega) ht.1 ht.2
  rw [e3]; simp only [Option.bind_some, if_true, bne_self_eq_false, Bool.false_eq_true, if_false]
  rcases h3 with h3 | ⟨r1, r2, r3, r4⟩
  · rw [if_pos h3]; exact ⟨_, rfl, .inl (by decide)⟩
  rw [if_neg (by omega)]
  exact ⟨_, rfl, .inr ⟨by omega, by omega, ⟨by omega, p4⟩, ⟨by omega, q4⟩, ⟨by omega, r4⟩⟩⟩

theorem to_row (g a t : List S24) (s : Bool) (k : Nat) (hk : 2097154 < k) (hg : szdL g) (ha : szdL a) (ht : szdL t) : laws_toRowRow.f k g a t s = some (g.map cvFrm, a.map cvFrm, t.map cvFrm, s) := by
  unfold laws_toRowRow.f
  rw [to_sFrm g k hk hg.1 hg.2]; simp only [Option.bind_some, if_true, bne_self_eq_false, Bool.false_eq_true, if_false]
  rw [to_sFrm a k hk ha.1 ha.2]; simp only [Option.bind_some, if_true, bne_self_eq_false, Bool.false_eq_true, if_false]
  rw [to_sFrm t k hk ht.1 ht.2]; simp only [Option.bind_some, if_true, bne_self_eq_false, Bool.false_eq_true, if_false]

theorem eq_row (g a t : List S26) (s : Bool) (k : Nat) (hk : 2097154 < k) (hg : szdI g) (ha : szdI a) (ht : szdI t) : laws_eqRowRow.f k g a t s g a t s = some true := by
  unfold laws_eqRowRow.f
  rw [eq_sFrm g k hk hg.1 hg.2]; simp only [Option.bind_some, if_true, bne_self_eq_false, Bool.false_eq_true, if_false]
  rw [eq_sFrm a k hk ha.1 ha.2]; simp only [Option.bind_some, if_true, bne_self_eq_false, Bool.false_eq_true, if_false]
  rw [eq_sFrm t k hk ht.1 ht.2]; simp only [Option.bind_some, if_true, bne_self_eq_false, Bool.false_eq_true, if_false]

/-- All forms ok. -/
def allF (l : List S26) : Bool := l.all fun x => frmB x.f0 x.f1 x.f2
/-- What 'RowOk' answers. -/
def rowV (g a t : List S26) (s : Bool) : Bool := (allF g && (allF a && allF t)) && (if s = true then ((a.length : Int) == 0) && ((t.length : Int) == 0) else ((a.length : Int) == 3))

theorem l3_loop (l : List S26) (hl : l.length ≤ 1048576) (hw : ∀ x ∈ l, (x.f0.length : Int) ≤ 1048576 ∧ (x.f1.length : Int) ≤ 1048576) (d : Nat) : ∀ (k i : Nat), i + d = l.length → d + 1048577 < k → spec_l3Forms.l0 k l (i : Int) = some (allF (l.drop i)) := by
  induction d with
  | zero =>
    intro k i hi hk
    obtain ⟨k, rfl⟩ : ∃ m, k = m + 1 := ⟨k - 1, by omega⟩
    simp only [spec_l3Forms.l0]
    rw [if_neg (by omega), List.drop_of_length_le (by omega)]
    rfl
  | succ d ih =>
    intro k i hi hk
    obtain ⟨k, rfl⟩ : ∃ m, k = m + 1 := ⟨k - 1, by omega⟩
    have hlt : i < l.length := by omega
    have hx := hw _ (List.getElem_mem hlt)
    simp only [spec_l3Forms.l0]
    rw [if_pos (by omega), if_pos (by omega), show rd_T26 l (i : Int) = l[i] from getDG z26 l i hlt, spec_Frm_eq l[i].f0 l[i].f1 l[i].f2 k (by omega) (by omega) (by omega) (by omega), List.drop_eq_getElem_cons hlt]
    unfold allF
    rw [List.all_cons]
    simp only [Option.bind_some]
    cases frmB l[i].f0 l[i].f1 l[i].f2 with
    | false => rfl
    | true =>
      rw [if_pos rfl, show wrap64 ((i : Int) + 1) = ((i + 1 : Nat) : Int) from by rw [wrap_id (by omega) (by omega)]; omega, Bool.true_and]
      exact ih k (i + 1) (by omega) (by omega)
theorem l3Forms_eq (l : List S26) (k : Nat) (hk : 2097154 < k) (hl : szdI l) : spec_l3Forms.f k l = some (allF l) := by
  unfold spec_l3Forms.f
  have h1 := hl.1
  have := l3_loop l (by omega) hl.2 l.length k 0 (by omega) (by omega)
  simpa using this

theorem len_two0 (a b : Nat) (ha : (a : Int) ≤ 1048576) (hb : (b : Int) ≤ 1048576) : (wrap64 ((a : Int) + (b : Int)) == 0) = (((a : Int) == 0) && ((b : Int) == 0)) := by
  rw [wrap_id (by omega) (by omega), Bool.eq_iff_iff]
  simp only [beq_iff_eq, Bool.and_eq_true]
  omega
theorem spec_Row_eq (g a t : List S26) (s : Bool) (k : Nat) (hk : 2097154 < k) (hg : szdI g) (ha : szdI a) (ht : szdI t) : spec_RowOk.f k g a t s = some (rowV g a t s) := by
  obtain ⟨q, rfl⟩ : ∃ m, k = m + 1 := ⟨k - 1, by omega⟩
  unfold spec_RowOk.f rowV
  rw [l3Forms_eq g _ hk hg]; simp only [Option.bind_some]
  have e2 := len_two0 _ _ ha.1 ht.1
  cases h1 : allF g with
  | false => simp [spec_RowOk.j0]
  | true =>
    rw [if_pos rfl, l3Forms_eq a _ hk ha]; simp only [Option.bind_some]
    cases h2 : allF a with
    | false => simp [spec_RowOk.j0]
    | true =>
      rw [if_pos rfl, l3Forms_eq t _ hk ht]; simp only [Option.bind_some]
      cases h3 : allF t with
      | false => simp [spec_RowOk.j0]
      | true =>
        cases s with
        | false => simp [spec_RowOk.j0]
        | true =>
          simp only [spec_RowOk.j0]
          rw [if_neg (by decide), if_pos trivial, e2]
          simp

theorem frmOkB_eq (x : S26) : frmOkB x = frmB x.f0 x.f1 x.f2 := by
  unfold frmOkB frmB
  rw [withinB_ok, withinB_ok, inB_ib]
theorem rowB_eq (g a t : List S26) (s : Bool) : rowB g a t s = rowV g a t s := by
  unfold rowB rowV allF
  have e : (!(g ++ a ++ t).any fun x => !frmOkB x) = ((g.all fun x => frmB x.f0 x.f1 x.f2) && ((a.all fun x => frmB x.f0 x.f1 x.f2) && (t.all fun x => frmB x.f0 x.f1 x.f2))) := by
    rw [List.any_append, List.any_append]
    simp only [frmOkB_eq, Bool.not_or, List.all_eq_not_any_not, Bool.and_assoc]
  rw [e]
theorem impl_Row_eq (g a t : List S26) (s : Bool) (hg : szdI g) (ha : szdI a) (ht : szdI t) : impl_RowOk.f g a t s = some (rowV g a t s) := by
  unfold impl_RowOk.f
  have h1 := hg.1
  have h2 := ha.1
  have h3 := ht.1
  rw [if_pos (by omega), rowB_eq]

/-- What a form is at what pots have and at arguments. -/
def atW (x : S26) (V R : List Int) : Int := atV (rd x.f0 0) (rd x.f0 1) (rd x.f0 2) (rd x.f1 0) (rd x.f1 1) x.f2 (rd V 0) (rd V 1) (rd V 2) (rd R 0) (rd R 1)
theorem atW_spec (x : S26) (V R : List Int) (k : Nat) (hk : 8 ≤ k) (hx : frmB x.f0 x.f1 x.f2 = true) (hV : okB V 3 10000 = true) (hR : okB R 2 9 = true) : spec_l1At.f k x.f0 x.f1 x.f2 V R = some (atW x V R) := by
  obtain ⟨v0, v1, v2, rfl⟩ := len3 (okB_len hV)
  obtain ⟨a0, a1, rfl⟩ := len2 (okB_len hR)
  obtain ⟨C, D, K⟩ := x
  simp only at hx ⊢
  have hK : wrap64 K = K := by
    unfold frmB at hx
    simp only [Bool.and_eq_true] at hx
    have := ibB_iff.mp hx.2.2
    exact wrap_id (by omega) (by omega)
  obtain ⟨q1, q2⟩ := frmB_len hx
  obtain ⟨c0, c1, c2, rfl⟩ := len3 q1
  obtain ⟨d0, d1, rfl⟩ := len2 q2
  exact l1At_eqk _ _ _ _ _ _ _ _ _ _ _ k hk hK
theorem atW_impl (x : S26) (V R : List Int) (k : Nat) (hk : 4 ≤ k) (hx : frmB x.f0 x.f1 x.f2 = true) (hV : okB V 3 10000 = true) (hR : okB R 2 9 = true) : impl_FrmForm_at.f k x.f0 x.f1 x.f2 V R = some (atW x V R) := by
  obtain ⟨v0, v1, v2, rfl⟩ := len3 (okB_len hV)
  obtain ⟨a0, a1, rfl⟩ := len2 (okB_len hR)
  obtain ⟨C, D, K⟩ := x
  simp only at hx ⊢
  obtain ⟨q1, q2⟩ := frmB_len hx
  obtain ⟨c0, c1, c2, rfl⟩ := len3 q1
  obtain ⟨d0, d1, rfl⟩ := len2 q2
  exact at_eqk _ _ _ _ _ _ _ _ _ _ _ k hk
/-- A row, what pots have and arguments are ok. -/
def preR (g a t : List S26) (s : Bool) (V R : List Int) : Bool := rowV g a t s && (okB V 3 10000 && okB R 2 9)
theorem preR_facts {g a t : List S26} {s : Bool} {V R : List Int} (h : preR g a t s V R = true) : allF g = true ∧ allF a = true ∧ allF t = true ∧ okB V 3 10000 = true ∧ okB R 2 9 = true ∧ (s = false → (a.length : Int) = 3) := by
  unfold preR rowV at h
  simp only [Bool.and_eq_true] at h
  obtain ⟨⟨⟨h1, h2, h3⟩, h4⟩, h5, h6⟩ := h
  refine ⟨h1, h2, h3, h5, h6, fun e => ?_⟩
  subst e
  simpa using h4
theorem allF_mem {l : List S26} (h : allF l = true) : ∀ x ∈ l, frmB x.f0 x.f1 x.f2 = true := fun x hx => List.all_eq_true.mp h x hx
/-- What 'RowFits' answers. -/
def fitsV (g a t : List S26) (s : Bool) (V R : List Int) : Bool := preR g a t s V R && !(g.any fun x => decide (atW x V R < 0))

theorem impl_pre_eq (g a t : List S26) (s : Bool) (V R : List Int) (hg : szdI g) (ha : szdI a) (ht : szdI t) : impl_rowOk.f g a t s V R = some (preR g a t s V R) := by
  unfold impl_rowOk.f preR
  rw [impl_Row_eq g a t s hg ha ht]; simp only [Option.bind_some]
  cases rowV g a t s with
  | false => rfl
  | true =>
    rw [if_pos rfl, impl_Val_eq]; simp only [Option.bind_some]
    cases okB V 3 10000 with
    | false => rfl
    | true => rw [if_pos rfl, impl_Arg_eq]; rfl

/-- What 'RowDo' answers. -/
def doOwn (V : List Int) (p : List Int) : List Int := [wrap64 (rd V 0 + rd p 0), wrap64 (rd V 1 + rd p 1), wrap64 (rd V 2 + rd p 2)]
def doEnd (V own told : List Int) : Int × List Int × List Int := if okB own 3 10000 = true then (1, told, own) else (3, [], V)
def doV (g a t : List S26) (s : Bool) (V R : List Int) : Int × List Int × List Int :=
  if preR g a t s V R = true then (if s = true then (2, [], V) else doEnd V (doOwn V (a.map fun x => atW x V R)) (t.map fun x => atW x V R)) else (0, [], [])
theorem doV_len (g a t : List S26) (s : Bool) (V R : List Int) (ht : t.length ≤ 1048576) (hV : V.length ≤ 1048576) : (doV g a t s V R).2.1.length ≤ 1048576 ∧ (doV g a t s V R).2.2.length ≤ 1048576 := by
  unfold doV doEnd
  split
  · split
    · exact ⟨by simp, hV⟩
    · split
      · exact ⟨by simpa using ht, by simp [doOwn]⟩
      · exact ⟨by simp, hV⟩
  · simp

theorem all_loop2 (a : List S26) (V R : List Int) (hl : a.length ≤ 1048576) (ha : allF a = true) (hV : okB V 3 10000 = true) (hR : okB R 2 9 = true) (d : Nat) : ∀ (k i : Nat) (acc : List Int), i + d = a.length → d + 20 < k → acc.length = i → impl_all.l0 k V R acc a (a.length : Int) (i : Int) = some (acc ++ (a.drop i).map fun x => atW x V R) := by
  induction d with
  | zero =>
    intro k i acc hi hk hacc
    obtain ⟨k, rfl⟩ : ∃ m, k = m + 1 := ⟨k - 1, by omega⟩
    simp only [impl_all.l0]
    rw [if_neg (by omega), List.drop_of_length_le (by omega)]
    simp
  | succ d ih =>
    intro k i acc hi hk hacc
    obtain ⟨k, rfl⟩ : ∃ m, k = m + 1 := ⟨k - 1, by omega⟩
    have hlt : i < a.length := by omega
    have hx := allF_mem ha _ (List.getElem_mem hlt)
    simp only [impl_all.l0]
    rw [if_pos (by omega), if_pos (by omega), if_pos (by omega), show rd_T26 a (i : Int) = a[i] from getDG z26 a i hlt, atW_impl a[i] V R k (by omega) hx hV hR]
    simp only [Option.bind_some]
    rw [if_pos (by omega), show wrap64 ((i : Int) + 1) = ((i + 1 : Nat) : Int) from by rw [wrap_id (by omega) (by omega)]; omega, ih k (i + 1) _ (by omega) (by omega) (by simp [hacc]), List.drop_eq_getElem_cons hlt, List.map_cons, List.append_assoc]
    rfl
theorem impl_all_eq (a : List S26) (V R : List Int) (k : Nat) (hk : 1048700 < k) (hl : a.length ≤ 1048576) (ha : allF a = true) (hV : okB V 3 10000 = true) (hR : okB R 2 9 = true) : impl_all.f k a V R = some (a.map fun x => atW x V R) := by
  unfold impl_all.f
  have := all_loop2 a V R hl ha hV hR a.length k 0 [] (by omega) (by omega) rfl
  simpa using this

theorem mapLen3 {a : List S26} (f : S26 → Int) (h : (a.length : Int) = 3) : ∃ p q r, a.map f = [p, q, r] := by
  obtain ⟨x, y, z, e⟩ := len3 (l := a.map f) (by rw [List.length_map]; exact h)
  exact ⟨x, y, z, e⟩
theorem impl_Do_eq (g a t : List S26) (s : Bool) (V R : List Int) (k : Nat) (hk : 2097200 < k) (hg : szdI g) (ha : szdI a) (ht : szdI t) (hV : V.length ≤ 1048576) : impl_RowDo.f k g a t s V R = some (doV g a t s V R) := by
  unfold impl_RowDo.f doV
  rw [impl_pre_eq g a t s V R hg ha ht]; simp only [Option.bind_some]
  cases hp : preR g a t s V R with
  | false => rfl
  | true =>
    obtain ⟨f1, f2, f3, f4, f5, f6⟩ := preR_facts hp
    have h1 := ha.1
    have h2 := ht.1
    have hc : slices_Clone_int_int.f V = some V := by unfold slices_Clone_int_int.f; rw [if_pos (by omega)]
    rw [if_pos rfl, if_pos rfl]
    cases s with
    | true => rw [if_pos rfl, if_pos rfl, hc]; rfl
    | false =>
      rw [if_neg (by decide), if_neg (by decide), impl_all_eq a V R k (by omega) (by omega) f2 f4 f5]; simp only [Option.bind_some]
      obtain ⟨p, q, r, e⟩ := mapLen3 (fun x => atW x V R) (f6 rfl)
      obtain ⟨v0, v1, v2, rfl⟩ := len3 (okB_len f4)
      rw [e, plus_eq v0 v1 v2 p q r k (by omega)]; simp only [Option.bind_some]
      unfold doEnd
      show _ = some (if okB [wrap64 (v0 + p), wrap64 (v1 + q), wrap64 (v2 + r)] 3 10000 = true then _ else _)
      rw [impl_Val_eq]; simp only [Option.bind_some]
      cases hq : okB [wrap64 (v0 + p), wrap64 (v1 + q), wrap64 (v2 + r)] 3 10000 with
      | true => rw [if_pos rfl, impl_all_eq t _ R k (by omega) (by omega) f3 f4 f5]; rfl
      | false => rw [if_neg (by decide), hc]; rfl

theorem l2End_eq (V own told : List Int) (k : Nat) (hk : 20 < k) (ho : own.length < k) (ho2 : own.length ≤ 1048576) (hV : V.length ≤ 1048576) : spec_l2End.f k V own told = some (doEnd V own told) := by
  unfold spec_l2End.f doEnd
  rw [spec_Val_eq own k ho ho2]; simp only [Option.bind_some]
  cases okB own 3 10000 with
  | true => rfl
  | false =>
    rw [if_neg (by decide), if_pos (by simp; omega)]
    rfl
theorem do_l1 (g a t : List S26) (s : Bool) (V R own : List Int) (hl : t.length ≤ 1048576) (ht : allF t = true) (hV : okB V 3 10000 = true) (hR : okB R 2 9 = true) (ho : own.length = 3) (d : Nat) : ∀ (k i : Nat) (acc : List Int), i + d = t.length → d + 30 < k → acc.length = i → spec_RowDo.l1 k V R own acc (i : Int) g a t s = some (doEnd V own (acc ++ (t.drop i).map fun x => atW x V R)) := by
  have hv3 := okB_len hV
  induction d with
  | zero =>
    intro k i acc hi hk hacc
    obtain ⟨k, rfl⟩ : ∃ m, k = m + 1 := ⟨k - 1, by omega⟩
    simp only [spec_RowDo.l1]
    rw [if_neg (by omega), List.drop_of_length_le (by omega), l2End_eq V own acc k (by omega) (by omega) (by omega) (by omega)]
    simp
  | succ d ih =>
    intro k i acc hi hk hacc
    obtain ⟨k, rfl⟩ : ∃ m, k = m + 1 := ⟨k - 1, by omega⟩
    have hlt : i < t.length := by omega
    have hx := allF_mem ht _ (List.getElem_mem hlt)
    simp only [spec_RowDo.l1]
    rw [if_pos (by omega), if_pos (by omega), show rd_T26 t (i : Int) = t[i] from getDG z26 t i hlt, atW_spec t[i] V R k (by omega) hx hV hR]
    simp only [Option.bind_some]
    rw [if_pos (by omega), show wrap64 ((i : Int) + 1) = ((i + 1 : Nat) : Int) from by rw [wrap_id (by omega) (by omega)]; omega, ih k (i + 1) _ (by omega) (by omega) (by simp [hacc]), List.drop_eq_getElem_cons hlt, List.map_cons, List.append_assoc]
    rfl
theorem do_l0 (g a t : List S26) (s : Bool) (V R : List Int) (hl : t.length ≤ 1048576) (ha : allF a = true) (ha3 : (a.length : Int) = 3) (ht : allF t = true) (hV : okB V 3 10000 = true) (hR : okB R 2 9 = true) (k : Nat) (hk : 1048700 < k) : spec_RowDo.l0 k V R V 0 g a t s = some (doEnd V (doOwn V (a.map fun x => atW x V R)) (t.map fun x => atW x V R)) := by
  obtain ⟨k, rfl⟩ : ∃ m, k = m + 4 := ⟨k - 4, by omega⟩
  have w1 : wrap64 (0 + 1) = 1 := by unfold wrap64; omega
  have w2 : wrap64 (1 + 1) = 2 := by unfold wrap64; omega
  have w3 : wrap64 (2 + 1) = 3 := by unfold wrap64; omega
  have hm := allF_mem ha
  match a, ha3, hm with
  | [x, y, z], _, hm =>
    have e0 := fun (j : Nat) (hj : 8 ≤ j) => atW_spec x V R j hj (hm x (by simp)) hV hR
    have e1 := fun (j : Nat) (hj : 8 ≤ j) => atW_spec y V R j hj (hm y (by simp)) hV hR
    have e2 := fun (j : Nat) (hj : 8 ≤ j) => atW_spec z V R j hj (hm z (by simp)) hV hR
    have hEnd := fun (own : List Int) (ho : own.length = 3) => do_l1 g [x, y, z] t s V R own hl ht hV hR ho t.length k 0 [] (by omega) (by omega) rfl
    generalize hx : atW x V R = p at e0
    generalize hy : atW y V R = q at e1
    generalize hz : atW z V R = r at e2
    simp only [List.map_cons, List.map_nil, hx, hy, hz]
    obtain ⟨v0, v1, v2, rfl⟩ := len3 (okB_len hV)
    simp only [spec_RowDo.l0, w1, w2, w3]
    rw [if_pos (by decide), if_pos (by decide), if_pos (by simp), if_pos (by simp), show rd_T26 [x, y, z] 0 = x from rfl, e0 _ (by omega)]; simp only [Option.bind_some]
    rw [if_pos (by decide), if_pos (by decide), if_pos (by simp), if_pos (by simp), show rd_T26 [x, y, z] 1 = y from rfl, e1 _ (by omega)]; simp only [Option.bind_some]
    rw [if_pos (by decide), if_pos (by decide), if_pos (by simp), if_pos (by simp), show rd_T26 [x, y, z] 2 = z from rfl, e2 _ (by omega)]; simp only [Option.bind_some]
    rw [if_neg (by decide)]
    refine (hEnd _ ?_).trans ?_
    · simp
    · simp [doOwn, rd]
theorem spec_Do_eq (g a t : List S26) (s : Bool) (V R : List Int) (k : Nat) (hk : 2097200 < k) (hg : szdI g) (ha : szdI a) (ht : szdI t) (hV : V.length ≤ 1048576) (hR : R.length ≤ 1048576) : spec_RowDo.f k g a t s V R = some (doV g a t s V R) := by
  obtain ⟨q, rfl⟩ : ∃ m, k = m + 1 := ⟨k - 1, by omega⟩
  unfold spec_RowDo.f doV
  rw [spec_Row_eq g a t s _ (by omega) hg ha ht]; simp only [Option.bind_some]
  have no : ∀ b : Bool, b = true → spec_RowDo.j0 (q + 1) V R b g a t s = some (0, [], []) := by intro b hb; subst hb; simp [spec_RowDo.j0]
  cases h1 : rowV g a t s with
  | false => unfold preR; rw [h1, if_neg (by decide), no _ rfl]; rfl
  | true =>
    rw [if_pos rfl, spec_Val_eq V _ (by omega) (by omega)]; simp only [Option.bind_some]
    cases h2 : okB V 3 10000 with
    | false => unfold preR; rw [h1, h2, if_neg (by decide), no _ rfl]; rfl
    | true =>
      rw [if_pos rfl, spec_Arg_eq R _ (by omega) (by omega)]; simp only [Option.bind_some]
      cases h3 : okB R 2 9 with
      | false => unfold preR; rw [h1, h2, h3, no (!false) rfl]; rfl
      | true =>
        have hp : preR g a t s V R = true := by unfold preR; rw [h1, h2, h3]; rfl
        obtain ⟨f1, f2, f3, f4, f5, f6⟩ := preR_facts hp
        have hg1 := ht.1
        rw [hp, if_pos rfl]
        simp only [spec_RowDo.j0, Bool.not_true, Bool.false_eq_true, if_false, Option.bind_some, List.nil_append]
        cases s with
        | true => rw [if_pos rfl, if_pos (by simp; omega)]; rfl
        | false =>
          rw [if_neg (by decide), if_pos (by simp; omega), if_neg (by decide)]
          exact do_l0 g a t false V R (by omega) f2 (f6 rfl) f3 f4 f5 q (by omega)

theorem totF_bd : ∀ (l : List S26), (∀ x ∈ l, (x.f0.length : Int) ≤ 1048576 ∧ (x.f1.length : Int) ≤ 1048576) → totF l ≤ (l.length : Int) * 2097153
  | [], _ => by simp [totF]
  | x :: l, h => by
    have h1 := h x (by simp)
    have h2 := totF_bd l (fun y hy => h y (by simp [hy]))
    simp only [totF, List.length_cons]
    omega
theorem totF_szd {l : List S26} (h : szdI l) : 0 ≤ totF l ∧ totF l ≤ 2199024304128 := by
  have h1 := totF_bd l h.2
  have h2 := h.1
  exact ⟨totF_nn l, by omega⟩

theorem FnExactRowDo : laws_FnExactRowDo.Pure := by
  intro g a t s V R hg ha ht hV hR
  obtain ⟨k, hk⟩ : ∃ k : Nat, 6000000 < k := ⟨6000001, by omega⟩
  refine ⟨k + 3, ?_⟩
  unfold laws_FnExactRowDo.f
  by_cases h8 : (V.length : Int) > 1048576
  · rw [if_pos h8]
  rw [if_neg h8]
  by_cases h9 : (R.length : Int) > 1048576
  · rw [if_pos h9]
  rw [if_neg h9]
  obtain ⟨u, e, h⟩ := sz_row g a t s (k + 3) 1048576 (by omega) (by omega) (by omega) ⟨hg.1, fun x hx => ⟨(hg.2 x hx).1.1, (hg.2 x hx).2.1.1⟩⟩ ⟨ha.1, fun x hx => ⟨(ha.2 x hx).1.1, (ha.2 x hx).2.1.1⟩⟩ ⟨ht.1, fun x hx => ⟨(ht.2 x hx).1.1, (ht.2 x hx).2.1.1⟩⟩
  rw [e]; simp only [Option.bind_some, if_true, bne_self_eq_false, Bool.false_eq_true, if_false]
  rcases h with h | ⟨h1, h2, h3, h4, h5⟩
  · rw [if_pos h]
  have q3 := cv_szd h3
  have q4 := cv_szd h4
  have q5 := cv_szd h5
  have tor := fun (j : Nat) (hj : 6000000 < j) => to_row g a t s j (by omega) h3 h4 h5
  have eqr := fun (j : Nat) (hj : 6000000 < j) => eq_row _ _ _ s j (by omega) q3 q4 q5
  have b3 := totF_szd q3
  have b4 := totF_szd q4
  have b5 := totF_szd q5
  have hl := doV_len (g.map cvFrm) (a.map cvFrm) (t.map cvFrm) s V R (by have := q5.1; omega) (by omega)
  have hs := spec_Do_eq _ _ _ s V R (k + 3) (by omega) q3 q4 q5 (by omega) (by omega)
  have hi := fun (j : Nat) (hj : 6000000 < j) => impl_Do_eq _ _ _ s V R j (by omega) q3 q4 q5 (by omega)
  have mk : ∀ (b : Bool), laws_markRowRow.f (g.map cvFrm) (a.map cvFrm) (t.map cvFrm) b 1 = some (1 + totF (g.map cvFrm) + totF (a.map cvFrm) + totF (t.map cvFrm)) := fun b => by
    unfold laws_markRowRow.f
    rw [if_pos ⟨by omega, by omega⟩]
  generalize doV (g.map cvFrm) (a.map cvFrm) (t.map cvFrm) s V R = r at hl hs hi
  obtain ⟨c, X, Y⟩ := r
  simp only at hl
  have eqs : ∀ j : Nat, 6000000 < j → laws_eqResResult.f j c X c X = some true := fun j hj => by
    unfold laws_eqResResult.f
    rw [if_pos rfl, eq_int X j (by omega) (by omega)]; rfl
  rw [if_neg (by omega), tor _ (by omega)]; simp only [Option.bind_some, if_true, bne_self_eq_false, Bool.false_eq_true, if_false]
  rw [to_int V _ (by omega) (by omega)]; simp only [Option.bind_some, if_true, bne_self_eq_false, Bool.false_eq_true, if_false]
  rw [to_int R _ (by omega) (by omega)]; simp only [Option.bind_some, if_true, bne_self_eq_false, Bool.false_eq_true, if_false]
  rw [hs]; simp only [Option.bind_some, if_true, bne_self_eq_false, Bool.false_eq_true, if_false]
  rw [hi _ (by omega)]; simp only [Option.bind_some, if_true, bne_self_eq_false, Bool.false_eq_true, if_false]
  rw [eqs _ (by omega)]; simp only [Option.bind_some, if_true, bne_self_eq_false, Bool.false_eq_true, if_false]
  rw [eq_int Y _ (by omega) (by omega)]; simp only [Option.bind_some, if_true, bne_self_eq_false, Bool.false_eq_true, if_false]
  simp only [laws_FnExactRowDo.j0, Bool.not_true, Bool.false_eq_true, if_false]
  rw [tor _ (by omega)]; simp only [Option.bind_some, if_true, bne_self_eq_false, Bool.false_eq_true, if_false]
  rw [eqr _ (by omega)]; simp only [Option.bind_some, if_true, bne_self_eq_false, Bool.false_eq_true, if_false]
  rw [to_int V _ (by omega) (by omega)]; simp only [Option.bind_some, if_true, bne_self_eq_false, Bool.false_eq_true, if_false]
  rw [eq_int V _ (by omega) (by omega)]; simp only [Option.bind_some, if_true, bne_self_eq_false, Bool.false_eq_true, if_false]
  rw [to_int R _ (by omega) (by omega)]; simp only [Option.bind_some, if_true, bne_self_eq_false, Bool.false_eq_true, if_false]
  rw [eq_int R _ (by omega) (by omega)]; simp only [Option.bind_some, if_true, bne_self_eq_false, Bool.false_eq_true, if_false]
  rw [mk]; simp only [Option.bind_some, if_true, bne_self_eq_false, Bool.false_eq_true, if_false]
  rw [mark_int V _ _ (by omega) (by omega) (by omega) (by omega)]; simp only [Option.bind_some, if_true, bne_self_eq_false, Bool.false_eq_true, if_false]
  rw [mark_int R _ _ (by omega) (by omega) (by omega) (by omega)]; simp only [Option.bind_some, if_true, bne_self_eq_false, Bool.false_eq_true, if_false]
  rw [if_neg (by omega), eqs _ (by omega)]; simp only [Option.bind_some, if_true, bne_self_eq_false, Bool.false_eq_true, if_false]
  rw [eq_int Y _ (by omega) (by omega)]; simp only [Option.bind_some, if_true, bne_self_eq_false, Bool.false_eq_true, if_false]
  simp only [laws_FnExactRowDo.j1, Bool.not_true, Bool.false_eq_true, if_false]
  unfold laws_markResResult.f laws_heldResResult.f
  rw [mark_int X 1 _ (by omega) (by omega) (by omega) (by omega)]; simp only [Option.bind_some, if_true, bne_self_eq_false, Bool.false_eq_true, if_false]
  rw [mark_int Y _ _ (by omega) (by omega) (by omega) (by omega)]; simp only [Option.bind_some, if_true, bne_self_eq_false, Bool.false_eq_true, if_false]
  rw [held_int X.length 1 _ (by omega) (by omega) (by omega) (by omega)]; simp only [Option.bind_some, if_true, bne_self_eq_false, Bool.false_eq_true, if_false]
  rw [if_neg (by omega)]; simp only [Option.bind_some, if_true, bne_self_eq_false, Bool.false_eq_true, if_false]
  rw [if_neg (by omega), held_int Y.length _ _ (by omega) (by omega) (by omega) (by omega)]; simp only [Option.bind_some, if_true, bne_self_eq_false, Bool.false_eq_true, if_false]
  rw [if_neg (by omega), tor _ (by omega)]; simp only [Option.bind_some, if_true, bne_self_eq_false, Bool.false_eq_true, if_false]
  rw [to_int V _ (by omega) (by omega)]; simp only [Option.bind_some, if_true, bne_self_eq_false, Bool.false_eq_true, if_false]
  rw [to_int R _ (by omega) (by omega)]; simp only [Option.bind_some, if_true, bne_self_eq_false, Bool.false_eq_true, if_false]
  rw [hi _ (by omega)]; simp only [Option.bind_some, if_true, bne_self_eq_false, Bool.false_eq_true, if_false]
  rw [eqs _ (by omega)]; simp only [Option.bind_some, if_true, bne_self_eq_false, Bool.false_eq_true, if_false]
  rw [eq_int Y _ (by omega) (by omega)]; simp only [Option.bind_some, if_true, bne_self_eq_false, Bool.false_eq_true, if_false]
  simp only [laws_FnExactRowDo.j2, Bool.not_true, Bool.false_eq_true, if_false]
  unfold laws_heldResResult.f
  rw [held_int X.length 1 _ (by omega) (by omega) (by omega) (by omega)]; simp only [Option.bind_some, if_true, bne_self_eq_false, Bool.false_eq_true, if_false]
  rw [if_neg (by omega)]; simp only [Option.bind_some, if_true, bne_self_eq_false, Bool.false_eq_true, if_false]
  rw [if_neg (by omega), held_int Y.length _ _ (by omega) (by omega) (by omega) (by omega)]; simp only [Option.bind_some, if_true, bne_self_eq_false, Bool.false_eq_true, if_false]
  rw [if_neg (by omega)]

end Go.Proofs.Ytfbdjimcjoddgaa.Pure
