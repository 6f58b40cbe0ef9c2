/- The plain law FnExactFrmAdd: what the printed functions compute answers as the statement says. -/
import Derived.Test.YtfbdjimcjoddgaaQFnExactFrmAddx5
import Derived.OpenShut
set_option linter.unusedVariables false
set_option linter.unusedSimpArgs false
namespace Go.Proofs.Ytfbdjimcjoddgaa.Pure
open Go.RowKit Go.Proofs.Ytfbdjimcjoddgaa.QFnExactFrmAdd Go.Proofs.YtfbdjimcjoddgaaW.PrintWords Go.Proofs.YtfbdjimcjoddgaaW.PrintLast Go.Proofs.Ytfbdjimcjoddgaa.HWords

theorem bd64 {x : Int} (h : (Lit.int .i64 x).wf = true) : -9223372036854775808 ≤ x ∧ x ≤ 9223372036854775807 := bounds_i64 h
theorem wrap_id {x : Int} (h0 : -9223372036854775808 ≤ x) (h1 : x ≤ 9223372036854775807) : wrap64 x = x := by unfold wrap64; omega
theorem wrap_l (x y : Int) : wrap64 (wrap64 x + y) = wrap64 (x + y) := by unfold wrap64; omega
theorem wrap_r (x y : Int) : wrap64 (x + wrap64 y) = wrap64 (x + y) := by unfold wrap64; omega
theorem wrap_ll (x y z : Int) : wrap64 (wrap64 x + y + z) = wrap64 (x + y + z) := by unfold wrap64; omega
theorem wrap_lr (x y z : Int) : wrap64 (x + wrap64 y + z) = wrap64 (x + y + z) := by unfold wrap64; omega
theorem getD_at (l : List Int) (i : Nat) (h : i < l.length) : rd l (i : Int) = l[i] := by
  unfold rd
  rw [show ((i : Int)).toNat = i from by omega, List.getD_eq_getElem?_getD, List.getElem?_eq_getElem h]
  rfl
/-- The plain 'within bounds'. -/
def ibB (n lo hi : Int) : Bool := decide (lo ≤ n) && decide (n ≤ hi)
/-- As many as must be, each within a bound. -/
def okB (l : List Int) (n m : Int) : Bool := decide ((l.length : Int) = n) && l.all (fun x => ibB x (wrap64 (-m)) m)
theorem ibB_iff {n lo hi : Int} : ibB n lo hi = true ↔ lo ≤ n ∧ n ≤ hi := by unfold ibB; simp
theorem okB_iff {l : List Int} {n m : Int} : okB l n m = true ↔ (l.length : Int) = n ∧ ∀ x ∈ l, wrap64 (-m) ≤ x ∧ x ≤ m := by
  unfold okB ibB; simp

theorem sz_int (l : List Int) (n : Int) (h0 : 0 ≤ n) (h1 : n ≤ 1048576) (hl : l.length ≤ 9223372036854775807) :
    ∃ t, laws_szIntS.f l n = some t ∧ (t < 0 ∨ (0 ≤ t ∧ t + l.length = n)) := by
  unfold laws_szIntS.f
  have e : wrap64 (n - (l.length : Int)) = n - (l.length : Int) := wrap_id (by omega) (by omega)
  rw [e]
  by_cases h : n - (l.length : Int) < 0
  · rw [if_pos h]; exact ⟨_, rfl, .inl (by decide)⟩
  · rw [if_neg h]; exact ⟨_, rfl, .inr ⟨by omega, by omega⟩⟩

theorem sz_frm (C D : List Int) (K : Int) (n : Int) (h0 : 0 ≤ n) (h1 : n ≤ 1048576) (hc : C.length ≤ 9223372036854775807) (hd : D.length ≤ 9223372036854775807) :
    ∃ t, laws_szFrmForm.f C D K n = some t ∧ (t < 0 ∨ (0 ≤ t ∧ t + C.length + D.length = n)) := by
  unfold laws_szFrmForm.f
  obtain ⟨t, e, h⟩ := sz_int C n h0 h1 hc
  rw [e]; simp only [Option.bind_some, if_true, bne_self_eq_false, Bool.false_eq_true, if_false]
  rcases h with h | ⟨ha, hb⟩
  · rw [if_pos h]; exact ⟨_, rfl, .inl (by decide)⟩
  · rw [if_neg (by omega)]
    obtain ⟨u, e2, h2⟩ := sz_int D t ha (by omega) hd
    rw [e2]; simp only [Option.bind_some, if_true, bne_self_eq_false, Bool.false_eq_true, if_false]
    rcases h2 with h2 | ⟨hc2, hd2⟩
    · rw [if_pos h2]; exact ⟨_, rfl, .inl (by decide)⟩
    · rw [if_neg (by omega)]; exact ⟨_, rfl, .inr ⟨by omega, by omega⟩⟩

theorem set_take (l : List Int) (i : Nat) (h : i < l.length) :
    (l.take i ++ List.replicate (l.length - i) (0 : Int)).set i l[i] = l.take (i + 1) ++ List.replicate (l.length - (i + 1)) 0 := by
  rw [List.set_append_right _ _ (by rw [List.length_take]; omega), List.length_take, Nat.min_eq_left (by omega), Nat.sub_self]
  obtain ⟨m, hm⟩ : ∃ m, l.length - i = m + 1 := ⟨l.length - i - 1, by omega⟩
  rw [hm, List.replicate_succ, List.set_cons_zero, show l.length - (i + 1) = m from by omega, List.take_succ_eq_append_getElem h, List.append_assoc]
  rfl
theorem to_loop (l : List Int) (hl : l.length ≤ 1048576) (d : Nat) : ∀ (k i : Nat), i + d = l.length → d < k →
    laws_toIntS.l0 k l (l.take i ++ List.replicate (l.length - i) 0) (i : Int) = some l := by
  induction d with
  | zero =>
    intro k i hi hk
    obtain ⟨k, rfl⟩ : ∃ m, k = m + 1 := ⟨k - 1, by omega⟩
    simp only [laws_toIntS.l0]
    rw [if_neg (by omega), show i = l.length from by omega]
    simp
  | succ d ih =>
    intro k i hi hk
    obtain ⟨k, rfl⟩ : ∃ m, k = m + 1 := ⟨k - 1, by omega⟩
    have hlt : i < l.length := by omega
    simp only [laws_toIntS.l0]
    have hlen : (l.take i ++ List.replicate (l.length - i) (0 : Int)).length = l.length := by simp; omega
    rw [if_pos (by omega), if_pos (by omega), if_pos (by rw [hlen]; omega), getD_at l i hlt, show ((i : Int)).toNat = i from by omega, set_take l i hlt,
      wrap_id (by omega) (by omega), show (i : Int) + 1 = ((i + 1 : Nat) : Int) from by omega]
    exact ih k (i + 1) (by omega) (by omega)
theorem to_int (l : List Int) (k : Nat) (hk : l.length < k) (hl : l.length ≤ 1048576) : laws_toIntS.f k l = some l := by
  unfold laws_toIntS.f
  rw [if_pos (by omega), if_pos (by omega), show ((l.length : Int)).toNat = l.length from by omega]
  have := to_loop l hl l.length k 0 (by omega) hk
  simpa using this

theorem to_frm (C D : List Int) (K : Int) (k : Nat) (hc : C.length < k) (hd : D.length < k) (hc2 : C.length ≤ 1048576) (hd2 : D.length ≤ 1048576) : laws_toFrmForm.f k C D K = some (C, D, K) := by
  unfold laws_toFrmForm.f
  rw [to_int C k hc hc2]; simp only [Option.bind_some, if_true, bne_self_eq_false, Bool.false_eq_true, if_false]
  rw [to_int D k hd hd2]; simp only [Option.bind_some, if_true, bne_self_eq_false, Bool.false_eq_true, if_false]

theorem eq_loop (l : List Int) (hl : l.length ≤ 1048576) (d : Nat) : ∀ (k i : Nat), i + d = l.length → d < k → laws_eqIntS.l0 k l l (i : Int) = some true := by
  induction d with
  | zero =>
    intro k i hi hk
    obtain ⟨k, rfl⟩ : ∃ m, k = m + 1 := ⟨k - 1, by omega⟩
    simp only [laws_eqIntS.l0]
    rw [if_neg (by omega)]
  | succ d ih =>
    intro k i hi hk
    obtain ⟨k, rfl⟩ : ∃ m, k = m + 1 := ⟨k - 1, by omega⟩
    simp only [laws_eqIntS.l0, if_true]
    rw [if_pos (by omega), if_pos (by omega), if_pos (by omega), wrap_id (by omega) (by omega), show (i : Int) + 1 = ((i + 1 : Nat) : Int) from by omega]
    exact ih k (i + 1) (by omega) (by omega)
theorem eq_int (l : List Int) (k : Nat) (hk : l.length < k) (hl : l.length ≤ 1048576) : laws_eqIntS.f k l l = some true := by
  unfold laws_eqIntS.f
  rw [if_pos rfl]
  exact eq_loop l hl l.length k 0 (by omega) hk

theorem eq_frm (C D : List Int) (K : Int) (k : Nat) (hc : C.length < k) (hd : D.length < k) (hc2 : C.length ≤ 1048576) (hd2 : D.length ≤ 1048576) : laws_eqFrmForm.f k C D K C D K = some true := by
  unfold laws_eqFrmForm.f
  rw [eq_int C k hc hc2]; simp only [Option.bind_some, if_true, bne_self_eq_false, Bool.false_eq_true, if_false]
  rw [eq_int D k hd hd2]; simp only [Option.bind_some, if_true, bne_self_eq_false, Bool.false_eq_true, if_false]

/-- The numbers from m on, so many. -/
def seqI (m : Int) (n : Nat) : List Int := (List.range n).map fun (i : Nat) => m + (i : Int)
theorem seqI_length (m : Int) (n : Nat) : (seqI m n).length = n := by simp [seqI]
theorem seqI_at (m : Int) (n i : Nat) (h : i < n) : rd (seqI m n) (i : Int) = m + i := by
  rw [getD_at _ _ (by rw [seqI_length]; exact h)]
  simp [seqI]
theorem seqI_set (l : List Int) (m : Int) (i : Nat) (h : i < l.length) : (seqI m i ++ l.drop i).set i (m + i) = seqI m (i + 1) ++ l.drop (i + 1) := by
  rw [List.set_append_right _ _ (by rw [seqI_length]; omega), seqI_length, Nat.sub_self, List.drop_eq_getElem_cons h, List.set_cons_zero]
  unfold seqI
  rw [List.range_succ]
  simp
theorem mark_loop (l : List Int) (m : Int) (hl : l.length ≤ 1048576) (h0 : 0 ≤ m) (h1 : m ≤ 1099511627776) (d : Nat) : ∀ (k i : Nat), i + d = l.length → d < k →
    laws_markIntS.l0 k (seqI m i ++ l.drop i) (m + i) (i : Int) = some (m + l.length, seqI m l.length) := by
  induction d with
  | zero =>
    intro k i hi hk
    obtain ⟨k, rfl⟩ : ∃ m, k = m + 1 := ⟨k - 1, by omega⟩
    have hi' : i = l.length := by omega
    subst hi'
    simp only [laws_markIntS.l0]
    rw [if_neg (by simp [seqI_length])]
    simp
  | succ d ih =>
    intro k i hi hk
    obtain ⟨k, rfl⟩ : ∃ m, k = m + 1 := ⟨k - 1, by omega⟩
    have hlt : i < l.length := by omega
    simp only [laws_markIntS.l0]
    rw [if_pos (by simp [seqI_length]; omega), if_pos (by omega), show ((i : Int)).toNat = i from by omega, seqI_set l m i hlt, wrap_id (by omega) (by omega), wrap_id (by omega) (by omega),
      show m + (i : Int) + 1 = m + ((i + 1 : Nat) : Int) from by omega, show (i : Int) + 1 = ((i + 1 : Nat) : Int) from by omega]
    exact ih k (i + 1) (by omega) (by omega)
theorem mark_int (l : List Int) (m : Int) (k : Nat) (hk : l.length < k) (hl : l.length ≤ 1048576) (h0 : 0 ≤ m) (h1 : m ≤ 1099511627776) : laws_markIntS.f k l m = some (m + l.length, seqI m l.length) := by
  unfold laws_markIntS.f
  have := mark_loop l m hl h0 h1 l.length k 0 (by omega) hk
  simpa [seqI] using this
theorem held_loop (n : Nat) (m : Int) (hl : n ≤ 1048576) (h0 : 0 ≤ m) (h1 : m ≤ 1099511627776) (d : Nat) : ∀ (k i : Nat), i + d = n → d < k →
    laws_heldIntS.l0 k (seqI m n) (m + i) (i : Int) = some (m + n) := by
  induction d with
  | zero =>
    intro k i hi hk
    obtain ⟨k, rfl⟩ : ∃ m, k = m + 1 := ⟨k - 1, by omega⟩
    have hi' : i = n := by omega
    subst hi'
    simp only [laws_heldIntS.l0]
    rw [if_neg (by simp [seqI_length])]
  | succ d ih =>
    intro k i hi hk
    obtain ⟨k, rfl⟩ : ∃ m, k = m + 1 := ⟨k - 1, by omega⟩
    have hlt : i < n := by omega
    simp only [laws_heldIntS.l0]
    rw [if_pos (by simp [seqI_length]; omega), if_pos (by omega), if_pos (seqI_at m n i hlt), wrap_id (by omega) (by omega), wrap_id (by omega) (by omega),
      show m + (i : Int) + 1 = m + ((i + 1 : Nat) : Int) from by omega, show (i : Int) + 1 = ((i + 1 : Nat) : Int) from by omega]
    exact ih k (i + 1) (by omega) (by omega)
theorem held_int (n : Nat) (m : Int) (k : Nat) (hk : n < k) (hl : n ≤ 1048576) (h0 : 0 ≤ m) (h1 : m ≤ 1099511627776) : laws_heldIntS.f k (seqI m n) m = some (m + n) := by
  unfold laws_heldIntS.f
  have := held_loop n m hl h0 h1 n k 0 (by omega) hk
  simpa using this

theorem mark_frm (C D : List Int) (K m : Int) (k : Nat) (hc : C.length < k) (hd : D.length < k) (hc2 : C.length ≤ 1048576) (hd2 : D.length ≤ 1048576) (h0 : 0 ≤ m) (h1 : m ≤ 4194304) :
    laws_markFrmForm.f k C D K m = some (m + C.length + D.length, seqI m C.length, seqI (m + C.length) D.length) := by
  unfold laws_markFrmForm.f
  rw [mark_int C m k hc hc2 h0 (by omega)]; simp only [Option.bind_some, if_true, bne_self_eq_false, Bool.false_eq_true, if_false]
  rw [mark_int D _ k hd hd2 (by omega) (by omega)]; simp only [Option.bind_some, if_true, bne_self_eq_false, Bool.false_eq_true, if_false]

theorem held_frm (c d : Nat) (K m : Int) (k : Nat) (hc : c < k) (hd : d < k) (hc2 : c ≤ 1048576) (hd2 : d ≤ 1048576) (h0 : 0 ≤ m) (h1 : m ≤ 1048576) :
    laws_heldFrmForm.f k (seqI m c) (seqI (m + c) d) K m = some (m + c + d) := by
  unfold laws_heldFrmForm.f
  rw [held_int c m k hc hc2 h0 (by omega)]; simp only [Option.bind_some, if_true, bne_self_eq_false, Bool.false_eq_true, if_false]
  rw [if_neg (by omega), held_int d _ k hd hd2 (by omega) (by omega)]; simp only [Option.bind_some, if_true, bne_self_eq_false, Bool.false_eq_true, if_false]
  rw [if_neg (by omega)]

theorem l1In_eq (n lo hi : Int) : spec_l1In.f n lo hi = some (ibB n lo hi) := by
  unfold spec_l1In.f ibB
  by_cases h : n ≥ lo
  · rw [if_pos h]; simp [h]
  · rw [if_neg h]; simp [h]

theorem in_eq (n lo hi : Int) : impl_in.f n lo hi = some (ibB n lo hi) := by
  unfold impl_in.f ibB
  by_cases h : n ≥ lo
  · rw [if_pos h]; simp [h]
  · rw [if_neg h]; simp [h]

theorem within_eq (l : List Int) (n m : Int) : impl_within.f l n m = some (okB l n m) := by
  unfold impl_within.f okB
  rw [List.all_eq_not_any_not]
  rfl

theorem all_loop (l : List Int) (m : Int) (hl : l.length ≤ 1048576) (d : Nat) : ∀ (k i : Nat), i + d = l.length → d < k → spec_l1All.l0 k l m (i : Int) = some ((l.drop i).all fun x => ibB x (wrap64 (-m)) m) := by
  induction d with
  | zero =>
    intro k i hi hk
    obtain ⟨k, rfl⟩ : ∃ m, k = m + 1 := ⟨k - 1, by omega⟩
    simp only [spec_l1All.l0]
    rw [if_neg (by omega), List.drop_of_length_le (by omega)]
    rfl
  | succ d ih =>
    intro k i hi hk
    obtain ⟨k, rfl⟩ : ∃ m, k = m + 1 := ⟨k - 1, by omega⟩
    have hlt : i < l.length := by omega
    simp only [spec_l1All.l0]
    rw [if_pos (by omega), if_pos (by omega), l1In_eq, getD_at l i hlt, List.drop_eq_getElem_cons hlt, List.all_cons]
    simp only [Option.bind_some, if_true, bne_self_eq_false, Bool.false_eq_true, if_false]
    cases ibB l[i] (wrap64 (-m)) m with
    | false => rfl
    | true =>
      rw [if_pos rfl, wrap_id (by omega) (by omega), show (i : Int) + 1 = ((i + 1 : Nat) : Int) from by omega, ih k (i + 1) (by omega) (by omega)]
      rfl
theorem l1All_eq (l : List Int) (n m : Int) (k : Nat) (hk : l.length < k) (hl : l.length ≤ 1048576) : spec_l1All.f k l n m = some (okB l n m) := by
  unfold spec_l1All.f okB
  by_cases h : (l.length : Int) = n
  · rw [if_pos h, decide_eq_true h, Bool.true_and]
    have := all_loop l m hl l.length k 0 (by omega) hk
    simpa using this
  · rw [if_neg h, decide_eq_false h, Bool.false_and]

def frmB (C D : List Int) (K : Int) : Bool := okB C 3 10000000 && (okB D 2 10000000 && ibB K (-10000000) 10000000)

theorem spec_Frm_eq (C D : List Int) (K : Int) (k : Nat) (hc : C.length < k) (hd : D.length < k) (hc2 : C.length ≤ 1048576) (hd2 : D.length ≤ 1048576) : spec_FrmOk.f k C D K = some (frmB C D K) := by
  unfold spec_FrmOk.f frmB
  rw [l1All_eq C _ _ k hc hc2]; simp only [Option.bind_some, if_true, bne_self_eq_false, Bool.false_eq_true, if_false]
  cases okB C 3 10000000 with
  | false => rfl
  | true =>
    rw [if_pos rfl, l1All_eq D _ _ k hd hd2]; simp only [Option.bind_some, if_true, bne_self_eq_false, Bool.false_eq_true, if_false]
    cases okB D 2 10000000 with
    | false => rfl
    | true => rw [if_pos rfl, l1In_eq]; rfl

theorem impl_Frm_eq (C D : List Int) (K : Int) : impl_FrmOk.f C D K = some (frmB C D K) := by
  unfold impl_FrmOk.f frmB
  rw [within_eq]; simp only [Option.bind_some, if_true, bne_self_eq_false, Bool.false_eq_true, if_false]
  cases okB C 3 10000000 with
  | false => rfl
  | true =>
    rw [if_pos rfl, within_eq]; simp only [Option.bind_some, if_true, bne_self_eq_false, Bool.false_eq_true, if_false]
    cases okB D 2 10000000 with
    | false => rfl
    | true => rw [if_pos rfl, in_eq]; rfl

theorem spec_Zero_eq : spec_FrmZero.f = some ([0, 0, 0], [0, 0], 0) := rfl

theorem len3 {l : List Int} (h : (l.length : Int) = 3) : ∃ a b c, l = [a, b, c] := by
  match l, h with
  | [a, b, c], _ => exact ⟨a, b, c, rfl⟩
  | [], h => simp at h
  | [_], h => simp at h
  | [_, _], h => simp at h
  | _ :: _ :: _ :: _ :: _, h => simp at h; omega
theorem len2 {l : List Int} (h : (l.length : Int) = 2) : ∃ a b, l = [a, b] := by
  match l, h with
  | [a, b], _ => exact ⟨a, b, rfl⟩
  | [], h => simp at h
  | [_], h => simp at h
  | _ :: _ :: _ :: _, h => simp at h; omega
theorem okB_len {l : List Int} {n m : Int} (h : okB l n m = true) : (l.length : Int) = n := (okB_iff.mp h).1
theorem frmB_len {C D : List Int} {K : Int} (h : frmB C D K = true) : (C.length : Int) = 3 ∧ (D.length : Int) = 2 := by
  unfold frmB at h
  simp only [Bool.and_eq_true] at h
  exact ⟨okB_len h.1, okB_len h.2.1⟩

theorem l1Sum_eq (a0 a1 a2 e0 e1 K c0 c1 c2 d0 d1 gK n : Int) (k : Nat) : spec_l1Sum.f (k + 7) [a0, a1, a2] [e0, e1] K [c0, c1, c2] [d0, d1] gK n =
    some ([wrap64 (a0 + wrap64 (n * c0)), wrap64 (a1 + wrap64 (n * c1)), wrap64 (a2 + wrap64 (n * c2))], [wrap64 (e0 + wrap64 (n * d0)), wrap64 (e1 + wrap64 (n * d1))], wrap64 (K + wrap64 (n * gK))) := by
  have w1 : wrap64 (0 + 1) = 1 := by unfold wrap64; omega
  have w2 : wrap64 (1 + 1) = 2 := by unfold wrap64; omega
  have w3 : wrap64 (2 + 1) = 3 := by unfold wrap64; omega
  unfold spec_l1Sum.f
  rw [spec_Zero_eq]
  simp only [Option.bind_some, spec_l1Sum.l0, spec_l1Sum.l1, w1, w2, w3]
  simp [rd]

theorem addL3 (x0 x1 x2 c0 c1 c2 t : Int) : addL 5 [x0, x1, x2] [c0, c1, c2] t 0 = some [wrap64 (x0 + wrap64 (t * c0)), wrap64 (x1 + wrap64 (t * c1)), wrap64 (x2 + wrap64 (t * c2))] := by
  have w1 : wrap64 (0 + 1) = 1 := by unfold wrap64; omega
  have w2 : wrap64 (1 + 1) = 2 := by unfold wrap64; omega
  have w3 : wrap64 (2 + 1) = 3 := by unfold wrap64; omega
  simp only [addL, w1, w2, w3]
  simp [rd]
theorem addL2 (x0 x1 c0 c1 t : Int) : addL 5 [x0, x1] [c0, c1] t 0 = some [wrap64 (x0 + wrap64 (t * c0)), wrap64 (x1 + wrap64 (t * c1))] := by
  have w1 : wrap64 (0 + 1) = 1 := by unfold wrap64; omega
  have w2 : wrap64 (1 + 1) = 2 := by unfold wrap64; omega
  simp only [addL, w1, w2]
  simp [rd]

theorem frmB_bd {C D : List Int} {K : Int} (h : frmB C D K = true) : ∃ c0 c1 c2 d0 d1, C = [c0, c1, c2] ∧ D = [d0, d1] ∧ (-10000000 ≤ c0 ∧ c0 ≤ 10000000) ∧ (-10000000 ≤ c1 ∧ c1 ≤ 10000000) ∧ (-10000000 ≤ c2 ∧ c2 ≤ 10000000) ∧ (-10000000 ≤ d0 ∧ d0 ≤ 10000000) ∧ (-10000000 ≤ d1 ∧ d1 ≤ 10000000) ∧ (-10000000 ≤ K ∧ K ≤ 10000000) := by
  unfold frmB at h
  simp only [Bool.and_eq_true] at h
  obtain ⟨h1, h2, h3⟩ := h
  obtain ⟨a1, a2⟩ := okB_iff.mp h1
  obtain ⟨b1, b2⟩ := okB_iff.mp h2
  have hK := ibB_iff.mp h3
  rw [show wrap64 (-10000000) = -10000000 from wrap_id (by decide) (by decide)] at a2 b2
  obtain ⟨c0, c1, c2, rfl⟩ := len3 a1
  obtain ⟨d0, d1, rfl⟩ := len2 b1
  exact ⟨c0, c1, c2, d0, d1, rfl, rfl, a2 c0 (by simp), a2 c1 (by simp), a2 c2 (by simp), b2 d0 (by simp), b2 d1 (by simp), hK⟩
theorem sum2 {a b : Int} (ha : -10000000 ≤ a ∧ a ≤ 10000000) (hb : -10000000 ≤ b ∧ b ≤ 10000000) : wrap64 (wrap64 (0 + wrap64 (1 * a)) + wrap64 (1 * b)) = a + b := by
  rw [Int.one_mul, Int.one_mul, wrap_id (x := a) (by omega) (by omega), Int.zero_add, wrap_id (x := a) (by omega) (by omega), wrap_id (x := b) (by omega) (by omega), wrap_id (by omega) (by omega)]
theorem sum1 {a b : Int} (ha : -10000000 ≤ a ∧ a ≤ 10000000) (hb : -10000000 ≤ b ∧ b ≤ 10000000) : wrap64 (a + wrap64 (1 * b)) = a + b := by
  rw [Int.one_mul, wrap_id (x := b) (by omega) (by omega), wrap_id (by omega) (by omega)]
theorem sumK {a b : Int} (ha : -10000000 ≤ a ∧ a ≤ 10000000) (hb : -10000000 ≤ b ∧ b ≤ 10000000) : wrap64 (wrap64 (wrap64 a) + wrap64 b) = a + b := by
  rw [wrap_id (x := a) (by omega) (by omega), wrap_id (x := a) (by omega) (by omega), wrap_id (x := b) (by omega) (by omega), wrap_id (by omega) (by omega)]
/-- The sum of two forms, or nothing. -/
def addF (C D : List Int) (K : Int) (C' D' : List Int) (K' : Int) : List Int × List Int × Int :=
  if frmB C D K && frmB C' D' K' then
    (if frmB [rd C 0 + rd C' 0, rd C 1 + rd C' 1, rd C 2 + rd C' 2] [rd D 0 + rd D' 0, rd D 1 + rd D' 1] (K + K') then ([rd C 0 + rd C' 0, rd C 1 + rd C' 1, rd C 2 + rd C' 2], [rd D 0 + rd D' 0, rd D 1 + rd D' 1], K + K') else ([], [], 0))
  else ([], [], 0)
theorem addF_len (C D : List Int) (K : Int) (C' D' : List Int) (K' : Int) : (addF C D K C' D' K').1.length ≤ 3 ∧ (addF C D K C' D' K').2.1.length ≤ 2 := by
  unfold addF
  split
  · split <;> simp
  · simp
theorem addF_comm (C D : List Int) (K : Int) (C' D' : List Int) (K' : Int) : addF C' D' K' C D K = addF C D K C' D' K' := by
  unfold addF
  rw [Bool.and_comm (frmB C' D' K'), Int.add_comm (rd C' 0), Int.add_comm (rd C' 1), Int.add_comm (rd C' 2), Int.add_comm (rd D' 0), Int.add_comm (rd D' 1), Int.add_comm K']

theorem impl_Add_eq (C D : List Int) (K : Int) (C' D' : List Int) (K' : Int) : impl_FrmAdd.f C D K C' D' K' = some (addF C D K C' D' K') := by
  unfold impl_FrmAdd.f addF
  rw [impl_Frm_eq]; simp only [Option.bind_some]
  by_cases h : frmB C D K = true
  · rw [if_pos h, impl_Frm_eq, h, Bool.true_and]; simp only [Option.bind_some]
    by_cases h' : frmB C' D' K' = true
    · obtain ⟨c0, c1, c2, d0, d1, rfl, rfl, b0, b1, b2, b3, b4, b5⟩ := frmB_bd h
      obtain ⟨e0, e1, e2, g0, g1, rfl, rfl, a0, a1, a2, a3, a4, a5⟩ := frmB_bd h'
      rw [if_pos h', if_pos h', addL3, addL2]; simp only [Option.bind_some]
      rw [addL3, addL2]; simp only [Option.bind_some]
      rw [sum2 b0 a0, sum2 b1 a1, sum2 b2 a2, sum2 b3 a3, sum2 b4 a4, sumK b5 a5, impl_Frm_eq]; simp only [Option.bind_some]
      show _ = some (if frmB [c0 + e0, c1 + e1, c2 + e2] [d0 + g0, d1 + g1] (K + K') then ([c0 + e0, c1 + e1, c2 + e2], [d0 + g0, d1 + g1], K + K') else ([], [], 0))
      cases frmB [c0 + e0, c1 + e1, c2 + e2] [d0 + g0, d1 + g1] (K + K') <;> rfl
    · rw [if_neg h', if_neg h']
  · rw [if_neg h, Bool.eq_false_iff.mpr h]; rfl

theorem spec_Add_eq (C D : List Int) (K : Int) (C' D' : List Int) (K' : Int) (k : Nat) (hk : 20 < k) (hc : C.length < k) (hd : D.length < k) (hc' : C'.length < k) (hd' : D'.length < k) (hc2 : C.length ≤ 1048576) (hd2 : D.length ≤ 1048576) (hc2' : C'.length ≤ 1048576) (hd2' : D'.length ≤ 1048576) : spec_FrmAdd.f k C D K C' D' K' = some (addF C D K C' D' K') := by
  obtain ⟨q, rfl⟩ : ∃ q, k = q + 8 := ⟨k - 8, by omega⟩
  have no : spec_FrmAdd.j0 (q + 8) true C D K C' D' K' = some ([], [], 0) := by simp [spec_FrmAdd.j0]
  unfold spec_FrmAdd.f addF
  rw [spec_Frm_eq C D K _ hc hd hc2 hd2]; simp only [Option.bind_some]
  by_cases h : frmB C D K = true
  · rw [if_pos h, spec_Frm_eq C' D' K' _ hc' hd' hc2' hd2', h, Bool.true_and]; simp only [Option.bind_some]
    by_cases h' : frmB C' D' K' = true
    · obtain ⟨c0, c1, c2, d0, d1, rfl, rfl, b0, b1, b2, b3, b4, b5⟩ := frmB_bd h
      obtain ⟨e0, e1, e2, g0, g1, rfl, rfl, a0, a1, a2, a3, a4, a5⟩ := frmB_bd h'
      rw [if_pos h', h']
      simp only [spec_FrmAdd.j0, Bool.not_true, Bool.false_eq_true, if_false]
      rw [l1Sum_eq]; simp only [Option.bind_some]
      rw [sum1 b0 a0, sum1 b1 a1, sum1 b2 a2, sum1 b3 a3, sum1 b4 a4, sum1 b5 a5, spec_Frm_eq _ _ _ _ (by simp) (by simp) (by simp) (by simp)]; simp only [Option.bind_some]
      show _ = some (if frmB [c0 + e0, c1 + e1, c2 + e2] [d0 + g0, d1 + g1] (K + K') then ([c0 + e0, c1 + e1, c2 + e2], [d0 + g0, d1 + g1], K + K') else ([], [], 0))
      cases frmB [c0 + e0, c1 + e1, c2 + e2] [d0 + g0, d1 + g1] (K + K') <;> rfl
    · rw [if_neg h', Bool.eq_false_iff.mpr h']
      exact no
  · rw [if_neg h, Bool.eq_false_iff.mpr h]
    exact no

theorem FnExactFrmAdd : laws_FnExactFrmAdd.Pure := by
  intro C D K C' D' K' hC hD hK hC' hD' hK'
  obtain ⟨k, hk⟩ : ∃ k : Nat, 4000000 < k := ⟨4000001, by omega⟩
  refine ⟨k + 1, ?_⟩
  unfold laws_FnExactFrmAdd.f
  obtain ⟨t, e, h⟩ := sz_frm C D K 1048576 (by omega) (by omega) hC.1 hD.1
  rw [e]; simp only [Option.bind_some, if_true, bne_self_eq_false, Bool.false_eq_true, if_false]
  rcases h with h | ⟨h1, h2⟩
  · rw [if_pos h]
  rw [if_neg (by omega)]
  obtain ⟨u, e2, g⟩ := sz_frm C' D' K' t (by omega) (by omega) hC'.1 hD'.1
  rw [e2]; simp only [Option.bind_some, if_true, bne_self_eq_false, Bool.false_eq_true, if_false]
  rcases g with g | ⟨g1, g2⟩
  · rw [if_pos g]
  obtain ⟨hx, hy⟩ := addF_len C D K C' D' K'
  have hs := spec_Add_eq C D K C' D' K' (k + 1) (by omega) (by omega) (by omega) (by omega) (by omega) (by omega) (by omega) (by omega) (by omega)
  have hi := impl_Add_eq C D K C' D' K'
  generalize addF C D K C' D' K' = r at hx hy hs hi
  obtain ⟨X, Y, Z⟩ := r
  rw [if_neg (by omega), to_frm C D K _ (by omega) (by omega) (by omega) (by omega)]; simp only [Option.bind_some, if_true, bne_self_eq_false, Bool.false_eq_true, if_false]
  rw [to_frm C' D' K' _ (by omega) (by omega) (by omega) (by omega)]; simp only [Option.bind_some, if_true, bne_self_eq_false, Bool.false_eq_true, if_false]
  rw [hs]; simp only [Option.bind_some, if_true, bne_self_eq_false, Bool.false_eq_true, if_false]
  rw [hi]; simp only [Option.bind_some, if_true, bne_self_eq_false, Bool.false_eq_true, if_false]
  simp only at hx hy
  rw [eq_frm X Y Z _ (by omega) (by omega) (by omega) (by omega)]; simp only [Option.bind_some, if_true, bne_self_eq_false, Bool.false_eq_true, if_false]
  rw [eq_frm C D K _ (by omega) (by omega) (by omega) (by omega)]; simp only [Option.bind_some, if_true, bne_self_eq_false, Bool.false_eq_true, if_false]
  rw [eq_frm C' D' K' _ (by omega) (by omega) (by omega) (by omega)]; simp only [Option.bind_some, if_true, bne_self_eq_false, Bool.false_eq_true, if_false]
  rw [mark_frm C D K 1 _ (by omega) (by omega) (by omega) (by omega) (by omega) (by omega)]; simp only [Option.bind_some, if_true, bne_self_eq_false, Bool.false_eq_true, if_false]
  rw [mark_frm C' D' K' _ _ (by omega) (by omega) (by omega) (by omega) (by omega) (by omega)]; simp only [Option.bind_some, if_true, bne_self_eq_false, Bool.false_eq_true, if_false]
  rw [if_neg (by omega)]
  simp only [laws_FnExactFrmAdd.j0, Bool.not_true, Bool.false_eq_true, if_false]
  rw [mark_frm X Y Z 1 _ (by omega) (by omega) (by omega) (by omega) (by omega) (by omega)]; simp only [Option.bind_some, if_true, bne_self_eq_false, Bool.false_eq_true, if_false]
  rw [held_frm X.length Y.length Z 1 _ (by omega) (by omega) (by omega) (by omega) (by omega) (by omega)]; simp only [Option.bind_some, if_true, bne_self_eq_false, Bool.false_eq_true, if_false]
  simp only [show ¬ ((1 : Int) + (X.length : Int) + (Y.length : Int) < 0) from by omega, if_false]
  rw [to_frm C D K _ (by omega) (by omega) (by omega) (by omega)]; simp only [Option.bind_some, if_true, bne_self_eq_false, Bool.false_eq_true, if_false]
  rw [to_frm C' D' K' _ (by omega) (by omega) (by omega) (by omega)]; simp only [Option.bind_some, if_true, bne_self_eq_false, Bool.false_eq_true, if_false]
  rw [hi]; simp only [Option.bind_some, if_true, bne_self_eq_false, Bool.false_eq_true, if_false]
  rw [eq_frm X Y Z _ (by omega) (by omega) (by omega) (by omega)]; simp only [Option.bind_some, if_true, bne_self_eq_false, Bool.false_eq_true, if_false]

end Go.Proofs.Ytfbdjimcjoddgaa.Pure
