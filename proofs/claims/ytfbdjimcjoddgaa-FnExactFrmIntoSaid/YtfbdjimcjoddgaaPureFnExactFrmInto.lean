/- The plain law FnExactFrmInto: what the printed functions compute answers as the statement says. -/
import Derived.Test.YtfbdjimcjoddgaaQFnExactFrmIntox8
import Derived.OpenShut
set_option linter.unusedVariables false
set_option linter.unusedSimpArgs false
namespace Go.Proofs.Ytfbdjimcjoddgaa.Pure
open Go.RowKit Go.Proofs.Ytfbdjimcjoddgaa.QFnExactFrmInto Go.Proofs.YtfbdjimcjoddgaaW.PrintWords Go.Proofs.YtfbdjimcjoddgaaW.PrintLast Go.Proofs.Ytfbdjimcjoddgaa.HWords

theorem bd64 {x : Int} (h : (Lit.int .i64 x).wf = true) : -9223372036854775808 ≤ x ∧ x ≤ 9223372036854775807 := bounds_i64 h
theorem wrap_id {x : Int} (h0 : -9223372036854775808 ≤ x) (h1 : x ≤ 9223372036854775807) : wrap64 x = x := by unfold wrap64; omega
theorem wrap_l (x y : Int) : wrap64 (wrap64 x + y) = wrap64 (x + y) := by unfold wrap64; omega
theorem wrap_r (x y : Int) : wrap64 (x + wrap64 y) = wrap64 (x + y) := by unfold wrap64; omega
theorem wrap_ll (x y z : Int) : wrap64 (wrap64 x + y + z) = wrap64 (x + y + z) := by unfold wrap64; omega
theorem wrap_lr (x y z : Int) : wrap64 (x + wrap64 y + z) = wrap64 (x + y + z) := by unfold wrap64; omega
theorem getD_at (l : List Int) (i : Nat) (h : i < l.length) : rd l (i : Int) = l[i] := by
  unfold rd
  rw [show ((i : Int)).toNat = i from by omega, List.getD_eq_getElem?_getD, List.getElem?_eq_getElem h]
  rfl
/-- The plain 'within bounds'. -/
def ibB (n lo hi : Int) : Bool := decide (lo ≤ n) && decide (n ≤ hi)
/-- As many as must be, each within a bound. -/
def okB (l : List Int) (n m : Int) : Bool := decide ((l.length : Int) = n) && l.all (fun x => ibB x (wrap64 (-m)) m)
theorem ibB_iff {n lo hi : Int} : ibB n lo hi = true ↔ lo ≤ n ∧ n ≤ hi := by unfold ibB; simp
theorem okB_iff {l : List Int} {n m : Int} : okB l n m = true ↔ (l.length : Int) = n ∧ ∀ x ∈ l, wrap64 (-m) ≤ x ∧ x ≤ m := by
  unfold okB ibB; simp

theorem sz_int (l : List Int) (n : Int) (h0 : 0 ≤ n) (h1 : n ≤ 1048576) (hl : l.length ≤ 9223372036854775807) :
    ∃ t, laws_szIntS.f l n = some t ∧ (t < 0 ∨ (0 ≤ t ∧ t + l.length = n)) := by
  unfold laws_szIntS.f
  have e : wrap64 (n - (l.length : Int)) = n - (l.length : Int) := wrap_id (by omega) (by omega)
  rw [e]
  by_cases h : n - (l.length : Int) < 0
  · rw [if_pos h]; exact ⟨_, rfl, .inl (by decide)⟩
  · rw [if_neg h]; exact ⟨_, rfl, .inr ⟨by omega, by omega⟩⟩

theorem sz_frm (C D : List Int) (K : Int) (n : Int) (h0 : 0 ≤ n) (h1 : n ≤ 1048576) (hc : C.length ≤ 9223372036854775807) (hd : D.length ≤ 9223372036854775807) :
    ∃ t, laws_szFrmForm.f C D K n = some t ∧ (t < 0 ∨ (0 ≤ t ∧ t + C.length + D.length = n)) := by
  unfold laws_szFrmForm.f
  obtain ⟨t, e, h⟩ := sz_int C n h0 h1 hc
  rw [e]; simp only [Option.bind_some, if_true, bne_self_eq_false, Bool.false_eq_true, if_false]
  rcases h with h | ⟨ha, hb⟩
  · rw [if_pos h]; exact ⟨_, rfl, .inl (by decide)⟩
  · rw [if_neg (by omega)]
    obtain ⟨u, e2, h2⟩ := sz_int D t ha (by omega) hd
    rw [e2]; simp only [Option.bind_some, if_true, bne_self_eq_false, Bool.false_eq_true, if_false]
    rcases h2 with h2 | ⟨hc2, hd2⟩
    · rw [if_pos h2]; exact ⟨_, rfl, .inl (by decide)⟩
    · rw [if_neg (by omega)]; exact ⟨_, rfl, .inr ⟨by omega, by omega⟩⟩

theorem set_take (l : List Int) (i : Nat) (h : i < l.length) :
    (l.take i ++ List.replicate (l.length - i) (0 : Int)).set i l[i] = l.take (i + 1) ++ List.replicate (l.length - (i + 1)) 0 := by
  rw [List.set_append_right _ _ (by rw [List.length_take]; omega), List.length_take, Nat.min_eq_left (by omega), Nat.sub_self]
  obtain ⟨m, hm⟩ : ∃ m, l.length - i = m + 1 := ⟨l.length - i - 1, by omega⟩
  rw [hm, List.replicate_succ, List.set_cons_zero, show l.length - (i + 1) = m from by omega, List.take_succ_eq_append_getElem h, List.append_assoc]
  rfl
theorem to_loop (l : List Int) (hl : l.length ≤ 1048576) (d : Nat) : ∀ (k i : Nat), i + d = l.length → d < k →
    laws_toIntS.l0 k l (l.take i ++ List.replicate (l.length - i) 0) (i : Int) = some l := by
  induction d with
  | zero =>
    intro k i hi hk
    obtain ⟨k, rfl⟩ : ∃ m, k = m + 1 := ⟨k - 1, by omega⟩
    simp only [laws_toIntS.l0]
    rw [if_neg (by omega), show i = l.length from by omega]
    simp
  | succ d ih =>
    intro k i hi hk
    obtain ⟨k, rfl⟩ : ∃ m, k = m + 1 := ⟨k - 1, by omega⟩
    have hlt : i < l.length := by omega
    simp only [laws_toIntS.l0]
    have hlen : (l.take i ++ List.replicate (l.length - i) (0 : Int)).length = l.length := by simp; omega
    rw [if_pos (by omega), if_pos (by omega), if_pos (by rw [hlen]; omega), getD_at l i hlt, show ((i : Int)).toNat = i from by omega, set_take l i hlt,
      wrap_id (by omega) (by omega), show (i : Int) + 1 = ((i + 1 : Nat) : Int) from by omega]
    exact ih k (i + 1) (by omega) (by omega)
theorem to_int (l : List Int) (k : Nat) (hk : l.length < k) (hl : l.length ≤ 1048576) : laws_toIntS.f k l = some l := by
  unfold laws_toIntS.f
  rw [if_pos (by omega), if_pos (by omega), show ((l.length : Int)).toNat = l.length from by omega]
  have := to_loop l hl l.length k 0 (by omega) hk
  simpa using this

theorem to_frm (C D : List Int) (K : Int) (k : Nat) (hc : C.length < k) (hd : D.length < k) (hc2 : C.length ≤ 1048576) (hd2 : D.length ≤ 1048576) : laws_toFrmForm.f k C D K = some (C, D, K) := by
  unfold laws_toFrmForm.f
  rw [to_int C k hc hc2]; simp only [Option.bind_some, if_true, bne_self_eq_false, Bool.false_eq_true, if_false]
  rw [to_int D k hd hd2]; simp only [Option.bind_some, if_true, bne_self_eq_false, Bool.false_eq_true, if_false]

theorem eq_loop (l : List Int) (hl : l.length ≤ 1048576) (d : Nat) : ∀ (k i : Nat), i + d = l.length → d < k → laws_eqIntS.l0 k l l (i : Int) = some true := by
  induction d with
  | zero =>
    intro k i hi hk
    obtain ⟨k, rfl⟩ : ∃ m, k = m + 1 := ⟨k - 1, by omega⟩
    simp only [laws_eqIntS.l0]
    rw [if_neg (by omega)]
  | succ d ih =>
    intro k i hi hk
    obtain ⟨k, rfl⟩ : ∃ m, k = m + 1 := ⟨k - 1, by omega⟩
    simp only [laws_eqIntS.l0, if_true]
    rw [if_pos (by omega), if_pos (by omega), if_pos (by omega), wrap_id (by omega) (by omega), show (i : Int) + 1 = ((i + 1 : Nat) : Int) from by omega]
    exact ih k (i + 1) (by omega) (by omega)
theorem eq_int (l : List Int) (k : Nat) (hk : l.length < k) (hl : l.length ≤ 1048576) : laws_eqIntS.f k l l = some true := by
  unfold laws_eqIntS.f
  rw [if_pos rfl]
  exact eq_loop l hl l.length k 0 (by omega) hk

theorem eq_frm (C D : List Int) (K : Int) (k : Nat) (hc : C.length < k) (hd : D.length < k) (hc2 : C.length ≤ 1048576) (hd2 : D.length ≤ 1048576) : laws_eqFrmForm.f k C D K C D K = some true := by
  unfold laws_eqFrmForm.f
  rw [eq_int C k hc hc2]; simp only [Option.bind_some, if_true, bne_self_eq_false, Bool.false_eq_true, if_false]
  rw [eq_int D k hd hd2]; simp only [Option.bind_some, if_true, bne_self_eq_false, Bool.false_eq_true, if_false]

/-- The numbers from m on, so many. -/
def seqI (m : Int) (n : Nat) : List Int := (List.range n).map fun (i : Nat) => m + (i : Int)
theorem seqI_length (m : Int) (n : Nat) : (seqI m n).length = n := by simp [seqI]
theorem seqI_at (m : Int) (n i : Nat) (h : i < n) : rd (seqI m n) (i : Int) = m + i := by
  rw [getD_at _ _ (by rw [seqI_length]; exact h)]
  simp [seqI]
theorem seqI_set (l : List Int) (m : Int) (i : Nat) (h : i < l.length) : (seqI m i ++ l.drop i).set i (m + i) = seqI m (i + 1) ++ l.drop (i + 1) := by
  rw [List.set_append_right _ _ (by rw [seqI_length]; omega), seqI_length, Nat.sub_self, List.drop_eq_getElem_cons h, List.set_cons_zero]
  unfold seqI
  rw [List.range_succ]
  simp
theorem mark_loop (l : List Int) (m : Int) (hl : l.length ≤ 1048576) (h0 : 0 ≤ m) (h1 : m ≤ 1152921504606846976) (d : Nat) : ∀ (k i : Nat), i + d = l.length → d < k →
    laws_markIntS.l0 k (seqI m i ++ l.drop i) (m + i) (i : Int) = some (m + l.length, seqI m l.length) := by
  induction d with
  | zero =>
    intro k i hi hk
    obtain ⟨k, rfl⟩ : ∃ m, k = m + 1 := ⟨k - 1, by omega⟩
    have hi' : i = l.length := by omega
    subst hi'
    simp only [laws_markIntS.l0]
    rw [if_neg (by simp [seqI_length])]
    simp
  | succ d ih =>
    intro k i hi hk
    obtain ⟨k, rfl⟩ : ∃ m, k = m + 1 := ⟨k - 1, by omega⟩
    have hlt : i < l.length := by omega
    simp only [laws_markIntS.l0]
    rw [if_pos (by simp [seqI_length]; omega), if_pos (by omega), show ((i : Int)).toNat = i from by omega, seqI_set l m i hlt, wrap_id (by omega) (by omega), wrap_id (by omega) (by omega),
      show m + (i : Int) + 1 = m + ((i + 1 : Nat) : Int) from by omega, show (i : Int) + 1 = ((i + 1 : Nat) : Int) from by omega]
    exact ih k (i + 1) (by omega) (by omega)
theorem mark_int (l : List Int) (m : Int) (k : Nat) (hk : l.length < k) (hl : l.length ≤ 1048576) (h0 : 0 ≤ m) (h1 : m ≤ 1152921504606846976) : laws_markIntS.f k l m = some (m + l.length, seqI m l.length) := by
  unfold laws_markIntS.f
  have := mark_loop l m hl h0 h1 l.length k 0 (by omega) hk
  simpa [seqI] using this
theorem held_loop (n : Nat) (m : Int) (hl : n ≤ 1048576) (h0 : 0 ≤ m) (h1 : m ≤ 1099511627776) (d : Nat) : ∀ (k i : Nat), i + d = n → d < k →
    laws_heldIntS.l0 k (seqI m n) (m + i) (i : Int) = some (m + n) := by
  induction d with
  | zero =>
    intro k i hi hk
    obtain ⟨k, rfl⟩ : ∃ m, k = m + 1 := ⟨k - 1, by omega⟩
    have hi' : i = n := by omega
    subst hi'
    simp only [laws_heldIntS.l0]
    rw [if_neg (by simp [seqI_length])]
  | succ d ih =>
    intro k i hi hk
    obtain ⟨k, rfl⟩ : ∃ m, k = m + 1 := ⟨k - 1, by omega⟩
    have hlt : i < n := by omega
    simp only [laws_heldIntS.l0]
    rw [if_pos (by simp [seqI_length]; omega), if_pos (by omega), if_pos (seqI_at m n i hlt), wrap_id (by omega) (by omega), wrap_id (by omega) (by omega),
      show m + (i : Int) + 1 = m + ((i + 1 : Nat) : Int) from by omega, show (i : Int) + 1 = ((i + 1 : Nat) : Int) from by omega]
    exact ih k (i + 1) (by omega) (by omega)
theorem held_int (n : Nat) (m : Int) (k : Nat) (hk : n < k) (hl : n ≤ 1048576) (h0 : 0 ≤ m) (h1 : m ≤ 1099511627776) : laws_heldIntS.f k (seqI m n) m = some (m + n) := by
  unfold laws_heldIntS.f
  have := held_loop n m hl h0 h1 n k 0 (by omega) hk
  simpa using this

theorem mark_frm (C D : List Int) (K m : Int) (k : Nat) (hc : C.length < k) (hd : D.length < k) (hc2 : C.length ≤ 1048576) (hd2 : D.length ≤ 1048576) (h0 : 0 ≤ m) (h1 : m ≤ 4194304) :
    laws_markFrmForm.f k C D K m = some (m + C.length + D.length, seqI m C.length, seqI (m + C.length) D.length) := by
  unfold laws_markFrmForm.f
  rw [mark_int C m k hc hc2 h0 (by omega)]; simp only [Option.bind_some, if_true, bne_self_eq_false, Bool.false_eq_true, if_false]
  rw [mark_int D _ k hd hd2 (by omega) (by omega)]; simp only [Option.bind_some, if_true, bne_self_eq_false, Bool.false_eq_true, if_false]

theorem held_frm (c d : Nat) (K m : Int) (k : Nat) (hc : c < k) (hd : d < k) (hc2 : c ≤ 1048576) (hd2 : d ≤ 1048576) (h0 : 0 ≤ m) (h1 : m ≤ 1048576) :
    laws_heldFrmForm.f k (seqI m c) (seqI (m + c) d) K m = some (m + c + d) := by
  unfold laws_heldFrmForm.f
  rw [held_int c m k hc hc2 h0 (by omega)]; simp only [Option.bind_some, if_true, bne_self_eq_false, Bool.false_eq_true, if_false]
  rw [if_neg (by omega), held_int d _ k hd hd2 (by omega) (by omega)]; simp only [Option.bind_some, if_true, bne_self_eq_false, Bool.false_eq_true, if_false]
  rw [if_neg (by omega)]

theorem l1In_eq (n lo hi : Int) : spec_l1In.f n lo hi = some (ibB n lo hi) := by
  unfold spec_l1In.f ibB
  by_cases h : n ≥ lo
  · rw [if_pos h]; simp [h]
  · rw [if_neg h]; simp [h]

theorem in_eq (n lo hi : Int) : impl_in.f n lo hi = some (ibB n lo hi) := by
  unfold impl_in.f ibB
  by_cases h : n ≥ lo
  · rw [if_pos h]; simp [h]
  · rw [if_neg h]; simp [h]

theorem within_eq (l : List Int) (n m : Int) : impl_within.f l n m = some (okB l n m) := by
  unfold impl_within.f okB
  rw [List.all_eq_not_any_not]
  rfl

theorem all_loop (l : List Int) (m : Int) (hl : l.length ≤ 1048576) (d : Nat) : ∀ (k i : Nat), i + d = l.length → d < k → spec_l1All.l0 k l m (i : Int) = some ((l.drop i).all fun x => ibB x (wrap64 (-m)) m) := by
  induction d with
  | zero =>
    intro k i hi hk
    obtain ⟨k, rfl⟩ : ∃ m, k = m + 1 := ⟨k - 1, by omega⟩
    simp only [spec_l1All.l0]
    rw [if_neg (by omega), List.drop_of_length_le (by omega)]
    rfl
  | succ d ih =>
    intro k i hi hk
    obtain ⟨k, rfl⟩ : ∃ m, k = m + 1 := ⟨k - 1, by omega⟩
    have hlt : i < l.length := by omega
    simp only [spec_l1All.l0]
    rw [if_pos (by omega), if_pos (by omega), l1In_eq, getD_at l i hlt, List.drop_eq_getElem_cons hlt, List.all_cons]
    simp only [Option.bind_some, if_true, bne_self_eq_false, Bool.false_eq_true, if_false]
    cases ibB l[i] (wrap64 (-m)) m with
    | false => rfl
    | true =>
      rw [if_pos rfl, wrap_id (by omega) (by omega), show (i : Int) + 1 = ((i + 1 : Nat) : Int) from by omega, ih k (i + 1) (by omega) (by omega)]
      rfl
theorem l1All_eq (l : List Int) (n m : Int) (k : Nat) (hk : l.length < k) (hl : l.length ≤ 1048576) : spec_l1All.f k l n m = some (okB l n m) := by
  unfold spec_l1All.f okB
  by_cases h : (l.length : Int) = n
  · rw [if_pos h, decide_eq_true h, Bool.true_and]
    have := all_loop l m hl l.length k 0 (by omega) hk
    simpa using this
  · rw [if_neg h, decide_eq_false h, Bool.false_and]

def frmB (C D : List Int) (K : Int) : Bool := okB C 3 10000000 && (okB D 2 10000000 && ibB K (-10000000) 10000000)

theorem spec_Frm_eq (C D : List Int) (K : Int) (k : Nat) (hc : C.length < k) (hd : D.length < k) (hc2 : C.length ≤ 1048576) (hd2 : D.length ≤ 1048576) : spec_FrmOk.f k C D K = some (frmB C D K) := by
  unfold spec_FrmOk.f frmB
  rw [l1All_eq C _ _ k hc hc2]; simp only [Option.bind_some, if_true, bne_self_eq_false, Bool.false_eq_true, if_false]
  cases okB C 3 10000000 with
  | false => rfl
  | true =>
    rw [if_pos rfl, l1All_eq D _ _ k hd hd2]; simp only [Option.bind_some, if_true, bne_self_eq_false, Bool.false_eq_true, if_false]
    cases okB D 2 10000000 with
    | false => rfl
    | true => rw [if_pos rfl, l1In_eq]; rfl

theorem impl_Frm_eq (C D : List Int) (K : Int) : impl_FrmOk.f C D K = some (frmB C D K) := by
  unfold impl_FrmOk.f frmB
  rw [within_eq]; simp only [Option.bind_some, if_true, bne_self_eq_false, Bool.false_eq_true, if_false]
  cases okB C 3 10000000 with
  | false => rfl
  | true =>
    rw [if_pos rfl, within_eq]; simp only [Option.bind_some, if_true, bne_self_eq_false, Bool.false_eq_true, if_false]
    cases okB D 2 10000000 with
    | false => rfl
    | true => rw [if_pos rfl, in_eq]; rfl

theorem spec_Zero_eq : spec_FrmZero.f = some ([0, 0, 0], [0, 0], 0) := rfl

theorem len3 {l : List Int} (h : (l.length : Int) = 3) : ∃ a b c, l = [a, b, c] := by
  match l, h with
  | [a, b, c], _ => exact ⟨a, b, c, rfl⟩
  | [], h => simp at h
  | [_], h => simp at h
  | [_, _], h => simp at h
  | _ :: _ :: _ :: _ :: _, h => simp at h; omega
theorem len2 {l : List Int} (h : (l.length : Int) = 2) : ∃ a b, l = [a, b] := by
  match l, h with
  | [a, b], _ => exact ⟨a, b, rfl⟩
  | [], h => simp at h
  | [_], h => simp at h
  | _ :: _ :: _ :: _, h => simp at h; omega
theorem okB_len {l : List Int} {n m : Int} (h : okB l n m = true) : (l.length : Int) = n := (okB_iff.mp h).1
theorem frmB_len {C D : List Int} {K : Int} (h : frmB C D K = true) : (C.length : Int) = 3 ∧ (D.length : Int) = 2 := by
  unfold frmB at h
  simp only [Bool.and_eq_true] at h
  exact ⟨okB_len h.1, okB_len h.2.1⟩

theorem inB_ib (n lo hi : Int) : inB n lo hi = ibB n lo hi := rfl

theorem withinB_ok (l : List Int) (n m : Int) : withinB l n m = okB l n m := by
  unfold withinB okB
  rw [List.all_eq_not_any_not]
  rfl

theorem set_takeG {α : Type} (z : α) (l : List α) (i : Nat) (h : i < l.length) :
    (l.take i ++ List.replicate (l.length - i) z).set i l[i] = l.take (i + 1) ++ List.replicate (l.length - (i + 1)) z := by
  rw [List.set_append_right _ _ (by rw [List.length_take]; omega), List.length_take, Nat.min_eq_left (by omega), Nat.sub_self]
  obtain ⟨m, hm⟩ : ∃ m, l.length - i = m + 1 := ⟨l.length - i - 1, by omega⟩
  rw [hm, List.replicate_succ, List.set_cons_zero, show l.length - (i + 1) = m from by omega, List.take_succ_eq_append_getElem h, List.append_assoc]
  rfl
theorem getDG {α : Type} (z : α) (l : List α) (i : Nat) (h : i < l.length) : l.getD ((i : Int)).toNat z = l[i] := by
  rw [show ((i : Int)).toNat = i from by omega, List.getD_eq_getElem?_getD, List.getElem?_eq_getElem h]
  rfl

theorem l1Sum_eq (a0 a1 a2 e0 e1 K c0 c1 c2 d0 d1 gK n : Int) (k : Nat) : spec_l1Sum.f (k + 7) [a0, a1, a2] [e0, e1] K [c0, c1, c2] [d0, d1] gK n =
    some ([wrap64 (a0 + wrap64 (n * c0)), wrap64 (a1 + wrap64 (n * c1)), wrap64 (a2 + wrap64 (n * c2))], [wrap64 (e0 + wrap64 (n * d0)), wrap64 (e1 + wrap64 (n * d1))], wrap64 (K + wrap64 (n * gK))) := by
  have w1 : wrap64 (0 + 1) = 1 := by unfold wrap64; omega
  have w2 : wrap64 (1 + 1) = 2 := by unfold wrap64; omega
  have w3 : wrap64 (2 + 1) = 3 := by unfold wrap64; omega
  unfold spec_l1Sum.f
  rw [spec_Zero_eq]
  simp only [Option.bind_some, spec_l1Sum.l0, spec_l1Sum.l1, w1, w2, w3]
  simp [rd]

theorem addL3 (x0 x1 x2 c0 c1 c2 t : Int) : addL 5 [x0, x1, x2] [c0, c1, c2] t 0 = some [wrap64 (x0 + wrap64 (t * c0)), wrap64 (x1 + wrap64 (t * c1)), wrap64 (x2 + wrap64 (t * c2))] := by
  have w1 : wrap64 (0 + 1) = 1 := by unfold wrap64; omega
  have w2 : wrap64 (1 + 1) = 2 := by unfold wrap64; omega
  have w3 : wrap64 (2 + 1) = 3 := by unfold wrap64; omega
  simp only [addL, w1, w2, w3]
  simp [rd]
theorem addL2 (x0 x1 c0 c1 t : Int) : addL 5 [x0, x1] [c0, c1] t 0 = some [wrap64 (x0 + wrap64 (t * c0)), wrap64 (x1 + wrap64 (t * c1))] := by
  have w1 : wrap64 (0 + 1) = 1 := by unfold wrap64; omega
  have w2 : wrap64 (1 + 1) = 2 := by unfold wrap64; omega
  simp only [addL, w1, w2]
  simp [rd]

def cvFrm (x : S24) : S26 := ⟨x.f0, x.f1, x.f2⟩

theorem szsFrm_loop (l : List S24) (hl : l.length ≤ 1048576) (hw : ∀ x ∈ l, x.f0.length ≤ 9223372036854775807 ∧ x.f1.length ≤ 9223372036854775807) (d : Nat) : ∀ (k i : Nat) (n : Int), i + d = l.length → d < k → 0 ≤ n → n ≤ 1048576 →
    ∃ t, laws_szFrmFormS.l0 k l n (i : Int) = some t ∧ (t < 0 ∨ (0 ≤ t ∧ t ≤ n ∧ ∀ x ∈ l.drop i, (x.f0.length : Int) ≤ n ∧ (x.f1.length : Int) ≤ n)) := by
  induction d with
  | zero =>
    intro k i n hi hk h0 h1
    obtain ⟨k, rfl⟩ : ∃ m, k = m + 1 := ⟨k - 1, by omega⟩
    refine ⟨n, ?_, .inr ⟨h0, Int.le_refl _, ?_⟩⟩
    · simp only [laws_szFrmFormS.l0]; rw [if_neg (by omega)]
    · rw [List.drop_of_length_le (by omega)]; simp
  | succ d ih =>
    intro k i n hi hk h0 h1
    obtain ⟨k, rfl⟩ : ∃ m, k = m + 1 := ⟨k - 1, by omega⟩
    have hlt : i < l.length := by omega
    have hq := hw _ (List.getElem_mem hlt)
    simp only [laws_szFrmFormS.l0]
    rw [if_pos (by omega), if_pos (by omega), show rd_T24 l (i : Int) = l[i] from getDG z24 l i hlt]
    obtain ⟨t, e, h⟩ := sz_frm l[i].f0 l[i].f1 l[i].f2 n h0 h1 hq.1 hq.2
    rw [e]; simp only [Option.bind_some]
    rcases h with h | ⟨ha, hb⟩
    · rw [if_pos h]; exact ⟨_, rfl, .inl (by decide)⟩
    · rw [if_neg (by omega), show wrap64 ((i : Int) + 1) = ((i + 1 : Nat) : Int) from by rw [wrap_id (by omega) (by omega)]; omega]
      obtain ⟨u, e2, h2⟩ := ih k (i + 1) t (by omega) (by omega) ha (by omega)
      refine ⟨u, e2, ?_⟩
      rcases h2 with h2 | ⟨p, q, r⟩
      · exact .inl h2
      · refine .inr ⟨p, by omega, fun x hx => ?_⟩
        rw [List.drop_eq_getElem_cons hlt] at hx
        rcases List.mem_cons.mp hx with rfl | hx
        · omega
        · have := r x hx; omega
theorem sz_sFrm (l : List S24) (k : Nat) (n : Int) (h0 : 0 ≤ n) (h1 : n ≤ 1048576) (hk : 1048577 < k) (hl : l.length ≤ 9223372036854775807) (hw : ∀ x ∈ l, x.f0.length ≤ 9223372036854775807 ∧ x.f1.length ≤ 9223372036854775807) :
    ∃ t, laws_szFrmFormS.f k l n = some t ∧ (t < 0 ∨ (0 ≤ t ∧ t ≤ n ∧ (l.length : Int) ≤ n ∧ ∀ x ∈ l, (x.f0.length : Int) ≤ 1048576 ∧ (x.f1.length : Int) ≤ 1048576)) := by
  unfold laws_szFrmFormS.f
  have e : wrap64 (n - (l.length : Int)) = n - (l.length : Int) := wrap_id (by omega) (by omega)
  rw [e]
  by_cases h : n - (l.length : Int) < 0
  · rw [if_pos h]; exact ⟨_, rfl, .inl (by decide)⟩
  · rw [if_neg h]
    obtain ⟨u, e2, h2⟩ := szsFrm_loop l (by omega) hw l.length k 0 (n - (l.length : Int)) (by omega) (by omega) (by omega) (by omega)
    refine ⟨u, e2, ?_⟩
    rcases h2 with h2 | ⟨p, q, r⟩
    · exact .inl h2
    · exact .inr ⟨p, by omega, by omega, fun x hx => by have := r x (by simpa using hx); omega⟩

theorem tosFrm_loop (l : List S24) (hl : l.length ≤ 1048576) (hw : ∀ x ∈ l, (x.f0.length : Int) ≤ 1048576 ∧ (x.f1.length : Int) ≤ 1048576) (d : Nat) : ∀ (k i : Nat), i + d = l.length → d + 1048577 < k →
    laws_toFrmFormS.l0 k l ((l.map cvFrm).take i ++ List.replicate ((l.map cvFrm).length - i) z26) (i : Int) = some (l.map cvFrm) := by
  induction d with
  | zero =>
    intro k i hi hk
    obtain ⟨k, rfl⟩ : ∃ m, k = m + 1 := ⟨k - 1, by omega⟩
    simp only [laws_toFrmFormS.l0]
    rw [if_neg (by omega), List.take_of_length_le (by rw [List.length_map]; omega), show (l.map cvFrm).length - i = 0 from by rw [List.length_map]; omega]
    simp
  | succ d ih =>
    intro k i hi hk
    obtain ⟨k, rfl⟩ : ∃ m, k = m + 1 := ⟨k - 1, by omega⟩
    have hlt : i < l.length := by omega
    have hlm : i < (l.map cvFrm).length := by rw [List.length_map]; exact hlt
    simp only [laws_toFrmFormS.l0]
    have hlen : ((l.map cvFrm).take i ++ List.replicate ((l.map cvFrm).length - i) z26).length = l.length := by simp; omega
    have hx := hw _ (List.getElem_mem hlt)
    rw [if_pos (by omega), if_pos (by omega), show rd_T24 l (i : Int) = l[i] from getDG z24 l i hlt, to_frm l[i].f0 l[i].f1 l[i].f2 k (by omega) (by omega) (by omega) (by omega)]
    simp only [Option.bind_some]
    have e := set_takeG z26 (l.map cvFrm) i hlm
    rw [List.getElem_map] at e
    rw [if_pos (by rw [hlen]; omega), show ((i : Int)).toNat = i from by omega, show wrap64 ((i : Int) + 1) = ((i + 1 : Nat) : Int) from by rw [wrap_id (by omega) (by omega)]; omega]
    refine Eq.trans ?_ (ih k (i + 1) (by omega) (by omega))
    rw [← e]; rfl
theorem to_sFrm (l : List S24) (k : Nat) (hk : 2097154 < k) (hl : (l.length : Int) ≤ 1048576) (hw : ∀ x ∈ l, (x.f0.length : Int) ≤ 1048576 ∧ (x.f1.length : Int) ≤ 1048576) : laws_toFrmFormS.f k l = some (l.map cvFrm) := by
  unfold laws_toFrmFormS.f
  rw [if_pos (by omega), if_pos (by omega), show ((l.length : Int)).toNat = l.length from by omega]
  have := tosFrm_loop l (by omega) hw l.length k 0 (by omega) (by omega)
  simpa using this
theorem cvsFrm (l : List S24) (hw : ∀ x ∈ l, (x.f0.length : Int) ≤ 1048576 ∧ (x.f1.length : Int) ≤ 1048576) : ∀ x ∈ l.map cvFrm, (x.f0.length : Int) ≤ 1048576 ∧ (x.f1.length : Int) ≤ 1048576 := by
  intro x hx
  obtain ⟨y, hy, rfl⟩ := List.mem_map.mp hx
  exact hw y hy

theorem eqsFrm_loop (l : List S26) (hl : l.length ≤ 1048576) (hw : ∀ x ∈ l, (x.f0.length : Int) ≤ 1048576 ∧ (x.f1.length : Int) ≤ 1048576) (d : Nat) : ∀ (k i : Nat), i + d = l.length → d + 1048577 < k → laws_eqFrmFormS.l0 k l l (i : Int) = some true := by
  induction d with
  | zero =>
    intro k i hi hk
    obtain ⟨k, rfl⟩ : ∃ m, k = m + 1 := ⟨k - 1, by omega⟩
    simp only [laws_eqFrmFormS.l0]
    rw [if_neg (by omega)]
  | succ d ih =>
    intro k i hi hk
    obtain ⟨k, rfl⟩ : ∃ m, k = m + 1 := ⟨k - 1, by omega⟩
    have hlt : i < l.length := by omega
    have hx := hw _ (List.getElem_mem hlt)
    simp only [laws_eqFrmFormS.l0]
    rw [if_pos (by omega), if_pos (by omega), if_pos (by omega), show rd_T26 l (i : Int) = l[i] from getDG z26 l i hlt, eq_frm l[i].f0 l[i].f1 l[i].f2 k (by omega) (by omega) (by omega) (by omega)]
    simp only [Option.bind_some, if_true, bne_self_eq_false, Bool.false_eq_true, if_false]
    rw [show wrap64 ((i : Int) + 1) = ((i + 1 : Nat) : Int) from by rw [wrap_id (by omega) (by omega)]; omega]
    exact ih k (i + 1) (by omega) (by omega)
theorem eq_sFrm (l : List S26) (k : Nat) (hk : 2097154 < k) (hl : (l.length : Int) ≤ 1048576) (hw : ∀ x ∈ l, (x.f0.length : Int) ≤ 1048576 ∧ (x.f1.length : Int) ≤ 1048576) : laws_eqFrmFormS.f k l l = some true := by
  unfold laws_eqFrmFormS.f
  rw [if_pos rfl]
  exact eqsFrm_loop l (by omega) hw l.length k 0 (by omega) (by omega)

/-- Forms of a size that the laws let in. -/
def szdL (l : List S24) : Prop := (l.length : Int) ≤ 1048576 ∧ ∀ x ∈ l, (x.f0.length : Int) ≤ 1048576 ∧ (x.f1.length : Int) ≤ 1048576
def szdI (l : List S26) : Prop := (l.length : Int) ≤ 1048576 ∧ ∀ x ∈ l, (x.f0.length : Int) ≤ 1048576 ∧ (x.f1.length : Int) ≤ 1048576
theorem cv_szd {l : List S24} (h : szdL l) : szdI (l.map cvFrm) := ⟨by rw [List.length_map]; exact h.1, cvsFrm l h.2⟩
def bigL (l : List S24) : Prop := l.length ≤ 9223372036854775807 ∧ ∀ x ∈ l, x.f0.length ≤ 9223372036854775807 ∧ x.f1.length ≤ 9223372036854775807

/-- All forms ok. -/
def allF (l : List S26) : Bool := l.all fun x => frmB x.f0 x.f1 x.f2
/-- What 'RowOk' answers. -/
def rowV (g a t : List S26) (s : Bool) : Bool := (allF g && (allF a && allF t)) && (if s = true then ((a.length : Int) == 0) && ((t.length : Int) == 0) else ((a.length : Int) == 3))

theorem frmB_bd {C D : List Int} {K : Int} (h : frmB C D K = true) : ∃ c0 c1 c2 d0 d1, C = [c0, c1, c2] ∧ D = [d0, d1] ∧ (-10000000 ≤ c0 ∧ c0 ≤ 10000000) ∧ (-10000000 ≤ c1 ∧ c1 ≤ 10000000) ∧ (-10000000 ≤ c2 ∧ c2 ≤ 10000000) ∧ (-10000000 ≤ d0 ∧ d0 ≤ 10000000) ∧ (-10000000 ≤ d1 ∧ d1 ≤ 10000000) ∧ (-10000000 ≤ K ∧ K ≤ 10000000) := by
  unfold frmB at h
  simp only [Bool.and_eq_true] at h
  obtain ⟨h1, h2, h3⟩ := h
  obtain ⟨a1, a2⟩ := okB_iff.mp h1
  obtain ⟨b1, b2⟩ := okB_iff.mp h2
  have hK := ibB_iff.mp h3
  rw [show wrap64 (-10000000) = -10000000 from wrap_id (by decide) (by decide)] at a2 b2
  obtain ⟨c0, c1, c2, rfl⟩ := len3 a1
  obtain ⟨d0, d1, rfl⟩ := len2 b1
  exact ⟨c0, c1, c2, d0, d1, rfl, rfl, a2 c0 (by simp), a2 c1 (by simp), a2 c2 (by simp), b2 d0 (by simp), b2 d1 (by simp), hK⟩
theorem sum2 {a b : Int} (ha : -10000000 ≤ a ∧ a ≤ 10000000) (hb : -10000000 ≤ b ∧ b ≤ 10000000) : wrap64 (wrap64 (0 + wrap64 (1 * a)) + wrap64 (1 * b)) = a + b := by
  rw [Int.one_mul, Int.one_mul, wrap_id (x := a) (by omega) (by omega), Int.zero_add, wrap_id (x := a) (by omega) (by omega), wrap_id (x := b) (by omega) (by omega), wrap_id (by omega) (by omega)]
theorem sum1 {a b : Int} (ha : -10000000 ≤ a ∧ a ≤ 10000000) (hb : -10000000 ≤ b ∧ b ≤ 10000000) : wrap64 (a + wrap64 (1 * b)) = a + b := by
  rw [Int.one_mul, wrap_id (x := b) (by omega) (by omega), wrap_id (by omega) (by omega)]
theorem sumK {a b : Int} (ha : -10000000 ≤ a ∧ a ≤ 10000000) (hb : -10000000 ≤ b ∧ b ≤ 10000000) : wrap64 (wrap64 (wrap64 a) + wrap64 b) = a + b := by
  rw [wrap_id (x := a) (by omega) (by omega), wrap_id (x := a) (by omega) (by omega), wrap_id (x := b) (by omega) (by omega), wrap_id (by omega) (by omega)]
/-- The sum of two forms, or nothing. -/
def addF (C D : List Int) (K : Int) (C' D' : List Int) (K' : Int) : List Int × List Int × Int :=
  if frmB C D K && frmB C' D' K' then
    (if frmB [rd C 0 + rd C' 0, rd C 1 + rd C' 1, rd C 2 + rd C' 2] [rd D 0 + rd D' 0, rd D 1 + rd D' 1] (K + K') then ([rd C 0 + rd C' 0, rd C 1 + rd C' 1, rd C 2 + rd C' 2], [rd D 0 + rd D' 0, rd D 1 + rd D' 1], K + K') else ([], [], 0))
  else ([], [], 0)
theorem addF_len (C D : List Int) (K : Int) (C' D' : List Int) (K' : Int) : (addF C D K C' D' K').1.length ≤ 3 ∧ (addF C D K C' D' K').2.1.length ≤ 2 := by
  unfold addF
  split
  · split <;> simp
  · simp
theorem addF_comm (C D : List Int) (K : Int) (C' D' : List Int) (K' : Int) : addF C' D' K' C D K = addF C D K C' D' K' := by
  unfold addF
  rw [Bool.and_comm (frmB C' D' K'), Int.add_comm (rd C' 0), Int.add_comm (rd C' 1), Int.add_comm (rd C' 2), Int.add_comm (rd D' 0), Int.add_comm (rd D' 1), Int.add_comm K']

theorem totF_bd : ∀ (l : List S26), (∀ x ∈ l, (x.f0.length : Int) ≤ 1048576 ∧ (x.f1.length : Int) ≤ 1048576) → totF l ≤ (l.length : Int) * 2097153
  | [], _ => by simp [totF]
  | x :: l, h => by
    have h1 := h x (by simp)
    have h2 := totF_bd l (fun y hy => h y (by simp [hy]))
    simp only [totF, List.length_cons]
    omega
theorem totF_szd {l : List S26} (h : szdI l) : 0 ≤ totF l ∧ totF l ≤ 2199024304128 := by
  have h1 := totF_bd l h.2
  have h2 := h.1
  exact ⟨totF_nn l, by omega⟩

theorem okB_frmB (x : S26) : frmOkB x = frmB x.f0 x.f1 x.f2 := by
  unfold frmOkB frmB
  rw [withinB_ok, withinB_ok, inB_ib]
theorem any_allF (l : List S26) : (l.any fun x => !frmOkB x) = !allF l := by
  unfold allF
  rw [List.all_eq_not_any_not]
  simp only [okB_frmB, Bool.not_not]
theorem into_none (C D : List Int) (K : Int) (l : List S26) (h : (frmB C D K && (decide ((l.length : Int) = 3) && allF l)) = false) : impl_FrmInto.f C D K l = some ([], [], 0) := by
  unfold impl_FrmInto.f
  rw [impl_Frm_eq]; simp only [Option.bind_some]
  cases h1 : frmB C D K with
  | false => rfl
  | true =>
    rw [h1, Bool.true_and] at h
    rw [if_pos rfl]
    by_cases h2 : (l.length : Int) = 3
    · rw [decide_eq_true h2, Bool.true_and] at h
      rw [if_pos h2, any_allF, h]; rfl
    · rw [if_neg h2]
def w3s (d a b c : Int) : Int := wrap64 (wrap64 (wrap64 (d + wrap64 a) + wrap64 b) + wrap64 c)
def finF (X Y : List Int) (Z : Int) : List Int × List Int × Int := if frmB X Y Z = true then (X, Y, Z) else ([], [], 0)
theorem w3_y (d a b c : Int) : wrap64 (wrap64 (wrap64 (wrap64 (0 + wrap64 a) + wrap64 b) + wrap64 c) + wrap64 d) = w3s d a b c := by
  unfold w3s
  have e : ∀ x y : Int, x = y → wrap64 x = wrap64 y := fun x y h => by rw [h]
  simp only [wrap_l, wrap_r]
  apply e
  omega
theorem w3_x (d a b c : Int) : wrap64 (wrap64 (wrap64 (d + wrap64 a) + wrap64 b) + wrap64 c) = w3s d a b c := rfl
theorem finF_len (X Y : List Int) (Z : Int) (h1 : X.length ≤ 3) (h2 : Y.length ≤ 2) : (finF X Y Z).1.length ≤ 3 ∧ (finF X Y Z).2.1.length ≤ 2 := by
  unfold finF
  split
  · exact ⟨h1, h2⟩
  · simp
theorem spec_into (c0 c1 c2 d0 d1 K p0 p1 p2 p3 p4 p5 q0 q1 q2 q3 q4 q5 r0 r1 r2 r3 r4 r5 : Int) (x y z : S26) (hx0 : x.f0 = [p0, p1, p2]) (hx1 : x.f1 = [p3, p4]) (hx2 : x.f2 = p5) (hy0 : y.f0 = [q0, q1, q2]) (hy1 : y.f1 = [q3, q4]) (hy2 : y.f2 = q5) (hz0 : z.f0 = [r0, r1, r2]) (hz1 : z.f1 = [r3, r4]) (hz2 : z.f2 = r5) (hF : frmB [c0, c1, c2] [d0, d1] K = true) (hA : allF [x, y, z] = true) (k : Nat) (hk : 60 < k) : spec_FrmInto.f (k + 20) [c0, c1, c2] [d0, d1] K [x, y, z] = some (finF [w3s 0 (c0 * p0) (c1 * q0) (c2 * r0), w3s 0 (c0 * p1) (c1 * q1) (c2 * r1), w3s 0 (c0 * p2) (c1 * q2) (c2 * r2)] [w3s d0 (c0 * p3) (c1 * q3) (c2 * r3), w3s d1 (c0 * p4) (c1 * q4) (c2 * r4)] (w3s K (c0 * p5) (c1 * q5) (c2 * r5))) := by
  have u1 : wrap64 (0 + 1) = 1 := by unfold wrap64; omega
  have u2 : wrap64 (1 + 1) = 2 := by unfold wrap64; omega
  have u3 : wrap64 (2 + 1) = 3 := by unfold wrap64; omega
  have hp : frmB x.f0 x.f1 x.f2 = true := List.all_eq_true.mp hA x (by simp)
  have hq : frmB y.f0 y.f1 y.f2 = true := List.all_eq_true.mp hA y (by simp)
  have hr : frmB z.f0 z.f1 z.f2 = true := List.all_eq_true.mp hA z (by simp)
  have a0 : rd_T26 [x, y, z] 0 = x := rfl
  have a1 : rd_T26 [x, y, z] 1 = y := rfl
  have a2 : rd_T26 [x, y, z] 2 = z := rfl
  have s0 : spec_FrmOk.f (k + 20) x.f0 x.f1 x.f2 = some true := by rw [spec_Frm_eq _ _ _ _ (by rw [hx0]; simp) (by rw [hx1]; simp) (by rw [hx0]; simp) (by rw [hx1]; simp), hp]
  have s1 : spec_FrmOk.f (k + 20) y.f0 y.f1 y.f2 = some true := by rw [spec_Frm_eq _ _ _ _ (by rw [hy0]; simp) (by rw [hy1]; simp) (by rw [hy0]; simp) (by rw [hy1]; simp), hq]
  have s2 : spec_FrmOk.f (k + 20) z.f0 z.f1 z.f2 = some true := by rw [spec_Frm_eq _ _ _ _ (by rw [hz0]; simp) (by rw [hz1]; simp) (by rw [hz0]; simp) (by rw [hz1]; simp), hr]
  have l3 : (([x, y, z] : List S26).length : Int) = 3 := rfl
  have sF : spec_FrmOk.f (k + 20) [c0, c1, c2] [d0, d1] K = some true := by rw [spec_Frm_eq _ _ _ _ (by simp) (by simp) (by simp) (by simp), hF]
  have m0 : ∀ a b c e f g : Int, spec_l1Sum.f (k + 18) [a, b, c] [e, f] g x.f0 x.f1 x.f2 c0 = some ([wrap64 (a + wrap64 (c0 * p0)), wrap64 (b + wrap64 (c0 * p1)), wrap64 (c + wrap64 (c0 * p2))], [wrap64 (e + wrap64 (c0 * p3)), wrap64 (f + wrap64 (c0 * p4))], wrap64 (g + wrap64 (c0 * p5))) := fun a b c e f g => by rw [hx0, hx1, hx2]; exact l1Sum_eq a b c e f g p0 p1 p2 p3 p4 p5 c0 (k + 11)
  have m1 : ∀ a b c e f g : Int, spec_l1Sum.f (k + 17) [a, b, c] [e, f] g y.f0 y.f1 y.f2 c1 = some ([wrap64 (a + wrap64 (c1 * q0)), wrap64 (b + wrap64 (c1 * q1)), wrap64 (c + wrap64 (c1 * q2))], [wrap64 (e + wrap64 (c1 * q3)), wrap64 (f + wrap64 (c1 * q4))], wrap64 (g + wrap64 (c1 * q5))) := fun a b c e f g => by rw [hy0, hy1, hy2]; exact l1Sum_eq a b c e f g q0 q1 q2 q3 q4 q5 c1 (k + 10)
  have m2 : ∀ a b c e f g : Int, spec_l1Sum.f (k + 16) [a, b, c] [e, f] g z.f0 z.f1 z.f2 c2 = some ([wrap64 (a + wrap64 (c2 * r0)), wrap64 (b + wrap64 (c2 * r1)), wrap64 (c + wrap64 (c2 * r2))], [wrap64 (e + wrap64 (c2 * r3)), wrap64 (f + wrap64 (c2 * r4))], wrap64 (g + wrap64 (c2 * r5))) := fun a b c e f g => by rw [hz0, hz1, hz2]; exact l1Sum_eq a b c e f g r0 r1 r2 r3 r4 r5 c2 (k + 9)
  have f9 : ∀ X Y Z, X.length = 3 → Y.length = 2 → spec_FrmOk.f (k + 15) X Y Z = some (frmB X Y Z) := fun X Y Z h1 h2 => spec_Frm_eq X Y Z _ (by omega) (by omega) (by omega) (by omega)
  have lc : (([c0, c1, c2] : List Int).length : Int) = 3 := rfl
  have ld : (([] : List Int).length + ([d0, d1] : List Int).length < 17592186044416) := by simp
  have b0 : rd [c0, c1, c2] 0 = c0 := rfl
  have b1 : rd [c0, c1, c2] 1 = c1 := rfl
  have b2 : rd [c0, c1, c2] 2 = c2 := rfl
  generalize hl : ([x, y, z] : List S26) = l at a0 a1 a2 l3 ⊢
  clear hl
  generalize hC : ([c0, c1, c2] : List Int) = C at lc b0 b1 b2 sF hF ⊢
  clear hC
  unfold spec_FrmInto.f
  rw [sF, l3, a0, a1, a2, s0, s1, s2]
  simp only [Option.bind_some, if_true, show ((0 : Int) < 3) from by decide, show ((1 : Int) < 3) from by decide, show ((2 : Int) < 3) from by decide, spec_FrmInto.j0, Bool.not_true, Bool.false_eq_true, if_false, if_pos ld, List.nil_append, spec_FrmInto.l0, u1, u2, u3, l3, lc, a0, a1, a2, b0, b1, b2, m0, m1, m2, show ((0 : Int) ≤ 0) from by decide, show ((0 : Int) ≤ 1) from by decide, show ((0 : Int) ≤ 2) from by decide, show ¬ ((3 : Int) < 3) from by decide]
  rw [f9 _ _ _ rfl rfl]
  simp only [Option.bind_some]
  unfold finF w3s
  split <;> rfl
theorem impl_into (c0 c1 c2 d0 d1 K p0 p1 p2 p3 p4 p5 q0 q1 q2 q3 q4 q5 r0 r1 r2 r3 r4 r5 : Int) (x y z : S26) (hx0 : x.f0 = [p0, p1, p2]) (hx1 : x.f1 = [p3, p4]) (hx2 : x.f2 = p5) (hy0 : y.f0 = [q0, q1, q2]) (hy1 : y.f1 = [q3, q4]) (hy2 : y.f2 = q5) (hz0 : z.f0 = [r0, r1, r2]) (hz1 : z.f1 = [r3, r4]) (hz2 : z.f2 = r5) (hF : frmB [c0, c1, c2] [d0, d1] K = true) (hA : allF [x, y, z] = true) : impl_FrmInto.f [c0, c1, c2] [d0, d1] K [x, y, z] = some (finF [w3s 0 (c0 * p0) (c1 * q0) (c2 * r0), w3s 0 (c0 * p1) (c1 * q1) (c2 * r1), w3s 0 (c0 * p2) (c1 * q2) (c2 * r2)] [w3s d0 (c0 * p3) (c1 * q3) (c2 * r3), w3s d1 (c0 * p4) (c1 * q4) (c2 * r4)] (w3s K (c0 * p5) (c1 * q5) (c2 * r5))) := by
  have b0 : rd [c0, c1, c2] 0 = c0 := rfl
  have b1 : rd [c0, c1, c2] (0 + 1) = c1 := rfl
  have b2 : rd [c0, c1, c2] (0 + 1 + 1) = c2 := rfl
  have lc : (([c0, c1, c2] : List Int).length : Int) = 3 := rfl
  have l3 : (([x, y, z] : List S26).length : Int) = 3 := rfl
  unfold impl_FrmInto.f
  rw [impl_Frm_eq, hF, any_allF, hA, l3]
  simp only [Option.bind_some, if_true, Bool.not_true, Bool.false_eq_true, if_false, intoL]
  rw [lc, if_pos (by decide), b0, hx0, hx1, addL3, addL2]; simp only [Option.bind_some]
  rw [if_pos (by decide), b1, hy0, hy1, addL3, addL2]; simp only [Option.bind_some]
  rw [if_pos (by decide), b2, hz0, hz1, addL3, addL2]; simp only [Option.bind_some]
  rw [addL2]; simp only [Option.bind_some, hx2, hy2, hz2, Int.one_mul, w3_y]
  simp only [w3_x]
  rw [impl_Frm_eq]; simp only [Option.bind_some]
  unfold finF
  generalize frmB _ _ _ = b
  cases b <;> rfl
theorem into_some (c0 c1 c2 d0 d1 K p0 p1 p2 p3 p4 p5 q0 q1 q2 q3 q4 q5 r0 r1 r2 r3 r4 r5 : Int) (x y z : S26) (hx0 : x.f0 = [p0, p1, p2]) (hx1 : x.f1 = [p3, p4]) (hx2 : x.f2 = p5) (hy0 : y.f0 = [q0, q1, q2]) (hy1 : y.f1 = [q3, q4]) (hy2 : y.f2 = q5) (hz0 : z.f0 = [r0, r1, r2]) (hz1 : z.f1 = [r3, r4]) (hz2 : z.f2 = r5) (hF : frmB [c0, c1, c2] [d0, d1] K = true) (hA : allF [x, y, z] = true) (k : Nat) (hk : 100 < k) : ∃ X Y Z, spec_FrmInto.f k [c0, c1, c2] [d0, d1] K [x, y, z] = some (X, Y, Z) ∧ impl_FrmInto.f [c0, c1, c2] [d0, d1] K [x, y, z] = some (X, Y, Z) ∧ X.length ≤ 3 ∧ Y.length ≤ 2 := by
  obtain ⟨k, rfl⟩ : ∃ m, k = m + 20 := ⟨k - 20, by omega⟩
  obtain ⟨v, e1, e2, e3⟩ : ∃ v : List Int × List Int × Int, spec_FrmInto.f (k + 20) [c0, c1, c2] [d0, d1] K [x, y, z] = some v ∧ impl_FrmInto.f [c0, c1, c2] [d0, d1] K [x, y, z] = some v ∧ (v.1.length ≤ 3 ∧ v.2.1.length ≤ 2) := ⟨_, spec_into c0 c1 c2 d0 d1 K p0 p1 p2 p3 p4 p5 q0 q1 q2 q3 q4 q5 r0 r1 r2 r3 r4 r5 x y z hx0 hx1 hx2 hy0 hy1 hy2 hz0 hz1 hz2 hF hA k (by omega), impl_into c0 c1 c2 d0 d1 K p0 p1 p2 p3 p4 p5 q0 q1 q2 q3 q4 q5 r0 r1 r2 r3 r4 r5 x y z hx0 hx1 hx2 hy0 hy1 hy2 hz0 hz1 hz2 hF hA, finF_len _ _ _ (by simp) (by simp)⟩
  exact ⟨v.1, v.2.1, v.2.2, e1, e2, e3.1, e3.2⟩
theorem len3G {α : Type} {l : List α} (h : (l.length : Int) = 3) : ∃ a b c, l = [a, b, c] := by
  have h' : l.length = 3 := by omega
  match l, h' with
  | [a, b, c], _ => exact ⟨a, b, c, rfl⟩
theorem into_eq (C D : List Int) (K : Int) (l : List S26) (k : Nat) (hk : 2097200 < k) (hC : C.length ≤ 1048576) (hD : D.length ≤ 1048576) (hl : szdI l) : ∃ X Y Z, spec_FrmInto.f k C D K l = some (X, Y, Z) ∧ impl_FrmInto.f C D K l = some (X, Y, Z) ∧ X.length ≤ 3 ∧ Y.length ≤ 2 := by
  have no : spec_FrmInto.j0 k l true C D K = some ([], [], 0) := by
    obtain ⟨k, rfl⟩ : ∃ m, k = m + 1 := ⟨k - 1, by omega⟩
    simp [spec_FrmInto.j0]
  by_cases h : (frmB C D K && (decide ((l.length : Int) = 3) && allF l)) = true
  · simp only [Bool.and_eq_true, decide_eq_true_eq] at h
    obtain ⟨h1, h2, h3⟩ := h
    obtain ⟨c0, c1, c2, d0, d1, rfl, rfl, _⟩ := frmB_bd h1
    obtain ⟨⟨pa, pb, pc⟩, ⟨qa, qb, qc⟩, ⟨ra, rb, rc⟩, rfl⟩ := len3G h2
    obtain ⟨p0, p1, p2, p3, p4, e1, e2, _⟩ := frmB_bd (List.all_eq_true.mp h3 ⟨pa, pb, pc⟩ (by simp))
    obtain ⟨q0, q1, q2, q3, q4, e3, e4, _⟩ := frmB_bd (List.all_eq_true.mp h3 ⟨qa, qb, qc⟩ (by simp))
    obtain ⟨r0, r1, r2, r3, r4, e5, e6, _⟩ := frmB_bd (List.all_eq_true.mp h3 ⟨ra, rb, rc⟩ (by simp))
    simp only at e1 e2 e3 e4 e5 e6
    subst e1 e2 e3 e4 e5 e6
    exact into_some c0 c1 c2 d0 d1 K p0 p1 p2 p3 p4 pc q0 q1 q2 q3 q4 qc r0 r1 r2 r3 r4 rc _ _ _ rfl rfl rfl rfl rfl rfl rfl rfl rfl h1 h3 k (by omega)
  · have h' := Bool.eq_false_iff.mpr h
    refine ⟨[], [], 0, ?_, into_none C D K l h', by simp, by simp⟩
    unfold spec_FrmInto.f
    rw [spec_Frm_eq C D K _ (by omega) (by omega) hC hD]; simp only [Option.bind_some]
    cases h1 : frmB C D K with
    | false => rw [if_neg (by decide), no]
    | true =>
      rw [if_pos rfl]
      by_cases h2 : (l.length : Int) = 3
      · rw [if_pos h2]
        obtain ⟨p, q, r, rfl⟩ := len3G h2
        have s1 := hl.2 p (by simp)
        have s2 := hl.2 q (by simp)
        have s3 := hl.2 r (by simp)
        rw [h1] at h'
        have h4 : (frmB p.f0 p.f1 p.f2 && (frmB q.f0 q.f1 q.f2 && frmB r.f0 r.f1 r.f2)) = false := by simpa [allF] using h'
        rw [if_pos (by simp), show rd_T26 [p, q, r] 0 = p from rfl, show rd_T26 [p, q, r] 1 = q from rfl, show rd_T26 [p, q, r] 2 = r from rfl, spec_Frm_eq _ _ _ _ (by omega) (by omega) (by omega) (by omega)]; simp only [Option.bind_some]
        cases g1 : frmB p.f0 p.f1 p.f2 with
        | false => rw [if_neg (by decide), no]
        | true =>
          rw [g1, Bool.true_and] at h4
          rw [if_pos rfl, if_pos (by simp), spec_Frm_eq _ _ _ _ (by omega) (by omega) (by omega) (by omega)]; simp only [Option.bind_some]
          cases g2 : frmB q.f0 q.f1 q.f2 with
          | false => rw [if_neg (by decide), no]
          | true =>
            rw [g2, Bool.true_and] at h4
            rw [if_pos rfl, if_pos (by simp), spec_Frm_eq _ _ _ _ (by omega) (by omega) (by omega) (by omega), h4]; simp only [Option.bind_some]
            exact no
      · rw [if_neg h2, no]

theorem FnExactFrmInto : laws_FnExactFrmInto.Pure := by
  intro C D K l hC hD hK hl
  obtain ⟨k, hk⟩ : ∃ k : Nat, 6000000 < k := ⟨6000001, by omega⟩
  refine ⟨k + 1, ?_⟩
  unfold laws_FnExactFrmInto.f
  obtain ⟨t, e, h⟩ := sz_frm C D K 1048576 (by omega) (by omega) hC.1 hD.1
  rw [e]; simp only [Option.bind_some, if_true, bne_self_eq_false, Bool.false_eq_true, if_false]
  rcases h with h | ⟨h1, h2⟩
  · rw [if_pos h]
  rw [if_neg (by omega)]
  obtain ⟨u, e2, g⟩ := sz_sFrm l (k + 1) t (by omega) (by omega) (by omega) hl.1 (fun x hx => ⟨(hl.2 x hx).1.1, (hl.2 x hx).2.1.1⟩)
  rw [e2]; simp only [Option.bind_some, if_true, bne_self_eq_false, Bool.false_eq_true, if_false]
  rcases g with g | ⟨g1, g2, g3, g4⟩
  · rw [if_pos g]
  have hz : szdL l := ⟨by omega, g4⟩
  have q := cv_szd hz
  have b := totF_szd q
  obtain ⟨X, Y, Z, hs, hi, hx, hy⟩ := into_eq C D K (l.map cvFrm) (k + 1) (by omega) (by omega) (by omega) q
  have tos := fun (j : Nat) (hj : 6000000 < j) => to_sFrm l j (by omega) hz.1 hz.2
  have mk : laws_markFrmFormS.f (l.map cvFrm) (1 + C.length + D.length) = some (1 + C.length + D.length + totF (l.map cvFrm)) := by
    unfold laws_markFrmFormS.f
    rw [if_pos ⟨by omega, by omega⟩]
  rw [if_neg (by omega), to_frm C D K _ (by omega) (by omega) (by omega) (by omega)]; simp only [Option.bind_some, if_true, bne_self_eq_false, Bool.false_eq_true, if_false]
  rw [tos _ (by omega)]; simp only [Option.bind_some, if_true, bne_self_eq_false, Bool.false_eq_true, if_false]
  rw [hs]; simp only [Option.bind_some, if_true, bne_self_eq_false, Bool.false_eq_true, if_false]
  rw [hi]; simp only [Option.bind_some, if_true, bne_self_eq_false, Bool.false_eq_true, if_false]
  rw [eq_frm X Y Z _ (by omega) (by omega) (by omega) (by omega)]; simp only [Option.bind_some, if_true, bne_self_eq_false, Bool.false_eq_true, if_false]
  rw [eq_frm C D K _ (by omega) (by omega) (by omega) (by omega)]; simp only [Option.bind_some, if_true, bne_self_eq_false, Bool.false_eq_true, if_false]
  rw [eq_sFrm _ _ (by omega) q.1 q.2]; simp only [Option.bind_some, if_true, bne_self_eq_false, Bool.false_eq_true, if_false]
  rw [mark_frm C D K 1 _ (by omega) (by omega) (by omega) (by omega) (by omega) (by omega)]; simp only [Option.bind_some, if_true, bne_self_eq_false, Bool.false_eq_true, if_false]
  rw [mk]; simp only [Option.bind_some, if_true, bne_self_eq_false, Bool.false_eq_true, if_false]
  rw [if_neg (by omega)]
  simp only [laws_FnExactFrmInto.j0, Bool.not_true, Bool.false_eq_true, if_false]
  rw [mark_frm X Y Z 1 _ (by omega) (by omega) (by omega) (by omega) (by omega) (by omega)]; simp only [Option.bind_some, if_true, bne_self_eq_false, Bool.false_eq_true, if_false]
  rw [held_frm X.length Y.length Z 1 _ (by omega) (by omega) (by omega) (by omega) (by omega) (by omega)]; simp only [Option.bind_some, if_true, bne_self_eq_false, Bool.false_eq_true, if_false]
  simp only [show ¬ ((1 : Int) + (X.length : Int) + (Y.length : Int) < 0) from by omega, if_false]
  rw [to_frm C D K _ (by omega) (by omega) (by omega) (by omega)]; simp only [Option.bind_some, if_true, bne_self_eq_false, Bool.false_eq_true, if_false]
  rw [tos _ (by omega)]; simp only [Option.bind_some, if_true, bne_self_eq_false, Bool.false_eq_true, if_false]
  rw [hi]; simp only [Option.bind_some, if_true, bne_self_eq_false, Bool.false_eq_true, if_false]
  rw [eq_frm X Y Z _ (by omega) (by omega) (by omega) (by omega)]; simp only [Option.bind_some, if_true, bne_self_eq_false, Bool.false_eq_true, if_false]

end Go.Proofs.Ytfbdjimcjoddgaa.Pure
