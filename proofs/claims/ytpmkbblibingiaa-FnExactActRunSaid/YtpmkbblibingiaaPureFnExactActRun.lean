/- The plain law FnExactActRun: what the printed functions compute answers as the statement says. -/
import Derived.Test.YtpmkbblibingiaaQFnExactActRunx9
import Derived.OpenShut
set_option linter.unusedVariables false
set_option linter.unusedSimpArgs false
namespace Go.Proofs.Ytpmkbblibingiaa.Pure
open Go.RowKit Go.Proofs.Ytpmkbblibingiaa.QFnExactActRun Go.Proofs.YtpmkbblibingiaaW.PrintWords Go.Proofs.YtpmkbblibingiaaW.PrintLast Go.Proofs.Ytpmkbblibingiaa.HWords

theorem bd64 {x : Int} (h : (Lit.int .i64 x).wf = true) : -9223372036854775808 ≤ x ∧ x ≤ 9223372036854775807 := bounds_i64 h
theorem wrap_id {x : Int} (h0 : -9223372036854775808 ≤ x) (h1 : x ≤ 9223372036854775807) : wrap64 x = x := by unfold wrap64; omega
theorem wrap_l (x y : Int) : wrap64 (wrap64 x + y) = wrap64 (x + y) := by unfold wrap64; omega
theorem wrap_r (x y : Int) : wrap64 (x + wrap64 y) = wrap64 (x + y) := by unfold wrap64; omega
theorem wrap_ll (x y z : Int) : wrap64 (wrap64 x + y + z) = wrap64 (x + y + z) := by unfold wrap64; omega
theorem wrap_lr (x y z : Int) : wrap64 (x + wrap64 y + z) = wrap64 (x + y + z) := by unfold wrap64; omega
theorem getD_at (l : List Int) (i : Nat) (h : i < l.length) : rd l (i : Int) = l[i] := by
  unfold rd
  rw [show ((i : Int)).toNat = i from by omega, List.getD_eq_getElem?_getD, List.getElem?_eq_getElem h]
  rfl
/-- The plain 'within bounds'. -/
def ibB (n lo hi : Int) : Bool := decide (lo ≤ n) && decide (n ≤ hi)
/-- As many as must be, each within a bound. -/
def okB (l : List Int) (n m : Int) : Bool := decide ((l.length : Int) = n) && l.all (fun x => ibB x (wrap64 (-m)) m)
theorem ibB_iff {n lo hi : Int} : ibB n lo hi = true ↔ lo ≤ n ∧ n ≤ hi := by unfold ibB; simp
theorem okB_iff {l : List Int} {n m : Int} : okB l n m = true ↔ (l.length : Int) = n ∧ ∀ x ∈ l, wrap64 (-m) ≤ x ∧ x ≤ m := by
  unfold okB ibB; simp

theorem sz_int (l : List Int) (n : Int) (h0 : 0 ≤ n) (h1 : n ≤ 1048576) (hl : l.length ≤ 9223372036854775807) :
    ∃ t, laws_szIntS.f l n = some t ∧ (t < 0 ∨ (0 ≤ t ∧ t + l.length = n)) := by
  unfold laws_szIntS.f
  have e : wrap64 (n - (l.length : Int)) = n - (l.length : Int) := wrap_id (by omega) (by omega)
  rw [e]
  by_cases h : n - (l.length : Int) < 0
  · rw [if_pos h]; exact ⟨_, rfl, .inl (by decide)⟩
  · rw [if_neg h]; exact ⟨_, rfl, .inr ⟨by omega, by omega⟩⟩

theorem sz_frm (C D : List Int) (K : Int) (n : Int) (h0 : 0 ≤ n) (h1 : n ≤ 1048576) (hc : C.length ≤ 9223372036854775807) (hd : D.length ≤ 9223372036854775807) :
    ∃ t, laws_szFrmForm.f C D K n = some t ∧ (t < 0 ∨ (0 ≤ t ∧ t + C.length + D.length = n)) := by
  unfold laws_szFrmForm.f
  obtain ⟨t, e, h⟩ := sz_int C n h0 h1 hc
  rw [e]; simp only [Option.bind_some, if_true, bne_self_eq_false, Bool.false_eq_true, if_false]
  rcases h with h | ⟨ha, hb⟩
  · rw [if_pos h]; exact ⟨_, rfl, .inl (by decide)⟩
  · rw [if_neg (by omega)]
    obtain ⟨u, e2, h2⟩ := sz_int D t ha (by omega) hd
    rw [e2]; simp only [Option.bind_some, if_true, bne_self_eq_false, Bool.false_eq_true, if_false]
    rcases h2 with h2 | ⟨hc2, hd2⟩
    · rw [if_pos h2]; exact ⟨_, rfl, .inl (by decide)⟩
    · rw [if_neg (by omega)]; exact ⟨_, rfl, .inr ⟨by omega, by omega⟩⟩

theorem set_take (l : List Int) (i : Nat) (h : i < l.length) :
    (l.take i ++ List.replicate (l.length - i) (0 : Int)).set i l[i] = l.take (i + 1) ++ List.replicate (l.length - (i + 1)) 0 := by
  rw [List.set_append_right _ _ (by rw [List.length_take]; omega), List.length_take, Nat.min_eq_left (by omega), Nat.sub_self]
  obtain ⟨m, hm⟩ : ∃ m, l.length - i = m + 1 := ⟨l.length - i - 1, by omega⟩
  rw [hm, List.replicate_succ, List.set_cons_zero, show l.length - (i + 1) = m from by omega, List.take_succ_eq_append_getElem h, List.append_assoc]
  rfl
theorem to_loop (l : List Int) (hl : l.length ≤ 1048576) (d : Nat) : ∀ (k i : Nat), i + d = l.length → d < k →
    laws_toIntS.l0 k l (l.take i ++ List.replicate (l.length - i) 0) (i : Int) = some l := by
  induction d with
  | zero =>
    intro k i hi hk
    obtain ⟨k, rfl⟩ : ∃ m, k = m + 1 := ⟨k - 1, by omega⟩
    simp only [laws_toIntS.l0]
    rw [if_neg (by omega), show i = l.length from by omega]
    simp
  | succ d ih =>
    intro k i hi hk
    obtain ⟨k, rfl⟩ : ∃ m, k = m + 1 := ⟨k - 1, by omega⟩
    have hlt : i < l.length := by omega
    simp only [laws_toIntS.l0]
    have hlen : (l.take i ++ List.replicate (l.length - i) (0 : Int)).length = l.length := by simp; omega
    rw [if_pos (by omega), if_pos (by omega), if_pos (by rw [hlen]; omega), getD_at l i hlt, show ((i : Int)).toNat = i from by omega, set_take l i hlt,
      wrap_id (by omega) (by omega), show (i : Int) + 1 = ((i + 1 : Nat) : Int) from by omega]
    exact ih k (i + 1) (by omega) (by omega)
theorem to_int (l : List Int) (k : Nat) (hk : l.length < k) (hl : l.length ≤ 1048576) : laws_toIntS.f k l = some l := by
  unfold laws_toIntS.f
  rw [if_pos (by omega), if_pos (by omega), show ((l.length : Int)).toNat = l.length from by omega]
  have := to_loop l hl l.length k 0 (by omega) hk
  simpa using this

theorem to_frm (C D : List Int) (K : Int) (k : Nat) (hc : C.length < k) (hd : D.length < k) (hc2 : C.length ≤ 1048576) (hd2 : D.length ≤ 1048576) : laws_toFrmForm.f k C D K = some (C, D, K) := by
  unfold laws_toFrmForm.f
  rw [to_int C k hc hc2]; simp only [Option.bind_some, if_true, bne_self_eq_false, Bool.false_eq_true, if_false]
  rw [to_int D k hd hd2]; simp only [Option.bind_some, if_true, bne_self_eq_false, Bool.false_eq_true, if_false]

theorem eq_loop (l : List Int) (hl : l.length ≤ 1048576) (d : Nat) : ∀ (k i : Nat), i + d = l.length → d < k → laws_eqIntS.l0 k l l (i : Int) = some true := by
  induction d with
  | zero =>
    intro k i hi hk
    obtain ⟨k, rfl⟩ : ∃ m, k = m + 1 := ⟨k - 1, by omega⟩
    simp only [laws_eqIntS.l0]
    rw [if_neg (by omega)]
  | succ d ih =>
    intro k i hi hk
    obtain ⟨k, rfl⟩ : ∃ m, k = m + 1 := ⟨k - 1, by omega⟩
    simp only [laws_eqIntS.l0, if_true]
    rw [if_pos (by omega), if_pos (by omega), if_pos (by omega), wrap_id (by omega) (by omega), show (i : Int) + 1 = ((i + 1 : Nat) : Int) from by omega]
    exact ih k (i + 1) (by omega) (by omega)
theorem eq_int (l : List Int) (k : Nat) (hk : l.length < k) (hl : l.length ≤ 1048576) : laws_eqIntS.f k l l = some true := by
  unfold laws_eqIntS.f
  rw [if_pos rfl]
  exact eq_loop l hl l.length k 0 (by omega) hk

theorem eq_frm (C D : List Int) (K : Int) (k : Nat) (hc : C.length < k) (hd : D.length < k) (hc2 : C.length ≤ 1048576) (hd2 : D.length ≤ 1048576) : laws_eqFrmForm.f k C D K C D K = some true := by
  unfold laws_eqFrmForm.f
  rw [eq_int C k hc hc2]; simp only [Option.bind_some, if_true, bne_self_eq_false, Bool.false_eq_true, if_false]
  rw [eq_int D k hd hd2]; simp only [Option.bind_some, if_true, bne_self_eq_false, Bool.false_eq_true, if_false]

/-- The numbers from m on, so many. -/
def seqI (m : Int) (n : Nat) : List Int := (List.range n).map fun (i : Nat) => m + (i : Int)
theorem seqI_length (m : Int) (n : Nat) : (seqI m n).length = n := by simp [seqI]
theorem seqI_at (m : Int) (n i : Nat) (h : i < n) : rd (seqI m n) (i : Int) = m + i := by
  rw [getD_at _ _ (by rw [seqI_length]; exact h)]
  simp [seqI]
theorem seqI_set (l : List Int) (m : Int) (i : Nat) (h : i < l.length) : (seqI m i ++ l.drop i).set i (m + i) = seqI m (i + 1) ++ l.drop (i + 1) := by
  rw [List.set_append_right _ _ (by rw [seqI_length]; omega), seqI_length, Nat.sub_self, List.drop_eq_getElem_cons h, List.set_cons_zero]
  unfold seqI
  rw [List.range_succ]
  simp
theorem mark_loop (l : List Int) (m : Int) (hl : l.length ≤ 1048576) (h0 : 0 ≤ m) (h1 : m ≤ 1152921504606846976) (d : Nat) : ∀ (k i : Nat), i + d = l.length → d < k →
    laws_markIntS.l0 k (seqI m i ++ l.drop i) (m + i) (i : Int) = some (m + l.length, seqI m l.length) := by
  induction d with
  | zero =>
    intro k i hi hk
    obtain ⟨k, rfl⟩ : ∃ m, k = m + 1 := ⟨k - 1, by omega⟩
    have hi' : i = l.length := by omega
    subst hi'
    simp only [laws_markIntS.l0]
    rw [if_neg (by simp [seqI_length])]
    simp
  | succ d ih =>
    intro k i hi hk
    obtain ⟨k, rfl⟩ : ∃ m, k = m + 1 := ⟨k - 1, by omega⟩
    have hlt : i < l.length := by omega
    simp only [laws_markIntS.l0]
    rw [if_pos (by simp [seqI_length]; omega), if_pos (by omega), show ((i : Int)).toNat = i from by omega, seqI_set l m i hlt, wrap_id (by omega) (by omega), wrap_id (by omega) (by omega),
      show m + (i : Int) + 1 = m + ((i + 1 : Nat) : Int) from by omega, show (i : Int) + 1 = ((i + 1 : Nat) : Int) from by omega]
    exact ih k (i + 1) (by omega) (by omega)
theorem mark_int (l : List Int) (m : Int) (k : Nat) (hk : l.length < k) (hl : l.length ≤ 1048576) (h0 : 0 ≤ m) (h1 : m ≤ 1152921504606846976) : laws_markIntS.f k l m = some (m + l.length, seqI m l.length) := by
  unfold laws_markIntS.f
  have := mark_loop l m hl h0 h1 l.length k 0 (by omega) hk
  simpa [seqI] using this
theorem held_loop (n : Nat) (m : Int) (hl : n ≤ 1048576) (h0 : 0 ≤ m) (h1 : m ≤ 1099511627776) (d : Nat) : ∀ (k i : Nat), i + d = n → d < k →
    laws_heldIntS.l0 k (seqI m n) (m + i) (i : Int) = some (m + n) := by
  induction d with
  | zero =>
    intro k i hi hk
    obtain ⟨k, rfl⟩ : ∃ m, k = m + 1 := ⟨k - 1, by omega⟩
    have hi' : i = n := by omega
    subst hi'
    simp only [laws_heldIntS.l0]
    rw [if_neg (by simp [seqI_length])]
  | succ d ih =>
    intro k i hi hk
    obtain ⟨k, rfl⟩ : ∃ m, k = m + 1 := ⟨k - 1, by omega⟩
    have hlt : i < n := by omega
    simp only [laws_heldIntS.l0]
    rw [if_pos (by simp [seqI_length]; omega), if_pos (by omega), if_pos (seqI_at m n i hlt), wrap_id (by omega) (by omega), wrap_id (by omega) (by omega),
      show m + (i : Int) + 1 = m + ((i + 1 : Nat) : Int) from by omega, show (i : Int) + 1 = ((i + 1 : Nat) : Int) from by omega]
    exact ih k (i + 1) (by omega) (by omega)
theorem held_int (n : Nat) (m : Int) (k : Nat) (hk : n < k) (hl : n ≤ 1048576) (h0 : 0 ≤ m) (h1 : m ≤ 1099511627776) : laws_heldIntS.f k (seqI m n) m = some (m + n) := by
  unfold laws_heldIntS.f
  have := held_loop n m hl h0 h1 n k 0 (by omega) hk
  simpa using this

theorem l1In_eq (n lo hi : Int) : spec_l1In.f n lo hi = some (ibB n lo hi) := by
  unfold spec_l1In.f ibB
  by_cases h : n ≥ lo
  · rw [if_pos h]; simp [h]
  · rw [if_neg h]; simp [h]

theorem in_eq (n lo hi : Int) : impl_in.f n lo hi = some (ibB n lo hi) := by
  unfold impl_in.f ibB
  by_cases h : n ≥ lo
  · rw [if_pos h]; simp [h]
  · rw [if_neg h]; simp [h]

theorem within_eq (l : List Int) (n m : Int) : impl_within.f l n m = some (okB l n m) := by
  unfold impl_within.f okB
  rw [List.all_eq_not_any_not]
  rfl

theorem all_loop (l : List Int) (m : Int) (hl : l.length ≤ 1048576) (d : Nat) : ∀ (k i : Nat), i + d = l.length → d < k → spec_l1All.l0 k l m (i : Int) = some ((l.drop i).all fun x => ibB x (wrap64 (-m)) m) := by
  induction d with
  | zero =>
    intro k i hi hk
    obtain ⟨k, rfl⟩ : ∃ m, k = m + 1 := ⟨k - 1, by omega⟩
    simp only [spec_l1All.l0]
    rw [if_neg (by omega), List.drop_of_length_le (by omega)]
    rfl
  | succ d ih =>
    intro k i hi hk
    obtain ⟨k, rfl⟩ : ∃ m, k = m + 1 := ⟨k - 1, by omega⟩
    have hlt : i < l.length := by omega
    simp only [spec_l1All.l0]
    rw [if_pos (by omega), if_pos (by omega), l1In_eq, getD_at l i hlt, List.drop_eq_getElem_cons hlt, List.all_cons]
    simp only [Option.bind_some, if_true, bne_self_eq_false, Bool.false_eq_true, if_false]
    cases ibB l[i] (wrap64 (-m)) m with
    | false => rfl
    | true =>
      rw [if_pos rfl, wrap_id (by omega) (by omega), show (i : Int) + 1 = ((i + 1 : Nat) : Int) from by omega, ih k (i + 1) (by omega) (by omega)]
      rfl
theorem l1All_eq (l : List Int) (n m : Int) (k : Nat) (hk : l.length < k) (hl : l.length ≤ 1048576) : spec_l1All.f k l n m = some (okB l n m) := by
  unfold spec_l1All.f okB
  by_cases h : (l.length : Int) = n
  · rw [if_pos h, decide_eq_true h, Bool.true_and]
    have := all_loop l m hl l.length k 0 (by omega) hk
    simpa using this
  · rw [if_neg h, decide_eq_false h, Bool.false_and]

theorem spec_Val_eq (l : List Int) (k : Nat) (hk : l.length < k) (hl : l.length ≤ 1048576) : spec_ValOk.f k l = some (okB l 3 10000) := by
  unfold spec_ValOk.f
  rw [l1All_eq l _ _ k hk hl]; rfl

theorem impl_Val_eq (l : List Int) : impl_ValOk.f l = some (okB l 3 10000) := by
  unfold impl_ValOk.f
  rw [within_eq]; rfl

theorem spec_Arg_eq (l : List Int) (k : Nat) (hk : l.length < k) (hl : l.length ≤ 1048576) : spec_ArgOk.f k l = some (okB l 2 9) := by
  unfold spec_ArgOk.f
  rw [l1All_eq l _ _ k hk hl]; rfl

theorem impl_Arg_eq (l : List Int) : impl_ArgOk.f l = some (okB l 2 9) := by
  unfold impl_ArgOk.f
  rw [within_eq]; rfl

def frmB (C D : List Int) (K : Int) : Bool := okB C 3 10000000 && (okB D 2 10000000 && ibB K (-10000000) 10000000)

/-- What a form of three and two is, as the reference sums it. -/
def atV (c0 c1 c2 d0 d1 K v0 v1 v2 a0 a1 : Int) : Int := wrap64 (K + c0 * v0 + c1 * v1 + c2 * v2 + d0 * a0 + d1 * a1)

theorem l1At_eq (c0 c1 c2 d0 d1 K v0 v1 v2 a0 a1 : Int) (k : Nat) (hK : wrap64 K = K) : spec_l1At.f (k + 8) [c0, c1, c2] [d0, d1] K [v0, v1, v2] [a0, a1] = some (atV c0 c1 c2 d0 d1 K v0 v1 v2 a0 a1) := by
  have w1 : wrap64 (0 + 1) = 1 := by unfold wrap64; omega
  have w2 : wrap64 (1 + 1) = 2 := by unfold wrap64; omega
  have w3 : wrap64 (2 + 1) = 3 := by unfold wrap64; omega
  unfold spec_l1At.f
  simp only [spec_l1At.l0, spec_l1At.l1, w1, w2, w3]
  simp [rd, atV, wrap_l, wrap_r]

theorem dot3V (c0 c1 c2 v0 v1 v2 : Int) (k : Nat) : impl_dot.f (k + 4) [c0, c1, c2] [v0, v1, v2] = some (wrap64 (c0 * v0 + c1 * v1 + c2 * v2)) := by
  have w1 : wrap64 (0 + 1) = 1 := by unfold wrap64; omega
  have w2 : wrap64 (1 + 1) = 2 := by unfold wrap64; omega
  have w3 : wrap64 (2 + 1) = 3 := by unfold wrap64; omega
  unfold impl_dot.f
  simp only [impl_dot.l0, w1, w2, w3]
  simp [rd, wrap_l, wrap_r]
theorem dot2V (c0 c1 v0 v1 : Int) (k : Nat) : impl_dot.f (k + 3) [c0, c1] [v0, v1] = some (wrap64 (c0 * v0 + c1 * v1)) := by
  have w1 : wrap64 (0 + 1) = 1 := by unfold wrap64; omega
  have w2 : wrap64 (1 + 1) = 2 := by unfold wrap64; omega
  unfold impl_dot.f
  simp only [impl_dot.l0, w1, w2]
  simp [rd, wrap_l, wrap_r]
theorem at_eq (c0 c1 c2 d0 d1 K v0 v1 v2 a0 a1 : Int) (k : Nat) : impl_FrmForm_at.f (k + 4) [c0, c1, c2] [d0, d1] K [v0, v1, v2] [a0, a1] = some (atV c0 c1 c2 d0 d1 K v0 v1 v2 a0 a1) := by
  unfold impl_FrmForm_at.f
  rw [dot3V, show k + 4 = (k + 1) + 3 from rfl, dot2V]
  simp only [Option.bind_some, atV, wrap_l, wrap_r, wrap_ll, wrap_lr]
  have e : ∀ x y z : Int, x = y → some (wrap64 x) = some (wrap64 y) := fun x y _ h => by rw [h]
  refine e _ _ 0 ?_
  omega

theorem len3 {l : List Int} (h : (l.length : Int) = 3) : ∃ a b c, l = [a, b, c] := by
  match l, h with
  | [a, b, c], _ => exact ⟨a, b, c, rfl⟩
  | [], h => simp at h
  | [_], h => simp at h
  | [_, _], h => simp at h
  | _ :: _ :: _ :: _ :: _, h => simp at h; omega
theorem len2 {l : List Int} (h : (l.length : Int) = 2) : ∃ a b, l = [a, b] := by
  match l, h with
  | [a, b], _ => exact ⟨a, b, rfl⟩
  | [], h => simp at h
  | [_], h => simp at h
  | _ :: _ :: _ :: _, h => simp at h; omega
theorem okB_len {l : List Int} {n m : Int} (h : okB l n m = true) : (l.length : Int) = n := (okB_iff.mp h).1
theorem frmB_len {C D : List Int} {K : Int} (h : frmB C D K = true) : (C.length : Int) = 3 ∧ (D.length : Int) = 2 := by
  unfold frmB at h
  simp only [Bool.and_eq_true] at h
  exact ⟨okB_len h.1, okB_len h.2.1⟩

theorem set_takeG {α : Type} (z : α) (l : List α) (i : Nat) (h : i < l.length) :
    (l.take i ++ List.replicate (l.length - i) z).set i l[i] = l.take (i + 1) ++ List.replicate (l.length - (i + 1)) z := by
  rw [List.set_append_right _ _ (by rw [List.length_take]; omega), List.length_take, Nat.min_eq_left (by omega), Nat.sub_self]
  obtain ⟨m, hm⟩ : ∃ m, l.length - i = m + 1 := ⟨l.length - i - 1, by omega⟩
  rw [hm, List.replicate_succ, List.set_cons_zero, show l.length - (i + 1) = m from by omega, List.take_succ_eq_append_getElem h, List.append_assoc]
  rfl
theorem getDG {α : Type} (z : α) (l : List α) (i : Nat) (h : i < l.length) : l.getD ((i : Int)).toNat z = l[i] := by
  rw [show ((i : Int)).toNat = i from by omega, List.getD_eq_getElem?_getD, List.getElem?_eq_getElem h]
  rfl

def cvFrm (x : S41) : S46 := ⟨x.f0, x.f1, x.f2⟩

def cvLine (x : S43) : S48 := ⟨x.f0, x.f1, x.f2, cvFrm x.f3⟩

theorem sz_line (a b c : Int) (C D : List Int) (K : Int) (n : Int) (h0 : 0 ≤ n) (h1 : n ≤ 1048576) (hc : C.length ≤ 9223372036854775807) (hd : D.length ≤ 9223372036854775807) :
    ∃ t, laws_szActLine.f a b c C D K n = some t ∧ (t < 0 ∨ (0 ≤ t ∧ t + C.length + D.length = n)) := by
  unfold laws_szActLine.f
  obtain ⟨t, e, h⟩ := sz_frm C D K n h0 h1 hc hd
  rw [e]; simp only [Option.bind_some, if_true, bne_self_eq_false, Bool.false_eq_true, if_false]
  rcases h with h | ⟨ha, hb⟩
  · rw [if_pos h]; exact ⟨_, rfl, .inl (by decide)⟩
  · rw [if_neg (by omega)]; exact ⟨_, rfl, .inr ⟨by omega, by omega⟩⟩

theorem to_line (a b c : Int) (C D : List Int) (K : Int) (k : Nat) (hc : C.length < k) (hd : D.length < k) (hc2 : C.length ≤ 1048576) (hd2 : D.length ≤ 1048576) : laws_toActLine.f k a b c C D K = some (a, b, c, C, D, K) := by
  unfold laws_toActLine.f
  rw [to_frm C D K k hc hd hc2 hd2]; simp only [Option.bind_some, if_true, bne_self_eq_false, Bool.false_eq_true, if_false]

theorem eq_line (a b c : Int) (C D : List Int) (K : Int) (k : Nat) (hc : C.length < k) (hd : D.length < k) (hc2 : C.length ≤ 1048576) (hd2 : D.length ≤ 1048576) : laws_eqActLine.f k a b c C D K a b c C D K = some true := by
  unfold laws_eqActLine.f
  rw [eq_frm C D K k hc hd hc2 hd2]; simp only [Option.bind_some, if_true, bne_self_eq_false, Bool.false_eq_true, if_false]

theorem szsLine_loop (l : List S43) (hl : l.length ≤ 1048576) (hw : ∀ x ∈ l, x.f3.f0.length ≤ 9223372036854775807 ∧ x.f3.f1.length ≤ 9223372036854775807) (d : Nat) : ∀ (k i : Nat) (n : Int), i + d = l.length → d < k → 0 ≤ n → n ≤ 1048576 →
    ∃ t, laws_szActLineS.l0 k l n (i : Int) = some t ∧ (t < 0 ∨ (0 ≤ t ∧ t ≤ n ∧ ∀ x ∈ l.drop i, (x.f3.f0.length : Int) ≤ n ∧ (x.f3.f1.length : Int) ≤ n)) := by
  induction d with
  | zero =>
    intro k i n hi hk h0 h1
    obtain ⟨k, rfl⟩ : ∃ m, k = m + 1 := ⟨k - 1, by omega⟩
    refine ⟨n, ?_, .inr ⟨h0, Int.le_refl _, ?_⟩⟩
    · simp only [laws_szActLineS.l0]; rw [if_neg (by omega)]
    · rw [List.drop_of_length_le (by omega)]; simp
  | succ d ih =>
    intro k i n hi hk h0 h1
    obtain ⟨k, rfl⟩ : ∃ m, k = m + 1 := ⟨k - 1, by omega⟩
    have hlt : i < l.length := by omega
    have hq := hw _ (List.getElem_mem hlt)
    simp only [laws_szActLineS.l0]
    rw [if_pos (by omega), if_pos (by omega), show rd_T43 l (i : Int) = l[i] from getDG z43 l i hlt]
    obtain ⟨t, e, h⟩ := sz_line l[i].f0 l[i].f1 l[i].f2 l[i].f3.f0 l[i].f3.f1 l[i].f3.f2 n h0 h1 hq.1 hq.2
    rw [e]; simp only [Option.bind_some]
    rcases h with h | ⟨ha, hb⟩
    · rw [if_pos h]; exact ⟨_, rfl, .inl (by decide)⟩
    · rw [if_neg (by omega), show wrap64 ((i : Int) + 1) = ((i + 1 : Nat) : Int) from by rw [wrap_id (by omega) (by omega)]; omega]
      obtain ⟨u, e2, h2⟩ := ih k (i + 1) t (by omega) (by omega) ha (by omega)
      refine ⟨u, e2, ?_⟩
      rcases h2 with h2 | ⟨p, q, r⟩
      · exact .inl h2
      · refine .inr ⟨p, by omega, fun x hx => ?_⟩
        rw [List.drop_eq_getElem_cons hlt] at hx
        rcases List.mem_cons.mp hx with rfl | hx
        · omega
        · have := r x hx; omega
theorem sz_sLine (l : List S43) (k : Nat) (n : Int) (h0 : 0 ≤ n) (h1 : n ≤ 1048576) (hk : 1048577 < k) (hl : l.length ≤ 9223372036854775807) (hw : ∀ x ∈ l, x.f3.f0.length ≤ 9223372036854775807 ∧ x.f3.f1.length ≤ 9223372036854775807) :
    ∃ t, laws_szActLineS.f k l n = some t ∧ (t < 0 ∨ (0 ≤ t ∧ t ≤ n ∧ (l.length : Int) ≤ n ∧ ∀ x ∈ l, (x.f3.f0.length : Int) ≤ 1048576 ∧ (x.f3.f1.length : Int) ≤ 1048576)) := by
  unfold laws_szActLineS.f
  have e : wrap64 (n - (l.length : Int)) = n - (l.length : Int) := wrap_id (by omega) (by omega)
  rw [e]
  by_cases h : n - (l.length : Int) < 0
  · rw [if_pos h]; exact ⟨_, rfl, .inl (by decide)⟩
  · rw [if_neg h]
    obtain ⟨u, e2, h2⟩ := szsLine_loop l (by omega) hw l.length k 0 (n - (l.length : Int)) (by omega) (by omega) (by omega) (by omega)
    refine ⟨u, e2, ?_⟩
    rcases h2 with h2 | ⟨p, q, r⟩
    · exact .inl h2
    · exact .inr ⟨p, by omega, by omega, fun x hx => by have := r x (by simpa using hx); omega⟩

theorem tosLine_loop (l : List S43) (hl : l.length ≤ 1048576) (hw : ∀ x ∈ l, (x.f3.f0.length : Int) ≤ 1048576 ∧ (x.f3.f1.length : Int) ≤ 1048576) (d : Nat) : ∀ (k i : Nat), i + d = l.length → d + 1048577 < k →
    laws_toActLineS.l0 k l ((l.map cvLine).take i ++ List.replicate ((l.map cvLine).length - i) z48) (i : Int) = some (l.map cvLine) := by
  induction d with
  | zero =>
    intro k i hi hk
    obtain ⟨k, rfl⟩ : ∃ m, k = m + 1 := ⟨k - 1, by omega⟩
    simp only [laws_toActLineS.l0]
    rw [if_neg (by omega), List.take_of_length_le (by rw [List.length_map]; omega), show (l.map cvLine).length - i = 0 from by rw [List.length_map]; omega]
    simp
  | succ d ih =>
    intro k i hi hk
    obtain ⟨k, rfl⟩ : ∃ m, k = m + 1 := ⟨k - 1, by omega⟩
    have hlt : i < l.length := by omega
    have hlm : i < (l.map cvLine).length := by rw [List.length_map]; exact hlt
    simp only [laws_toActLineS.l0]
    have hlen : ((l.map cvLine).take i ++ List.replicate ((l.map cvLine).length - i) z48).length = l.length := by simp; omega
    have hx := hw _ (List.getElem_mem hlt)
    rw [if_pos (by omega), if_pos (by omega), show rd_T43 l (i : Int) = l[i] from getDG z43 l i hlt, to_line l[i].f0 l[i].f1 l[i].f2 l[i].f3.f0 l[i].f3.f1 l[i].f3.f2 k (by omega) (by omega) (by omega) (by omega)]
    simp only [Option.bind_some]
    have e := set_takeG z48 (l.map cvLine) i hlm
    rw [List.getElem_map] at e
    rw [if_pos (by rw [hlen]; omega), show ((i : Int)).toNat = i from by omega, show wrap64 ((i : Int) + 1) = ((i + 1 : Nat) : Int) from by rw [wrap_id (by omega) (by omega)]; omega]
    refine Eq.trans ?_ (ih k (i + 1) (by omega) (by omega))
    rw [← e]; rfl
theorem to_sLine (l : List S43) (k : Nat) (hk : 2097154 < k) (hl : (l.length : Int) ≤ 1048576) (hw : ∀ x ∈ l, (x.f3.f0.length : Int) ≤ 1048576 ∧ (x.f3.f1.length : Int) ≤ 1048576) : laws_toActLineS.f k l = some (l.map cvLine) := by
  unfold laws_toActLineS.f
  rw [if_pos (by omega), if_pos (by omega), show ((l.length : Int)).toNat = l.length from by omega]
  have := tosLine_loop l (by omega) hw l.length k 0 (by omega) (by omega)
  simpa using this
theorem cvsLine (l : List S43) (hw : ∀ x ∈ l, (x.f3.f0.length : Int) ≤ 1048576 ∧ (x.f3.f1.length : Int) ≤ 1048576) : ∀ x ∈ l.map cvLine, (x.f3.f0.length : Int) ≤ 1048576 ∧ (x.f3.f1.length : Int) ≤ 1048576 := by
  intro x hx
  obtain ⟨y, hy, rfl⟩ := List.mem_map.mp hx
  exact hw y hy

theorem eqsLine_loop (l : List S48) (hl : l.length ≤ 1048576) (hw : ∀ x ∈ l, (x.f3.f0.length : Int) ≤ 1048576 ∧ (x.f3.f1.length : Int) ≤ 1048576) (d : Nat) : ∀ (k i : Nat), i + d = l.length → d + 1048577 < k → laws_eqActLineS.l0 k l l (i : Int) = some true := by
  induction d with
  | zero =>
    intro k i hi hk
    obtain ⟨k, rfl⟩ : ∃ m, k = m + 1 := ⟨k - 1, by omega⟩
    simp only [laws_eqActLineS.l0]
    rw [if_neg (by omega)]
  | succ d ih =>
    intro k i hi hk
    obtain ⟨k, rfl⟩ : ∃ m, k = m + 1 := ⟨k - 1, by omega⟩
    have hlt : i < l.length := by omega
    have hx := hw _ (List.getElem_mem hlt)
    simp only [laws_eqActLineS.l0]
    rw [if_pos (by omega), if_pos (by omega), if_pos (by omega), show rd_T48 l (i : Int) = l[i] from getDG z48 l i hlt, eq_line l[i].f0 l[i].f1 l[i].f2 l[i].f3.f0 l[i].f3.f1 l[i].f3.f2 k (by omega) (by omega) (by omega) (by omega)]
    simp only [Option.bind_some, if_true, bne_self_eq_false, Bool.false_eq_true, if_false]
    rw [show wrap64 ((i : Int) + 1) = ((i + 1 : Nat) : Int) from by rw [wrap_id (by omega) (by omega)]; omega]
    exact ih k (i + 1) (by omega) (by omega)
theorem eq_sLine (l : List S48) (k : Nat) (hk : 2097154 < k) (hl : (l.length : Int) ≤ 1048576) (hw : ∀ x ∈ l, (x.f3.f0.length : Int) ≤ 1048576 ∧ (x.f3.f1.length : Int) ≤ 1048576) : laws_eqActLineS.f k l l = some true := by
  unfold laws_eqActLineS.f
  rw [if_pos rfl]
  exact eqsLine_loop l (by omega) hw l.length k 0 (by omega) (by omega)

def smallB (C D : List Int) (K : Int) : Bool := okB C 3 2 && (okB D 2 2 && ibB K (-20) 20)
def lineB (a b c : Int) (C D : List Int) (K : Int) : Bool :=
  if a = 1 then decide (b = 0) && (ibB c 1 6 && smallB C D K)
  else if a = 2 then ibB b 0 2 && (decide (c = 0) && smallB C D K)
  else if a = 3 then decide (b = 0) && (decide (c = 0) && smallB C D K)
  else if a = 4 then decide (b = 0) && (decide (c = 0) && (decide (C = []) && (decide (D = []) && decide (K = 0))))
  else false

theorem impl_small_eq (C D : List Int) (K : Int) : impl_FrmForm_small.f C D K = some (smallB C D K) := by
  unfold impl_FrmForm_small.f smallB
  rw [within_eq]; simp only [Option.bind_some, if_true, bne_self_eq_false, Bool.false_eq_true, if_false]
  cases okB C 3 2 with
  | false => rfl
  | true =>
    rw [if_pos rfl, within_eq]; simp only [Option.bind_some, if_true, bne_self_eq_false, Bool.false_eq_true, if_false]
    cases okB D 2 2 with
    | false => rfl
    | true => rw [if_pos rfl, in_eq]; rfl
theorem equal_nil (C : List Int) (k : Nat) : slices_Equal_int_int.f (k + 1) C [] = some (decide (C = [])) := by
  unfold slices_Equal_int_int.f
  cases C with
  | nil => rw [if_pos rfl]; simp [slices_Equal_int_int.l0]
  | cons x xs => rw [if_neg (by simp; omega)]; simp
theorem impl_line_eq (a b c : Int) (C D : List Int) (K : Int) (k : Nat) (hk : 0 < k) : impl_ActLine_ok.f k a b c C D K = some (lineB a b c C D K) := by
  obtain ⟨k, rfl⟩ : ∃ m, k = m + 1 := ⟨k - 1, by omega⟩
  unfold impl_ActLine_ok.f lineB
  simp only [impl_small_eq, in_eq, Option.bind_some]
  by_cases h1 : a = 1
  · rw [if_pos h1, if_pos h1]
    by_cases hb : b = 0
    · rw [if_pos hb, decide_eq_true hb, Bool.true_and]; cases ibB c 1 6 <;> rfl
    · rw [if_neg hb, decide_eq_false hb, Bool.false_and]; cases ibB c 1 6 <;> rfl
  rw [if_neg h1, if_neg h1]
  by_cases h2 : a = 2
  · rw [if_pos h2, if_pos h2]
    by_cases hb : c = 0
    · rw [if_pos hb, decide_eq_true hb, Bool.true_and]; cases ibB b 0 2 <;> rfl
    · rw [if_neg hb, decide_eq_false hb, Bool.false_and]; cases ibB b 0 2 <;> rfl
  rw [if_neg h2, if_neg h2]
  by_cases h3 : a = 3
  · rw [if_pos h3, if_pos h3]
    by_cases hb : b = 0
    · rw [if_pos hb, decide_eq_true hb, Bool.true_and]
      by_cases hc : c = 0
      · rw [if_pos hc, decide_eq_true hc, Bool.true_and]
      · rw [if_neg hc, decide_eq_false hc, Bool.false_and]
    · rw [if_neg hb, decide_eq_false hb, Bool.false_and]
  rw [if_neg h3, if_neg h3]
  by_cases h4 : a = 4
  · rw [if_pos h4, if_pos h4]
    by_cases hb : b = 0
    · rw [if_pos hb, decide_eq_true hb, Bool.true_and]
      by_cases hc : c = 0
      · rw [if_pos hc, decide_eq_true hc, Bool.true_and]
        unfold impl_FrmForm_same.f
        rw [equal_nil, equal_nil]
        by_cases hK : K = 0
        · rw [if_pos hK, decide_eq_true hK]; by_cases hC : C = [] <;> by_cases hD : D = [] <;> simp [hC, hD]
        · rw [if_neg hK, decide_eq_false hK]; by_cases hC : C = [] <;> by_cases hD : D = [] <;> simp [hC, hD]
      · rw [if_neg hc, decide_eq_false hc, Bool.false_and]
    · rw [if_neg hb, decide_eq_false hb, Bool.false_and]
  rw [if_neg h4, if_neg h4]

theorem spec_small_eq (C D : List Int) (K : Int) (k : Nat) (hc : C.length < k) (hd : D.length < k) (hc2 : C.length ≤ 1048576) (hd2 : D.length ≤ 1048576) : spec_l2Small.f k C D K = some (smallB C D K) := by
  unfold spec_l2Small.f smallB
  rw [l1All_eq C _ _ k hc hc2]; simp only [Option.bind_some, if_true, bne_self_eq_false, Bool.false_eq_true, if_false]
  cases okB C 3 2 with
  | false => rfl
  | true =>
    rw [if_pos rfl, l1All_eq D _ _ k hd hd2]; simp only [Option.bind_some, if_true, bne_self_eq_false, Bool.false_eq_true, if_false]
    cases okB D 2 2 with
    | false => rfl
    | true => rw [if_pos rfl, l1In_eq]; rfl
theorem spec_line_eq (a b c : Int) (C D : List Int) (K : Int) (k : Nat) (hc : C.length < k) (hd : D.length < k) (hc2 : C.length ≤ 1048576) (hd2 : D.length ≤ 1048576) : spec_l2Line.f k a b c C D K = some (lineB a b c C D K) := by
  unfold spec_l2Line.f lineB
  simp only [spec_small_eq C D K k hc hd hc2 hd2, l1In_eq, Option.bind_some]
  by_cases h1 : a = 1
  · rw [if_pos h1, if_pos h1]
    by_cases hb : b = 0
    · rw [if_pos hb, decide_eq_true hb, Bool.true_and]; cases ibB c 1 6 <;> rfl
    · rw [if_neg hb, decide_eq_false hb, Bool.false_and]
  rw [if_neg h1, if_neg h1]
  by_cases h2 : a = 2
  · rw [if_pos h2, if_pos h2]
    by_cases hb : c = 0
    · rw [if_pos hb, decide_eq_true hb, Bool.true_and]; cases ibB b 0 2 <;> rfl
    · rw [if_neg hb, decide_eq_false hb, Bool.false_and]; cases ibB b 0 2 <;> rfl
  rw [if_neg h2, if_neg h2]
  by_cases h3 : a = 3
  · rw [if_pos h3, if_pos h3]
    by_cases hb : b = 0
    · rw [if_pos hb, decide_eq_true hb, Bool.true_and]
      by_cases hc : c = 0
      · rw [if_pos hc, decide_eq_true hc, Bool.true_and]
      · rw [if_neg hc, decide_eq_false hc, Bool.false_and]
    · rw [if_neg hb, decide_eq_false hb, Bool.false_and]
  rw [if_neg h3, if_neg h3]
  by_cases h4 : a = 4
  · rw [if_pos h4, if_pos h4]
    by_cases hb : b = 0
    · rw [if_pos hb, decide_eq_true hb, Bool.true_and]
      by_cases hc : c = 0
      · rw [if_pos hc, decide_eq_true hc, Bool.true_and, wrap_id (by omega) (by omega)]
        by_cases hC : C = []
        · by_cases hD : D = []
          · subst hC; subst hD; rw [if_pos (by rfl)]; by_cases hK : K = 0 <;> simp [hK]
          · have : 0 < D.length := List.length_pos_iff.mpr hD
            rw [if_neg (by omega)]; simp [hD]
        · have : 0 < C.length := List.length_pos_iff.mpr hC
          rw [if_neg (by omega)]; simp [hC]
      · rw [if_neg hc, decide_eq_false hc, Bool.false_and]
    · rw [if_neg hb, decide_eq_false hb, Bool.false_and]
  rw [if_neg h4, if_neg h4]

def lnB (x : S48) : Bool := lineB x.f0 x.f1 x.f2 x.f3.f0 x.f3.f1 x.f3.f2
def actG : List S48 → Int → Int → Bool
  | [], t, n => decide (n ≤ 6) && decide (t ≤ 3)
  | x :: xs, t, n => lnB x && actG xs (if x.f0 = 1 then wrap64 (t + 1) else t) n
def actB (l : List S48) : Bool := actG l 0 (l.length : Int)

theorem spec_act_loop (l : List S48) (hl : l.length ≤ 1048576) (hw : ∀ x ∈ l, (x.f3.f0.length : Int) ≤ 1048576 ∧ (x.f3.f1.length : Int) ≤ 1048576) (d : Nat) : ∀ (k i : Nat) (t : Int), i + d = l.length → d + 1048577 < k →
    spec_ActOk.l0 k l t (i : Int) = some (actG (l.drop i) t (l.length : Int)) := by
  induction d with
  | zero =>
    intro k i t hi hk
    obtain ⟨k, rfl⟩ : ∃ m, k = m + 1 := ⟨k - 1, by omega⟩
    simp only [spec_ActOk.l0]
    rw [if_neg (by omega), List.drop_of_length_le (by omega)]
    by_cases h : (l.length : Int) ≤ 6
    · rw [if_pos h]; simp only [actG]; rw [decide_eq_true h, Bool.true_and]
    · rw [if_neg h]; simp only [actG]; rw [decide_eq_false h, Bool.false_and]
  | succ d ih =>
    intro k i t hi hk
    obtain ⟨k, rfl⟩ : ∃ m, k = m + 1 := ⟨k - 1, by omega⟩
    have hlt : i < l.length := by omega
    have hx := hw _ (List.getElem_mem hlt)
    simp only [spec_ActOk.l0]
    rw [if_pos (by omega), if_pos (by omega), show rd_T48 l (i : Int) = l[i] from getDG z48 l i hlt, spec_line_eq l[i].f0 l[i].f1 l[i].f2 l[i].f3.f0 l[i].f3.f1 l[i].f3.f2 k (by omega) (by omega) (by omega) (by omega), List.drop_eq_getElem_cons hlt]
    simp only [Option.bind_some, actG]
    show _ = some (lineB l[i].f0 l[i].f1 l[i].f2 l[i].f3.f0 l[i].f3.f1 l[i].f3.f2 && _)
    cases lineB l[i].f0 l[i].f1 l[i].f2 l[i].f3.f0 l[i].f3.f1 l[i].f3.f2 with
    | false => rfl
    | true =>
      rw [if_pos rfl, Bool.true_and, show wrap64 ((i : Int) + 1) = ((i + 1 : Nat) : Int) from by rw [wrap_id (by omega) (by omega)]; omega]
      by_cases h1 : l[i].f0 = 1
      · rw [if_pos h1, if_pos h1]; exact ih k (i + 1) _ (by omega) (by omega)
      · rw [if_neg h1, if_neg h1]; exact ih k (i + 1) _ (by omega) (by omega)
theorem spec_Act_eq (l : List S48) (k : Nat) (hk : 2097154 < k) (hl : (l.length : Int) ≤ 1048576) (hw : ∀ x ∈ l, (x.f3.f0.length : Int) ≤ 1048576 ∧ (x.f3.f1.length : Int) ≤ 1048576) : spec_ActOk.f k l = some (actB l) := by
  unfold spec_ActOk.f actB
  have := spec_act_loop l (by omega) hw l.length k 0 0 (by omega) (by omega)
  simpa using this

theorem impl_act_loop (l : List S48) (hl : l.length ≤ 1048576) (d : Nat) : ∀ (k i : Nat) (t : Int), i + d = l.length → d + 1 < k →
    impl_ActOk.l0 k l t l (l.length : Int) (i : Int) = some (actG (l.drop i) t (l.length : Int)) := by
  induction d with
  | zero =>
    intro k i t hi hk
    obtain ⟨k, rfl⟩ : ∃ m, k = m + 1 := ⟨k - 1, by omega⟩
    simp only [impl_ActOk.l0]
    rw [if_neg (by omega), List.drop_of_length_le (by omega)]
    by_cases h : (l.length : Int) ≤ 6
    · rw [if_pos h]; simp only [actG]; rw [decide_eq_true h, Bool.true_and]
    · rw [if_neg h]; simp only [actG]; rw [decide_eq_false h, Bool.false_and]
  | succ d ih =>
    intro k i t hi hk
    obtain ⟨k, rfl⟩ : ∃ m, k = m + 1 := ⟨k - 1, by omega⟩
    have hlt : i < l.length := by omega
    simp only [impl_ActOk.l0]
    rw [if_pos (by omega), if_pos (by omega), if_pos (by omega), show rd_T48 l (i : Int) = l[i] from getDG z48 l i hlt, impl_line_eq l[i].f0 l[i].f1 l[i].f2 l[i].f3.f0 l[i].f3.f1 l[i].f3.f2 k (by omega), List.drop_eq_getElem_cons hlt]
    simp only [Option.bind_some, actG]
    show _ = some (lineB l[i].f0 l[i].f1 l[i].f2 l[i].f3.f0 l[i].f3.f1 l[i].f3.f2 && _)
    cases lineB l[i].f0 l[i].f1 l[i].f2 l[i].f3.f0 l[i].f3.f1 l[i].f3.f2 with
    | false => rfl
    | true =>
      rw [if_pos rfl, Bool.true_and, show wrap64 ((i : Int) + 1) = ((i + 1 : Nat) : Int) from by rw [wrap_id (by omega) (by omega)]; omega]
      by_cases h1 : l[i].f0 = 1
      · rw [if_pos h1, if_pos h1]; exact ih k (i + 1) _ (by omega) (by omega)
      · rw [if_neg h1, if_neg h1]; exact ih k (i + 1) _ (by omega) (by omega)
theorem impl_Act_eq (l : List S48) (k : Nat) (hk : (l.length : Int) + 1 < k) (hl : (l.length : Int) ≤ 1048576) : impl_ActOk.f k l = some (actB l) := by
  unfold impl_ActOk.f actB
  have := impl_act_loop l (by omega) l.length k 0 0 (by omega) (by omega)
  simpa using this

theorem at_eqk (c0 c1 c2 d0 d1 K v0 v1 v2 a0 a1 : Int) (k : Nat) (hk : 4 ≤ k) : impl_FrmForm_at.f k [c0, c1, c2] [d0, d1] K [v0, v1, v2] [a0, a1] = some (atV c0 c1 c2 d0 d1 K v0 v1 v2 a0 a1) := by
  obtain ⟨k, rfl⟩ : ∃ m, k = m + 4 := ⟨k - 4, by omega⟩
  exact at_eq c0 c1 c2 d0 d1 K v0 v1 v2 a0 a1 k

theorem l1At_eqk (c0 c1 c2 d0 d1 K v0 v1 v2 a0 a1 : Int) (k : Nat) (hk : 8 ≤ k) (hK : wrap64 K = K) : spec_l1At.f k [c0, c1, c2] [d0, d1] K [v0, v1, v2] [a0, a1] = some (atV c0 c1 c2 d0 d1 K v0 v1 v2 a0 a1) := by
  obtain ⟨k, rfl⟩ : ∃ m, k = m + 8 := ⟨k - 8, by omega⟩
  exact l1At_eq c0 c1 c2 d0 d1 K v0 v1 v2 a0 a1 k hK

/-- What 'ActRun' answers at its end. -/
def endV (V own told : List Int) : Int × List Int × List Int := if okB own 3 10000 = true then (1, told, own) else (3, [], V)
def lineV (x : S48) (V R : List Int) : Int := atV (rd x.f3.f0 0) (rd x.f3.f0 1) (rd x.f3.f0 2) (rd x.f3.f1 0) (rd x.f3.f1 1) x.f3.f2 (rd V 0) (rd V 1) (rd V 2) (rd R 0) (rd R 1)
theorem lineV_eq (x : S48) (V R : List Int) (hs : smallB x.f3.f0 x.f3.f1 x.f3.f2 = true) (hV : (V.length : Int) = 3) (hR : (R.length : Int) = 2) (k : Nat) (hk : 8 ≤ k) :
    spec_l1At.f k x.f3.f0 x.f3.f1 x.f3.f2 V R = some (lineV x V R) ∧ impl_FrmForm_at.f k x.f3.f0 x.f3.f1 x.f3.f2 V R = some (lineV x V R) := by
  obtain ⟨v0, v1, v2, rfl⟩ := len3 hV
  obtain ⟨a0, a1, rfl⟩ := len2 hR
  obtain ⟨a, b, c, C, D, K⟩ := x
  simp only at hs ⊢
  unfold smallB at hs
  simp only [Bool.and_eq_true] at hs
  obtain ⟨q1, q2, q3⟩ := hs
  have hK : wrap64 K = K := by
    have := ibB_iff.mp q3
    exact wrap_id (by omega) (by omega)
  obtain ⟨c0, c1, c2, rfl⟩ := len3 (okB_len q1)
  obtain ⟨d0, d1, rfl⟩ := len2 (okB_len q2)
  exact ⟨l1At_eqk _ _ _ _ _ _ _ _ _ _ _ k hk hK, at_eqk _ _ _ _ _ _ _ _ _ _ _ k (by omega)⟩
theorem lineB_cases {a b c : Int} {C D : List Int} {K : Int} (h : lineB a b c C D K = true) : (a = 1 ∧ (1 ≤ c ∧ c ≤ 6) ∧ smallB C D K = true) ∨ (a = 2 ∧ (0 ≤ b ∧ b ≤ 2) ∧ smallB C D K = true) ∨ (a = 3 ∧ smallB C D K = true) ∨ a = 4 := by
  unfold lineB at h
  by_cases h1 : a = 1
  · rw [if_pos h1] at h
    simp only [Bool.and_eq_true] at h
    exact .inl ⟨h1, ibB_iff.mp h.2.1, h.2.2⟩
  rw [if_neg h1] at h
  by_cases h2 : a = 2
  · rw [if_pos h2] at h
    simp only [Bool.and_eq_true] at h
    exact .inr (.inl ⟨h2, ibB_iff.mp h.1, h.2.2⟩)
  rw [if_neg h2] at h
  by_cases h3 : a = 3
  · rw [if_pos h3] at h
    simp only [Bool.and_eq_true] at h
    exact .inr (.inr (.inl ⟨h3, h.2.2⟩))
  rw [if_neg h3] at h
  by_cases h4 : a = 4
  · exact .inr (.inr (.inr h4))
  rw [if_neg h4] at h
  exact absurd h (by decide)
theorem actG_all : ∀ (l : List S48) (t n : Int), actG l t n = true → n ≤ 6 ∧ ∀ x ∈ l, lnB x = true
  | [], t, n, h => by
    simp only [actG, Bool.and_eq_true, decide_eq_true_eq] at h
    exact ⟨h.1, by simp⟩
  | x :: xs, t, n, h => by
    simp only [actG, Bool.and_eq_true] at h
    obtain ⟨p, q⟩ := actG_all xs _ n h.2
    refine ⟨p, fun y hy => ?_⟩
    rcases List.mem_cons.mp hy with rfl | hy
    · exact h.1
    · exact q y hy
theorem l2EndV (V own told : List Int) (k : Nat) (hk : 20 < k) (ho : own.length = 3) (hV : V.length ≤ 1048576) : spec_l2End.f k V own told = some (endV V own told) := by
  unfold spec_l2End.f endV
  rw [spec_Val_eq own k (by omega) (by omega)]; simp only [Option.bind_some]
  cases okB own 3 10000 with
  | true => rfl
  | false =>
    rw [if_neg (by decide), if_pos (by simp; omega)]
    rfl
theorem run_stop (l : List S48) (V R own told : List Int) (i : Int) (hi : (l.length : Int) ≤ i) (ho : own.length = 3) (hV : V.length = 3) (k : Nat) (hk : 30 < k) : spec_ActRun.l0 k l V R own told i = some (endV V own told) ∧ impl_ActRun.l0 k l V R own told i = some (endV V own told) := by
  obtain ⟨k, rfl⟩ : ∃ m, k = m + 1 := ⟨k - 1, by omega⟩
  simp only [spec_ActRun.l0, impl_ActRun.l0]
  rw [if_neg (by omega), if_neg (by omega), l2EndV V own told k (by omega) ho (by omega), impl_Val_eq]
  refine ⟨rfl, ?_⟩
  have hc : slices_Clone_int_int.f V = some V := by unfold slices_Clone_int_int.f; rw [if_pos (by omega)]
  simp only [Option.bind_some, endV]
  cases okB own 3 10000 with
  | true => rfl
  | false => rw [if_neg (by decide), if_neg (by decide), hc]; rfl
theorem endV_len (V own told : List Int) (ho : own.length = 3) (hV : V.length = 3) : (endV V own told).2.1.length ≤ told.length ∧ (endV V own told).2.2.length = 3 := by
  unfold endV
  split
  · exact ⟨Nat.le_refl _, ho⟩
  · exact ⟨by simp, hV⟩
theorem run_loop (l : List S48) (V R : List Int) (h6 : l.length ≤ 6) (hl : ∀ x ∈ l, lnB x = true) (hV : V.length = 3) (hR : (R.length : Int) = 2) (d : Nat) : ∀ (i : Nat) (own told : List Int), l.length ≤ i + d → i ≤ 20 → own.length = 3 → told.length + d ≤ 100 →
    ∃ r : Int × List Int × List Int, r.2.1.length ≤ 100 ∧ r.2.2.length = 3 ∧ ∀ k, d + 30 < k → spec_ActRun.l0 k l V R own told (i : Int) = some r ∧ impl_ActRun.l0 k l V R own told (i : Int) = some r := by
  induction d with
  | zero =>
    intro i own told hi h20 ho ht
    obtain ⟨p, q⟩ := endV_len V own told ho hV
    exact ⟨endV V own told, by omega, q, fun k hk => run_stop l V R own told i (by omega) ho hV k (by omega)⟩
  | succ d ih =>
    intro i own told hi h20 ho ht
    by_cases hlt : i < l.length
    case neg =>
      obtain ⟨p, q⟩ := endV_len V own told ho hV
      exact ⟨endV V own told, by omega, q, fun k hk => run_stop l V R own told i (by omega) ho hV k (by omega)⟩
    have hx := hl _ (List.getElem_mem hlt)
    have hrd : rd_T48 l (i : Int) = l[i] := getDG z48 l i hlt
    have hw : wrap64 ((i : Int) + 1) = ((i + 1 : Nat) : Int) := by rw [wrap_id (by omega) (by omega)]; omega
    generalize l[i] = x at hx hrd
    rcases lineB_cases hx with ⟨h1, h2, h3⟩ | ⟨h1, h2, h3⟩ | ⟨h1, h3⟩ | h1
    · by_cases hn : lineV x own R < 0
      · obtain ⟨r, p, q, g⟩ := ih (i + x.f2.toNat + 1) own told (by omega) (by omega) ho (by omega)
        refine ⟨r, p, q, fun k hk => ?_⟩
        obtain ⟨k, rfl⟩ : ∃ m, k = m + 1 := ⟨k - 1, by omega⟩
        obtain ⟨e1, e2⟩ := lineV_eq x own R h3 (by omega) hR k (by omega)
        have hw2 : wrap64 (wrap64 ((i : Int) + x.f2) + 1) = ((i + x.f2.toNat + 1 : Nat) : Int) := by rw [wrap_id (x := (i : Int) + x.f2) (by omega) (by omega), wrap_id (by omega) (by omega)]; omega
        refine ⟨?_, ?_⟩
        · simp only [spec_ActRun.l0, hrd]
          rw [if_pos (by omega), if_pos (by omega), if_pos h1, e1]
          simp only [Option.bind_some]
          rw [if_pos hn, hw2]
          exact (g k (by omega)).1
        · simp only [impl_ActRun.l0, hrd]
          rw [if_pos (by omega), if_pos (by omega), if_neg (by omega), e2]
          simp only [Option.bind_some]
          rw [if_pos h1, if_pos hn, hw2]
          exact (g k (by omega)).2
      · obtain ⟨r, p, q, g⟩ := ih (i + 1) own told (by omega) (by omega) ho (by omega)
        refine ⟨r, p, q, fun k hk => ?_⟩
        obtain ⟨k, rfl⟩ : ∃ m, k = m + 1 := ⟨k - 1, by omega⟩
        obtain ⟨e1, e2⟩ := lineV_eq x own R h3 (by omega) hR k (by omega)
        refine ⟨?_, ?_⟩
        · simp only [spec_ActRun.l0, hrd]
          rw [if_pos (by omega), if_pos (by omega), if_pos h1, e1]
          simp only [Option.bind_some]
          rw [if_neg hn, hw]
          exact (g k (by omega)).1
        · simp only [impl_ActRun.l0, hrd]
          rw [if_pos (by omega), if_pos (by omega), if_neg (by omega), e2]
          simp only [Option.bind_some]
          rw [if_pos h1, if_neg hn, hw]
          exact (g k (by omega)).2
    · obtain ⟨r, p, q, g⟩ := ih (i + 1) (own.set x.f1.toNat (wrap64 (rd own x.f1 + lineV x own R))) told (by omega) (by omega) (by rw [List.length_set]; exact ho) (by omega)
      refine ⟨r, p, q, fun k hk => ?_⟩
      obtain ⟨k, rfl⟩ : ∃ m, k = m + 1 := ⟨k - 1, by omega⟩
      obtain ⟨e1, e2⟩ := lineV_eq x own R h3 (by omega) hR k (by omega)
      refine ⟨?_, ?_⟩
      · simp only [spec_ActRun.l0, hrd]
        rw [if_pos (by omega), if_pos (by omega), if_neg (by omega), if_pos h1, if_pos (by omega), if_pos (by omega), e1]
        simp only [Option.bind_some]
        rw [hw]
        exact (g k (by omega)).1
      · simp only [impl_ActRun.l0, hrd]
        rw [if_pos (by omega), if_pos (by omega), if_neg (by omega), e2]
        simp only [Option.bind_some]
        rw [if_neg (by omega), if_pos h1, if_pos (by omega), if_pos (by omega), hw]
        exact (g k (by omega)).2
    · obtain ⟨r, p, q, g⟩ := ih (i + 1) own (told ++ [lineV x own R]) (by omega) (by omega) ho (by simp; omega)
      refine ⟨r, p, q, fun k hk => ?_⟩
      obtain ⟨k, rfl⟩ : ∃ m, k = m + 1 := ⟨k - 1, by omega⟩
      obtain ⟨e1, e2⟩ := lineV_eq x own R h3 (by omega) hR k (by omega)
      refine ⟨?_, ?_⟩
      · simp only [spec_ActRun.l0, hrd]
        rw [if_pos (by omega), if_pos (by omega), if_neg (by omega), if_neg (by omega), if_pos h1, e1]
        simp only [Option.bind_some]
        rw [if_pos (by omega), hw]
        exact (g k (by omega)).1
      · simp only [impl_ActRun.l0, hrd]
        rw [if_pos (by omega), if_pos (by omega), if_neg (by omega), e2]
        simp only [Option.bind_some]
        rw [if_neg (by omega), if_neg (by omega), if_pos h1, if_pos (by omega), hw]
        exact (g k (by omega)).2
    · refine ⟨(2, [], V), by simp, hV, fun k hk => ?_⟩
      obtain ⟨k, rfl⟩ : ∃ m, k = m + 1 := ⟨k - 1, by omega⟩
      have hc : slices_Clone_int_int.f V = some V := by unfold slices_Clone_int_int.f; rw [if_pos (by omega)]
      refine ⟨?_, ?_⟩
      · simp only [spec_ActRun.l0, hrd]
        rw [if_pos (by omega), if_pos (by omega), if_neg (by omega), if_neg (by omega), if_neg (by omega)]
        simp only [Option.bind_some]
        rw [if_pos (by simp; omega)]
        rfl
      · simp only [impl_ActRun.l0, hrd]
        rw [if_pos (by omega), if_pos (by omega), if_pos h1, hc]
        rfl
theorem run_eq (l : List S48) (V R : List Int) (hl : (l.length : Int) ≤ 1048576) (hw : ∀ x ∈ l, (x.f3.f0.length : Int) ≤ 1048576 ∧ (x.f3.f1.length : Int) ≤ 1048576) (hV : V.length ≤ 1048576) (hR : R.length ≤ 1048576) :
    ∃ r : Int × List Int × List Int, r.2.1.length ≤ 100 ∧ r.2.2.length ≤ 3 ∧ ∀ k, 2097300 < k → spec_ActRun.f k l V R = some r ∧ impl_ActRun.f k l V R = some r := by
  by_cases hp : (actB l && (okB V 3 10000 && okB R 2 9)) = true
  · simp only [Bool.and_eq_true] at hp
    obtain ⟨h1, h2, h3⟩ := hp
    obtain ⟨a1, a2⟩ := actG_all l 0 _ h1
    have hv3 := okB_len h2
    obtain ⟨r, p, q, g⟩ := run_loop l V R (by omega) a2 (by omega) (okB_len h3) l.length 0 V [] (by omega) (by omega) (by omega) (by simp; omega)
    refine ⟨r, p, by omega, fun k hk => ?_⟩
    obtain ⟨j, rfl⟩ : ∃ m, k = m + 1 := ⟨k - 1, by omega⟩
    have hc : slices_Clone_int_int.f V = some V := by unfold slices_Clone_int_int.f; rw [if_pos (by omega)]
    obtain ⟨g1, g2⟩ := g j (by omega)
    unfold spec_ActRun.f impl_ActRun.f
    rw [spec_Act_eq l _ (by omega) hl hw, impl_Act_eq l _ (by omega) hl, h1]; simp only [Option.bind_some, if_true]
    rw [spec_Val_eq V _ (by omega) (by omega), impl_Val_eq, h2]; simp only [Option.bind_some, if_true]
    rw [spec_Arg_eq R _ (by omega) (by omega), impl_Arg_eq, h3]
    simp only [Option.bind_some, spec_ActRun.j0, impl_ActRun.j0, Bool.not_true, Bool.false_eq_true, if_false, hc, List.nil_append]
    rw [if_pos (by simp; omega)]
    exact ⟨g1, g2⟩
  · refine ⟨(0, [], []), by simp, by simp, fun k hk => ?_⟩
    obtain ⟨j, rfl⟩ : ∃ m, k = m + 1 := ⟨k - 1, by omega⟩
    have no : ∀ b : Bool, b = true → spec_ActRun.j0 (j + 1) l V R b = some (0, [], []) ∧ impl_ActRun.j0 (j + 1) l V R b = some (0, [], []) := by intro b hb; subst hb; simp [spec_ActRun.j0, impl_ActRun.j0]
    unfold spec_ActRun.f impl_ActRun.f
    rw [spec_Act_eq l _ (by omega) hl hw, impl_Act_eq l _ (by omega) hl]; simp only [Option.bind_some]
    cases h1 : actB l with
    | false => simp only [Bool.false_eq_true, if_false]; exact no _ rfl
    | true =>
      simp only [if_true]
      rw [spec_Val_eq V _ (by omega) (by omega), impl_Val_eq]; simp only [Option.bind_some]
      cases h2 : okB V 3 10000 with
      | false => simp only [Bool.false_eq_true, if_false]; exact no _ rfl
      | true =>
        simp only [if_true]
        rw [spec_Arg_eq R _ (by omega) (by omega), impl_Arg_eq]; simp only [Option.bind_some]
        cases h3 : okB R 2 9 with
        | false => exact no _ rfl
        | true => exact absurd (by rw [h1, h2, h3]; rfl) hp

theorem totA_bd : ∀ (l : List S48), (∀ x ∈ l, (x.f3.f0.length : Int) ≤ 1048576 ∧ (x.f3.f1.length : Int) ≤ 1048576) → totA l ≤ (l.length : Int) * 2097156
  | [], _ => by simp [totA]
  | x :: l, h => by
    have h1 := h x (by simp)
    have h2 := totA_bd l (fun y hy => h y (by simp [hy]))
    simp only [totA, List.length_cons]
    omega

theorem FnExactActRun : laws_FnExactActRun.Pure := by
  intro l V R hl hV hR
  obtain ⟨k, hk⟩ : ∃ k : Nat, 6000000 < k := ⟨6000001, by omega⟩
  refine ⟨k + 3, ?_⟩
  unfold laws_FnExactActRun.f
  by_cases h8 : (V.length : Int) > 1048576
  · rw [if_pos h8]
  rw [if_neg h8]
  by_cases h9 : (R.length : Int) > 1048576
  · rw [if_pos h9]
  rw [if_neg h9]
  obtain ⟨u, e2, g⟩ := sz_sLine l (k + 3) 1048576 (by omega) (by omega) (by omega) hl.1 (fun x hx => ⟨(hl.2 x hx).2.2.2.1.1, (hl.2 x hx).2.2.2.2.1.1⟩)
  rw [e2]; simp only [Option.bind_some, if_true, bne_self_eq_false, Bool.false_eq_true, if_false]
  rcases g with g | ⟨g1, g2, g3, g4⟩
  · rw [if_pos g]
  have g5 := cvsLine l g4
  have g6 : ((l.map cvLine).length : Int) ≤ 1048576 := by rw [List.length_map]; exact g3
  have tol := fun (j : Nat) (hj : 6000000 < j) => to_sLine l j (by omega) g3 g4
  have eql := fun (j : Nat) (hj : 6000000 < j) => eq_sLine (l.map cvLine) j (by omega) g6 g5
  have b0 := totA_nn (l.map cvLine)
  have b1 := totA_bd _ g5
  obtain ⟨r, hx, hy, hrun⟩ := run_eq (l.map cvLine) V R g6 g5 (by omega) (by omega)
  have mk : laws_markActLineS.f (l.map cvLine) 1 = some (1 + totA (l.map cvLine)) := by
    unfold laws_markActLineS.f
    rw [if_pos ⟨by omega, by omega⟩]
  obtain ⟨c, X, Y⟩ := r
  simp only at hx hy
  have eqs : ∀ j : Nat, 6000000 < j → laws_eqResResult.f j c X c X = some true := fun j hj => by
    unfold laws_eqResResult.f
    rw [if_pos rfl, eq_int X j (by omega) (by omega)]; rfl
  rw [if_neg (by omega), tol _ (by omega)]; simp only [Option.bind_some, if_true, bne_self_eq_false, Bool.false_eq_true, if_false]
  rw [to_int V _ (by omega) (by omega)]; simp only [Option.bind_some, if_true, bne_self_eq_false, Bool.false_eq_true, if_false]
  rw [to_int R _ (by omega) (by omega)]; simp only [Option.bind_some, if_true, bne_self_eq_false, Bool.false_eq_true, if_false]
  rw [(hrun _ (by omega)).1]; simp only [Option.bind_some, if_true, bne_self_eq_false, Bool.false_eq_true, if_false]
  rw [(hrun _ (by omega)).2]; simp only [Option.bind_some, if_true, bne_self_eq_false, Bool.false_eq_true, if_false]
  rw [eqs _ (by omega)]; simp only [Option.bind_some, if_true, bne_self_eq_false, Bool.false_eq_true, if_false]
  rw [eq_int Y _ (by omega) (by omega)]; simp only [Option.bind_some, if_true, bne_self_eq_false, Bool.false_eq_true, if_false]
  simp only [laws_FnExactActRun.j0, Bool.not_true, Bool.false_eq_true, if_false]
  rw [tol _ (by omega)]; simp only [Option.bind_some, if_true, bne_self_eq_false, Bool.false_eq_true, if_false]
  rw [eql _ (by omega)]; simp only [Option.bind_some, if_true, bne_self_eq_false, Bool.false_eq_true, if_false]
  rw [to_int V _ (by omega) (by omega)]; simp only [Option.bind_some, if_true, bne_self_eq_false, Bool.false_eq_true, if_false]
  rw [eq_int V _ (by omega) (by omega)]; simp only [Option.bind_some, if_true, bne_self_eq_false, Bool.false_eq_true, if_false]
  rw [to_int R _ (by omega) (by omega)]; simp only [Option.bind_some, if_true, bne_self_eq_false, Bool.false_eq_true, if_false]
  rw [eq_int R _ (by omega) (by omega)]; simp only [Option.bind_some, if_true, bne_self_eq_false, Bool.false_eq_true, if_false]
  rw [mk]; simp only [Option.bind_some, if_true, bne_self_eq_false, Bool.false_eq_true, if_false]
  rw [mark_int V _ _ (by omega) (by omega) (by omega) (by omega)]; simp only [Option.bind_some, if_true, bne_self_eq_false, Bool.false_eq_true, if_false]
  rw [mark_int R _ _ (by omega) (by omega) (by omega) (by omega)]; simp only [Option.bind_some, if_true, bne_self_eq_false, Bool.false_eq_true, if_false]
  rw [if_neg (by omega), eqs _ (by omega)]; simp only [Option.bind_some, if_true, bne_self_eq_false, Bool.false_eq_true, if_false]
  rw [eq_int Y _ (by omega) (by omega)]; simp only [Option.bind_some, if_true, bne_self_eq_false, Bool.false_eq_true, if_false]
  simp only [laws_FnExactActRun.j1, Bool.not_true, Bool.false_eq_true, if_false]
  unfold laws_markResResult.f laws_heldResResult.f
  rw [mark_int X 1 _ (by omega) (by omega) (by omega) (by omega)]; simp only [Option.bind_some, if_true, bne_self_eq_false, Bool.false_eq_true, if_false]
  rw [mark_int Y _ _ (by omega) (by omega) (by omega) (by omega)]; simp only [Option.bind_some, if_true, bne_self_eq_false, Bool.false_eq_true, if_false]
  rw [held_int X.length 1 _ (by omega) (by omega) (by omega) (by omega)]; simp only [Option.bind_some, if_true, bne_self_eq_false, Bool.false_eq_true, if_false]
  rw [if_neg (by omega)]; simp only [Option.bind_some, if_true, bne_self_eq_false, Bool.false_eq_true, if_false]
  rw [if_neg (by omega), held_int Y.length _ _ (by omega) (by omega) (by omega) (by omega)]; simp only [Option.bind_some, if_true, bne_self_eq_false, Bool.false_eq_true, if_false]
  rw [if_neg (by omega), tol _ (by omega)]; simp only [Option.bind_some, if_true, bne_self_eq_false, Bool.false_eq_true, if_false]
  rw [to_int V _ (by omega) (by omega)]; simp only [Option.bind_some, if_true, bne_self_eq_false, Bool.false_eq_true, if_false]
  rw [to_int R _ (by omega) (by omega)]; simp only [Option.bind_some, if_true, bne_self_eq_false, Bool.false_eq_true, if_false]
  rw [(hrun _ (by omega)).2]; simp only [Option.bind_some, if_true, bne_self_eq_false, Bool.false_eq_true, if_false]
  rw [eqs _ (by omega)]; simp only [Option.bind_some, if_true, bne_self_eq_false, Bool.false_eq_true, if_false]
  rw [eq_int Y _ (by omega) (by omega)]; simp only [Option.bind_some, if_true, bne_self_eq_false, Bool.false_eq_true, if_false]
  simp only [laws_FnExactActRun.j2, Bool.not_true, Bool.false_eq_true, if_false]
  unfold laws_heldResResult.f
  rw [held_int X.length 1 _ (by omega) (by omega) (by omega) (by omega)]; simp only [Option.bind_some, if_true, bne_self_eq_false, Bool.false_eq_true, if_false]
  rw [if_neg (by omega)]; simp only [Option.bind_some, if_true, bne_self_eq_false, Bool.false_eq_true, if_false]
  rw [if_neg (by omega), held_int Y.length _ _ (by omega) (by omega) (by omega) (by omega)]; simp only [Option.bind_some, if_true, bne_self_eq_false, Bool.false_eq_true, if_false]
  rw [if_neg (by omega)]

end Go.Proofs.Ytpmkbblibingiaa.Pure
