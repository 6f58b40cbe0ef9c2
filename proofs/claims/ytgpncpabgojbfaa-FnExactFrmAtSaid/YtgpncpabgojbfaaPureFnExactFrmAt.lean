/- The plain law FnExactFrmAt: what the printed functions compute answers as the statement says. -/
import Derived.Test.YtgpncpabgojbfaaQFnExactFrmAtx3
import Derived.OpenShut
set_option linter.unusedVariables false
set_option linter.unusedSimpArgs false
namespace Go.Proofs.Ytgpncpabgojbfaa.Pure
open Go.RowKit Go.Proofs.Ytgpncpabgojbfaa.QFnExactFrmAt Go.Proofs.YtgpncpabgojbfaaW.PrintWords Go.Proofs.YtgpncpabgojbfaaW.PrintLast Go.Proofs.Ytgpncpabgojbfaa.HWords

theorem bd64 {x : Int} (h : (Lit.int .i64 x).wf = true) : -9223372036854775808 ≤ x ∧ x ≤ 9223372036854775807 := bounds_i64 h
theorem wrap_id {x : Int} (h0 : -9223372036854775808 ≤ x) (h1 : x ≤ 9223372036854775807) : wrap64 x = x := by unfold wrap64; omega
theorem wrap_l (x y : Int) : wrap64 (wrap64 x + y) = wrap64 (x + y) := by unfold wrap64; omega
theorem wrap_r (x y : Int) : wrap64 (x + wrap64 y) = wrap64 (x + y) := by unfold wrap64; omega
theorem wrap_ll (x y z : Int) : wrap64 (wrap64 x + y + z) = wrap64 (x + y + z) := by unfold wrap64; omega
theorem wrap_lr (x y z : Int) : wrap64 (x + wrap64 y + z) = wrap64 (x + y + z) := by unfold wrap64; omega
theorem getD_at (l : List Int) (i : Nat) (h : i < l.length) : rd l (i : Int) = l[i] := by
  unfold rd
  rw [show ((i : Int)).toNat = i from by omega, List.getD_eq_getElem?_getD, List.getElem?_eq_getElem h]
  rfl
/-- The plain 'within bounds'. -/
def ibB (n lo hi : Int) : Bool := decide (lo ≤ n) && decide (n ≤ hi)
/-- As many as must be, each within a bound. -/
def okB (l : List Int) (n m : Int) : Bool := decide ((l.length : Int) = n) && l.all (fun x => ibB x (wrap64 (-m)) m)
theorem ibB_iff {n lo hi : Int} : ibB n lo hi = true ↔ lo ≤ n ∧ n ≤ hi := by unfold ibB; simp
theorem okB_iff {l : List Int} {n m : Int} : okB l n m = true ↔ (l.length : Int) = n ∧ ∀ x ∈ l, wrap64 (-m) ≤ x ∧ x ≤ m := by
  unfold okB ibB; simp

theorem sz_int (l : List Int) (n : Int) (h0 : 0 ≤ n) (h1 : n ≤ 1048576) (hl : l.length ≤ 9223372036854775807) :
    ∃ t, laws_szIntS.f l n = some t ∧ (t < 0 ∨ (0 ≤ t ∧ t + l.length = n)) := by
  unfold laws_szIntS.f
  have e : wrap64 (n - (l.length : Int)) = n - (l.length : Int) := wrap_id (by omega) (by omega)
  rw [e]
  by_cases h : n - (l.length : Int) < 0
  · rw [if_pos h]; exact ⟨_, rfl, .inl (by decide)⟩
  · rw [if_neg h]; exact ⟨_, rfl, .inr ⟨by omega, by omega⟩⟩

theorem sz_frm (C D : List Int) (K : Int) (n : Int) (h0 : 0 ≤ n) (h1 : n ≤ 1048576) (hc : C.length ≤ 9223372036854775807) (hd : D.length ≤ 9223372036854775807) :
    ∃ t, laws_szFrmForm.f C D K n = some t ∧ (t < 0 ∨ (0 ≤ t ∧ t + C.length + D.length = n)) := by
  unfold laws_szFrmForm.f
  obtain ⟨t, e, h⟩ := sz_int C n h0 h1 hc
  rw [e]; simp only [Option.bind_some, if_true, bne_self_eq_false, Bool.false_eq_true, if_false]
  rcases h with h | ⟨ha, hb⟩
  · rw [if_pos h]; exact ⟨_, rfl, .inl (by decide)⟩
  · rw [if_neg (by omega)]
    obtain ⟨u, e2, h2⟩ := sz_int D t ha (by omega) hd
    rw [e2]; simp only [Option.bind_some, if_true, bne_self_eq_false, Bool.false_eq_true, if_false]
    rcases h2 with h2 | ⟨hc2, hd2⟩
    · rw [if_pos h2]; exact ⟨_, rfl, .inl (by decide)⟩
    · rw [if_neg (by omega)]; exact ⟨_, rfl, .inr ⟨by omega, by omega⟩⟩

theorem set_take (l : List Int) (i : Nat) (h : i < l.length) :
    (l.take i ++ List.replicate (l.length - i) (0 : Int)).set i l[i] = l.take (i + 1) ++ List.replicate (l.length - (i + 1)) 0 := by
  rw [List.set_append_right _ _ (by rw [List.length_take]; omega), List.length_take, Nat.min_eq_left (by omega), Nat.sub_self]
  obtain ⟨m, hm⟩ : ∃ m, l.length - i = m + 1 := ⟨l.length - i - 1, by omega⟩
  rw [hm, List.replicate_succ, List.set_cons_zero, show l.length - (i + 1) = m from by omega, List.take_succ_eq_append_getElem h, List.append_assoc]
  rfl
theorem to_loop (l : List Int) (hl : l.length ≤ 1048576) (d : Nat) : ∀ (k i : Nat), i + d = l.length → d < k →
    laws_toIntS.l0 k l (l.take i ++ List.replicate (l.length - i) 0) (i : Int) = some l := by
  induction d with
  | zero =>
    intro k i hi hk
    obtain ⟨k, rfl⟩ : ∃ m, k = m + 1 := ⟨k - 1, by omega⟩
    simp only [laws_toIntS.l0]
    rw [if_neg (by omega), show i = l.length from by omega]
    simp
  | succ d ih =>
    intro k i hi hk
    obtain ⟨k, rfl⟩ : ∃ m, k = m + 1 := ⟨k - 1, by omega⟩
    have hlt : i < l.length := by omega
    simp only [laws_toIntS.l0]
    have hlen : (l.take i ++ List.replicate (l.length - i) (0 : Int)).length = l.length := by simp; omega
    rw [if_pos (by omega), if_pos (by omega), if_pos (by rw [hlen]; omega), getD_at l i hlt, show ((i : Int)).toNat = i from by omega, set_take l i hlt,
      wrap_id (by omega) (by omega), show (i : Int) + 1 = ((i + 1 : Nat) : Int) from by omega]
    exact ih k (i + 1) (by omega) (by omega)
theorem to_int (l : List Int) (k : Nat) (hk : l.length < k) (hl : l.length ≤ 1048576) : laws_toIntS.f k l = some l := by
  unfold laws_toIntS.f
  rw [if_pos (by omega), if_pos (by omega), show ((l.length : Int)).toNat = l.length from by omega]
  have := to_loop l hl l.length k 0 (by omega) hk
  simpa using this

theorem to_frm (C D : List Int) (K : Int) (k : Nat) (hc : C.length < k) (hd : D.length < k) (hc2 : C.length ≤ 1048576) (hd2 : D.length ≤ 1048576) : laws_toFrmForm.f k C D K = some (C, D, K) := by
  unfold laws_toFrmForm.f
  rw [to_int C k hc hc2]; simp only [Option.bind_some, if_true, bne_self_eq_false, Bool.false_eq_true, if_false]
  rw [to_int D k hd hd2]; simp only [Option.bind_some, if_true, bne_self_eq_false, Bool.false_eq_true, if_false]

theorem eq_loop (l : List Int) (hl : l.length ≤ 1048576) (d : Nat) : ∀ (k i : Nat), i + d = l.length → d < k → laws_eqIntS.l0 k l l (i : Int) = some true := by
  induction d with
  | zero =>
    intro k i hi hk
    obtain ⟨k, rfl⟩ : ∃ m, k = m + 1 := ⟨k - 1, by omega⟩
    simp only [laws_eqIntS.l0]
    rw [if_neg (by omega)]
  | succ d ih =>
    intro k i hi hk
    obtain ⟨k, rfl⟩ : ∃ m, k = m + 1 := ⟨k - 1, by omega⟩
    simp only [laws_eqIntS.l0, if_true]
    rw [if_pos (by omega), if_pos (by omega), if_pos (by omega), wrap_id (by omega) (by omega), show (i : Int) + 1 = ((i + 1 : Nat) : Int) from by omega]
    exact ih k (i + 1) (by omega) (by omega)
theorem eq_int (l : List Int) (k : Nat) (hk : l.length < k) (hl : l.length ≤ 1048576) : laws_eqIntS.f k l l = some true := by
  unfold laws_eqIntS.f
  rw [if_pos rfl]
  exact eq_loop l hl l.length k 0 (by omega) hk

theorem eq_frm (C D : List Int) (K : Int) (k : Nat) (hc : C.length < k) (hd : D.length < k) (hc2 : C.length ≤ 1048576) (hd2 : D.length ≤ 1048576) : laws_eqFrmForm.f k C D K C D K = some true := by
  unfold laws_eqFrmForm.f
  rw [eq_int C k hc hc2]; simp only [Option.bind_some, if_true, bne_self_eq_false, Bool.false_eq_true, if_false]
  rw [eq_int D k hd hd2]; simp only [Option.bind_some, if_true, bne_self_eq_false, Bool.false_eq_true, if_false]

theorem l1In_eq (n lo hi : Int) : spec_l1In.f n lo hi = some (ibB n lo hi) := by
  unfold spec_l1In.f ibB
  by_cases h : n ≥ lo
  · rw [if_pos h]; simp [h]
  · rw [if_neg h]; simp [h]

theorem in_eq (n lo hi : Int) : impl_in.f n lo hi = some (ibB n lo hi) := by
  unfold impl_in.f ibB
  by_cases h : n ≥ lo
  · rw [if_pos h]; simp [h]
  · rw [if_neg h]; simp [h]

theorem within_eq (l : List Int) (n m : Int) : impl_within.f l n m = some (okB l n m) := by
  unfold impl_within.f okB
  rw [List.all_eq_not_any_not]
  rfl

theorem all_loop (l : List Int) (m : Int) (hl : l.length ≤ 1048576) (d : Nat) : ∀ (k i : Nat), i + d = l.length → d < k → spec_l1All.l0 k l m (i : Int) = some ((l.drop i).all fun x => ibB x (wrap64 (-m)) m) := by
  induction d with
  | zero =>
    intro k i hi hk
    obtain ⟨k, rfl⟩ : ∃ m, k = m + 1 := ⟨k - 1, by omega⟩
    simp only [spec_l1All.l0]
    rw [if_neg (by omega), List.drop_of_length_le (by omega)]
    rfl
  | succ d ih =>
    intro k i hi hk
    obtain ⟨k, rfl⟩ : ∃ m, k = m + 1 := ⟨k - 1, by omega⟩
    have hlt : i < l.length := by omega
    simp only [spec_l1All.l0]
    rw [if_pos (by omega), if_pos (by omega), l1In_eq, getD_at l i hlt, List.drop_eq_getElem_cons hlt, List.all_cons]
    simp only [Option.bind_some, if_true, bne_self_eq_false, Bool.false_eq_true, if_false]
    cases ibB l[i] (wrap64 (-m)) m with
    | false => rfl
    | true =>
      rw [if_pos rfl, wrap_id (by omega) (by omega), show (i : Int) + 1 = ((i + 1 : Nat) : Int) from by omega, ih k (i + 1) (by omega) (by omega)]
      rfl
theorem l1All_eq (l : List Int) (n m : Int) (k : Nat) (hk : l.length < k) (hl : l.length ≤ 1048576) : spec_l1All.f k l n m = some (okB l n m) := by
  unfold spec_l1All.f okB
  by_cases h : (l.length : Int) = n
  · rw [if_pos h, decide_eq_true h, Bool.true_and]
    have := all_loop l m hl l.length k 0 (by omega) hk
    simpa using this
  · rw [if_neg h, decide_eq_false h, Bool.false_and]

theorem spec_Val_eq (l : List Int) (k : Nat) (hk : l.length < k) (hl : l.length ≤ 1048576) : spec_ValOk.f k l = some (okB l 3 10000) := by
  unfold spec_ValOk.f
  rw [l1All_eq l _ _ k hk hl]; rfl

theorem impl_Val_eq (l : List Int) : impl_ValOk.f l = some (okB l 3 10000) := by
  unfold impl_ValOk.f
  rw [within_eq]; rfl

theorem spec_Arg_eq (l : List Int) (k : Nat) (hk : l.length < k) (hl : l.length ≤ 1048576) : spec_ArgOk.f k l = some (okB l 2 9) := by
  unfold spec_ArgOk.f
  rw [l1All_eq l _ _ k hk hl]; rfl

theorem impl_Arg_eq (l : List Int) : impl_ArgOk.f l = some (okB l 2 9) := by
  unfold impl_ArgOk.f
  rw [within_eq]; rfl

def frmB (C D : List Int) (K : Int) : Bool := okB C 3 10000000 && (okB D 2 10000000 && ibB K (-10000000) 10000000)

theorem spec_Frm_eq (C D : List Int) (K : Int) (k : Nat) (hc : C.length < k) (hd : D.length < k) (hc2 : C.length ≤ 1048576) (hd2 : D.length ≤ 1048576) : spec_FrmOk.f k C D K = some (frmB C D K) := by
  unfold spec_FrmOk.f frmB
  rw [l1All_eq C _ _ k hc hc2]; simp only [Option.bind_some, if_true, bne_self_eq_false, Bool.false_eq_true, if_false]
  cases okB C 3 10000000 with
  | false => rfl
  | true =>
    rw [if_pos rfl, l1All_eq D _ _ k hd hd2]; simp only [Option.bind_some, if_true, bne_self_eq_false, Bool.false_eq_true, if_false]
    cases okB D 2 10000000 with
    | false => rfl
    | true => rw [if_pos rfl, l1In_eq]; rfl

theorem impl_Frm_eq (C D : List Int) (K : Int) : impl_FrmOk.f C D K = some (frmB C D K) := by
  unfold impl_FrmOk.f frmB
  rw [within_eq]; simp only [Option.bind_some, if_true, bne_self_eq_false, Bool.false_eq_true, if_false]
  cases okB C 3 10000000 with
  | false => rfl
  | true =>
    rw [if_pos rfl, within_eq]; simp only [Option.bind_some, if_true, bne_self_eq_false, Bool.false_eq_true, if_false]
    cases okB D 2 10000000 with
    | false => rfl
    | true => rw [if_pos rfl, in_eq]; rfl

/-- The form that is one pot, or nothing. -/
def potF (v : Int) : List Int × List Int × Int := if v = 0 then ([1, 0, 0], [0, 0], 0) else if v = 1 then ([0, 1, 0], [0, 0], 0) else if v = 2 then ([0, 0, 1], [0, 0], 0) else ([], [], 0)
theorem potF_len (v : Int) : (potF v).1.length ≤ 3 ∧ (potF v).2.1.length ≤ 2 := by
  unfold potF; repeat' split
  all_goals simp

/-- What a form of three and two is, as the reference sums it. -/
def atV (c0 c1 c2 d0 d1 K v0 v1 v2 a0 a1 : Int) : Int := wrap64 (K + c0 * v0 + c1 * v1 + c2 * v2 + d0 * a0 + d1 * a1)
theorem l1At_eq (c0 c1 c2 d0 d1 K v0 v1 v2 a0 a1 : Int) (k : Nat) (hK : wrap64 K = K) : spec_l1At.f (k + 8) [c0, c1, c2] [d0, d1] K [v0, v1, v2] [a0, a1] = some (atV c0 c1 c2 d0 d1 K v0 v1 v2 a0 a1) := by
  have w1 : wrap64 (0 + 1) = 1 := by unfold wrap64; omega
  have w2 : wrap64 (1 + 1) = 2 := by unfold wrap64; omega
  have w3 : wrap64 (2 + 1) = 3 := by unfold wrap64; omega
  unfold spec_l1At.f
  simp only [spec_l1At.l0, spec_l1At.l1, w1, w2, w3]
  simp [rd, atV, wrap_l, wrap_r]

theorem dot3V (c0 c1 c2 v0 v1 v2 : Int) (k : Nat) : impl_dot.f (k + 4) [c0, c1, c2] [v0, v1, v2] = some (wrap64 (c0 * v0 + c1 * v1 + c2 * v2)) := by
  have w1 : wrap64 (0 + 1) = 1 := by unfold wrap64; omega
  have w2 : wrap64 (1 + 1) = 2 := by unfold wrap64; omega
  have w3 : wrap64 (2 + 1) = 3 := by unfold wrap64; omega
  unfold impl_dot.f
  simp only [impl_dot.l0, w1, w2, w3]
  simp [rd, wrap_l, wrap_r]
theorem dot2V (c0 c1 v0 v1 : Int) (k : Nat) : impl_dot.f (k + 3) [c0, c1] [v0, v1] = some (wrap64 (c0 * v0 + c1 * v1)) := by
  have w1 : wrap64 (0 + 1) = 1 := by unfold wrap64; omega
  have w2 : wrap64 (1 + 1) = 2 := by unfold wrap64; omega
  unfold impl_dot.f
  simp only [impl_dot.l0, w1, w2]
  simp [rd, wrap_l, wrap_r]
theorem at_eq (c0 c1 c2 d0 d1 K v0 v1 v2 a0 a1 : Int) (k : Nat) : impl_FrmForm_at.f (k + 4) [c0, c1, c2] [d0, d1] K [v0, v1, v2] [a0, a1] = some (atV c0 c1 c2 d0 d1 K v0 v1 v2 a0 a1) := by
  unfold impl_FrmForm_at.f
  rw [dot3V, show k + 4 = (k + 1) + 3 from rfl, dot2V]
  simp only [Option.bind_some, atV, wrap_l, wrap_r, wrap_ll, wrap_lr]
  have e : ∀ x y z : Int, x = y → some (wrap64 x) = some (wrap64 y) := fun x y _ h => by rw [h]
  refine e _ _ 0 ?_
  omega

theorem len3 {l : List Int} (h : (l.length : Int) = 3) : ∃ a b c, l = [a, b, c] := by
  match l, h with
  | [a, b, c], _ => exact ⟨a, b, c, rfl⟩
  | [], h => simp at h
  | [_], h => simp at h
  | [_, _], h => simp at h
  | _ :: _ :: _ :: _ :: _, h => simp at h; omega
theorem len2 {l : List Int} (h : (l.length : Int) = 2) : ∃ a b, l = [a, b] := by
  match l, h with
  | [a, b], _ => exact ⟨a, b, rfl⟩
  | [], h => simp at h
  | [_], h => simp at h
  | _ :: _ :: _ :: _, h => simp at h; omega
theorem okB_len {l : List Int} {n m : Int} (h : okB l n m = true) : (l.length : Int) = n := (okB_iff.mp h).1
theorem frmB_len {C D : List Int} {K : Int} (h : frmB C D K = true) : (C.length : Int) = 3 ∧ (D.length : Int) = 2 := by
  unfold frmB at h
  simp only [Bool.and_eq_true] at h
  exact ⟨okB_len h.1, okB_len h.2.1⟩

theorem inB_ib (n lo hi : Int) : inB n lo hi = ibB n lo hi := rfl

theorem set_takeG {α : Type} (z : α) (l : List α) (i : Nat) (h : i < l.length) :
    (l.take i ++ List.replicate (l.length - i) z).set i l[i] = l.take (i + 1) ++ List.replicate (l.length - (i + 1)) z := by
  rw [List.set_append_right _ _ (by rw [List.length_take]; omega), List.length_take, Nat.min_eq_left (by omega), Nat.sub_self]
  obtain ⟨m, hm⟩ : ∃ m, l.length - i = m + 1 := ⟨l.length - i - 1, by omega⟩
  rw [hm, List.replicate_succ, List.set_cons_zero, show l.length - (i + 1) = m from by omega, List.take_succ_eq_append_getElem h, List.append_assoc]
  rfl
theorem getDG {α : Type} (z : α) (l : List α) (i : Nat) (h : i < l.length) : l.getD ((i : Int)).toNat z = l[i] := by
  rw [show ((i : Int)).toNat = i from by omega, List.getD_eq_getElem?_getD, List.getElem?_eq_getElem h]
  rfl

def trtB (B G : List Int) : Bool := okB B 3 10000 && (ibB (G.length : Int) 1 3 && G.all fun x => ibB x 0 50)

/-- So many times a form, or nothing. -/
def timesF (C D : List Int) (K n : Int) : List Int × List Int × Int :=
  if frmB C D K && ibB n (-10000000) 10000000 then
    (let x := C.map fun c => wrap64 (wrap64 (n * c)); let y := D.map fun c => wrap64 (wrap64 (n * c)); let z := wrap64 (wrap64 (n * K))
     if frmB x y z then (x, y, z) else ([], [], 0))
  else ([], [], 0)
theorem timesF_len (C D : List Int) (K n : Int) : (timesF C D K n).1.length ≤ 3 ∧ (timesF C D K n).2.1.length ≤ 2 := by
  unfold timesF
  split
  · rename_i h
    simp only [Bool.and_eq_true] at h
    obtain ⟨h1, h2⟩ := frmB_len h.1
    simp only
    split
    · simp only [List.length_map]; omega
    · simp
  · simp

theorem FnExactFrmAt : laws_FnExactFrmAt.Pure := by
  intro C D K V A hC hD hK hV hA
  obtain ⟨k, hk⟩ : ∃ k : Nat, 4000000 < k := ⟨4000001, by omega⟩
  refine ⟨k + 8, ?_⟩
  unfold laws_FnExactFrmAt.f
  by_cases h0 : (V.length : Int) > 1048576
  · rw [if_pos h0]
  rw [if_neg h0]
  by_cases h1 : (A.length : Int) > 1048576
  · rw [if_pos h1]
  rw [if_neg h1]
  obtain ⟨t, e, h⟩ := sz_frm C D K 1048576 (by omega) (by omega) hC.1 hD.1
  rw [e]; simp only [Option.bind_some, if_true, bne_self_eq_false, Bool.false_eq_true, if_false]
  rcases h with h | ⟨h1, h2⟩
  · rw [if_pos h]
  · obtain ⟨r, b, hs, hi⟩ : ∃ (r : Int) (b : Bool), spec_FrmAt.f (k + 8) C D K V A = some (r, b) ∧ impl_FrmAt.f (k + 8) C D K V A = some (r, b) := by
      unfold spec_FrmAt.f impl_FrmAt.f
      rw [spec_Frm_eq C D K _ (by omega) (by omega) (by omega) (by omega), impl_Frm_eq]; simp only [Option.bind_some, if_true, bne_self_eq_false, Bool.false_eq_true, if_false]
      cases hb : frmB C D K with
      | false => exact ⟨0, false, rfl, rfl⟩
      | true =>
        rw [if_pos rfl, if_pos rfl, spec_Val_eq V _ (by omega) (by omega), impl_Val_eq]; simp only [Option.bind_some, if_true, bne_self_eq_false, Bool.false_eq_true, if_false]
        cases hv : okB V 3 10000 with
        | false => exact ⟨0, false, rfl, rfl⟩
        | true =>
          rw [if_pos rfl, if_pos rfl, spec_Arg_eq A _ (by omega) (by omega), impl_Arg_eq]; simp only [Option.bind_some, if_true, bne_self_eq_false, Bool.false_eq_true, if_false]
          cases ha : okB A 2 9 with
          | false => exact ⟨0, false, rfl, rfl⟩
          | true =>
            obtain ⟨q1, q2⟩ := frmB_len hb
            obtain ⟨c0, c1, c2, rfl⟩ := len3 q1
            obtain ⟨d0, d1, rfl⟩ := len2 q2
            obtain ⟨v0, v1, v2, rfl⟩ := len3 (okB_len hv)
            obtain ⟨a0, a1, rfl⟩ := len2 (okB_len ha)
            obtain ⟨k1, k2⟩ := bd64 hK
            rw [if_pos rfl, if_pos rfl, l1At_eq c0 c1 c2 d0 d1 K v0 v1 v2 a0 a1 k (wrap_id k1 k2), show k + 8 = (k + 4) + 4 from rfl, at_eq]
            exact ⟨_, true, rfl, rfl⟩
    rw [if_neg (by omega), to_frm C D K _ (by omega) (by omega) (by omega) (by omega)]; simp only [Option.bind_some, if_true, bne_self_eq_false, Bool.false_eq_true, if_false]
    rw [to_int V _ (by omega) (by omega)]; simp only [Option.bind_some, if_true, bne_self_eq_false, Bool.false_eq_true, if_false]
    rw [to_int A _ (by omega) (by omega)]; simp only [Option.bind_some, if_true, bne_self_eq_false, Bool.false_eq_true, if_false]
    rw [hs]; simp only [Option.bind_some, if_true, bne_self_eq_false, Bool.false_eq_true, if_false]
    rw [hi]; simp only [Option.bind_some, if_true, bne_self_eq_false, Bool.false_eq_true, if_false]
    simp only [laws_FnExactFrmAt.j0, Bool.false_eq_true, if_false]
    rw [to_frm C D K _ (by omega) (by omega) (by omega) (by omega)]; simp only [Option.bind_some, if_true, bne_self_eq_false, Bool.false_eq_true, if_false]
    rw [eq_frm C D K _ (by omega) (by omega) (by omega) (by omega)]; simp only [Option.bind_some, if_true, bne_self_eq_false, Bool.false_eq_true, if_false]
    rw [to_int V _ (by omega) (by omega)]; simp only [Option.bind_some, if_true, bne_self_eq_false, Bool.false_eq_true, if_false]
    rw [eq_int V _ (by omega) (by omega)]; simp only [Option.bind_some, if_true, bne_self_eq_false, Bool.false_eq_true, if_false]
    rw [to_int A _ (by omega) (by omega)]; simp only [Option.bind_some, if_true, bne_self_eq_false, Bool.false_eq_true, if_false]
    rw [eq_int A _ (by omega) (by omega)]; simp only [Option.bind_some, if_true, bne_self_eq_false, Bool.false_eq_true, if_false]

end Go.Proofs.Ytgpncpabgojbfaa.Pure
