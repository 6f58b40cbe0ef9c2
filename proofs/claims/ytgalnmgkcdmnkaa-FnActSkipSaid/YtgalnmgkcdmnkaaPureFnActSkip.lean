/- The plain law FnActSkip: what the printed functions compute answers as the statement says. -/
import Derived.Test.YtgalnmgkcdmnkaaQFnActSkipx12
import Derived.OpenShut
set_option linter.unusedVariables false
set_option linter.unusedSimpArgs false
namespace Go.Proofs.Ytgalnmgkcdmnkaa.Pure
open Go.RowKit Go.Proofs.Ytgalnmgkcdmnkaa.QFnActSkip Go.Proofs.YtgalnmgkcdmnkaaW.PrintWords Go.Proofs.YtgalnmgkcdmnkaaW.PrintLast Go.Proofs.Ytgalnmgkcdmnkaa.HWords

theorem wrap_id {x : Int} (h0 : -9223372036854775808 ≤ x) (h1 : x ≤ 9223372036854775807) : wrap64 x = x := by unfold wrap64; omega
theorem wrap_l (x y : Int) : wrap64 (wrap64 x + y) = wrap64 (x + y) := by unfold wrap64; omega
theorem wrap_r (x y : Int) : wrap64 (x + wrap64 y) = wrap64 (x + y) := by unfold wrap64; omega
theorem wrap_ll (x y z : Int) : wrap64 (wrap64 x + y + z) = wrap64 (x + y + z) := by unfold wrap64; omega
theorem wrap_lr (x y z : Int) : wrap64 (x + wrap64 y + z) = wrap64 (x + y + z) := by unfold wrap64; omega
theorem getD_at (l : List Int) (i : Nat) (h : i < l.length) : rd l (i : Int) = l[i] := by
 unfold rd
 rw [show ((i : Int)).toNat = i from by omega, List.getD_eq_getElem?_getD, List.getElem?_eq_getElem h]
 rfl
def ibB (n lo hi : Int) : Bool := decide (lo ≤ n) && decide (n ≤ hi)
def okB (l : List Int) (n m : Int) : Bool := decide ((l.length : Int) = n) && l.all (fun x => ibB x (wrap64 (-m)) m)
theorem ibB_iff {n lo hi : Int} : ibB n lo hi = true ↔ lo ≤ n ∧ n ≤ hi := by unfold ibB; simp
theorem okB_iff {l : List Int} {n m : Int} : okB l n m = true ↔ (l.length : Int) = n ∧ ∀ x ∈ l, wrap64 (-m) ≤ x ∧ x ≤ m := by
 unfold okB ibB; simp

theorem l1In_eq (n lo hi : Int) : spec_l1In.f n lo hi = some (ibB n lo hi) := by
 unfold spec_l1In.f ibB
 by_cases h : n ≥ lo
 ·rw [if_pos h]; simp [h]
 ·rw [if_neg h]; simp [h]

theorem in_eq (n lo hi : Int) : impl_in.f n lo hi = some (ibB n lo hi) := by
 unfold impl_in.f ibB
 by_cases h : n ≥ lo
 ·rw [if_pos h]; simp [h]
 ·rw [if_neg h]; simp [h]

theorem within_eq (l : List Int) (n m : Int) : impl_within.f l n m = some (okB l n m) := by
 unfold impl_within.f okB
 rw [List.all_eq_not_any_not]
 rfl

theorem all_loop (l : List Int) (m : Int) (hl : l.length ≤ 1048576) (d : Nat) : ∀ (k i : Nat), i + d = l.length → d < k → spec_l1All.l0 k l m (i : Int) = some ((l.drop i).all fun x => ibB x (wrap64 (-m)) m) := by
 induction d with
 | zero =>
  intro k i hi hk
  obtain ⟨k, rfl⟩ : ∃ m, k = m + 1 := ⟨k - 1, by omega⟩
  simp only [spec_l1All.l0]
  rw [if_neg (by omega), List.drop_of_length_le (by omega)]
  rfl
 | succ d ih =>
  intro k i hi hk
  obtain ⟨k, rfl⟩ : ∃ m, k = m + 1 := ⟨k - 1, by omega⟩
  have hlt : i < l.length := by omega
  simp only [spec_l1All.l0]
  rw [if_pos (by omega), if_pos (by omega), l1In_eq, getD_at l i hlt, List.drop_eq_getElem_cons hlt, List.all_cons]
  simp only [Option.bind_some, if_true, bne_self_eq_false, Bool.false_eq_true, if_false]
  cases ibB l[i] (wrap64 (-m)) m with
  | false => rfl
  | true =>
   rw [if_pos rfl, wrap_id (by omega) (by omega), show (i : Int) + 1 = ((i + 1 : Nat) : Int) from by omega, ih k (i + 1) (by omega) (by omega)]
   rfl
theorem l1All_eq (l : List Int) (n m : Int) (k : Nat) (hk : l.length < k) (hl : l.length ≤ 1048576) : spec_l1All.f k l n m = some (okB l n m) := by
 unfold spec_l1All.f okB
 by_cases h : (l.length : Int) = n
 ·rw [if_pos h, decide_eq_true h, Bool.true_and]
  have := all_loop l m hl l.length k 0 (by omega) hk
  simpa using this
 ·rw [if_neg h, decide_eq_false h, Bool.false_and]

theorem spec_Val_eq (l : List Int) (k : Nat) (hk : l.length < k) (hl : l.length ≤ 1048576) : spec_ValOk.f k l = some (okB l 3 10000) := by
 unfold spec_ValOk.f
 rw [l1All_eq l _ _ k hk hl]; rfl

theorem impl_Val_eq (l : List Int) : impl_ValOk.f l = some (okB l 3 10000) := by
 unfold impl_ValOk.f
 rw [within_eq]; rfl

theorem spec_Arg_eq (l : List Int) (k : Nat) (hk : l.length < k) (hl : l.length ≤ 1048576) : spec_ArgOk.f k l = some (okB l 2 9) := by
 unfold spec_ArgOk.f
 rw [l1All_eq l _ _ k hk hl]; rfl

theorem impl_Arg_eq (l : List Int) : impl_ArgOk.f l = some (okB l 2 9) := by
 unfold impl_ArgOk.f
 rw [within_eq]; rfl

def frmB (C D : List Int) (K : Int) : Bool := okB C 3 10000000 && (okB D 2 10000000 && ibB K (-10000000) 10000000)

theorem impl_Frm_eq (C D : List Int) (K : Int) : impl_FrmOk.f C D K = some (frmB C D K) := by
 unfold impl_FrmOk.f frmB
 rw [within_eq]; simp only [Option.bind_some, if_true, bne_self_eq_false, Bool.false_eq_true, if_false]
 cases okB C 3 10000000 with
 | false => rfl
 | true =>
  rw [if_pos rfl, within_eq]; simp only [Option.bind_some, if_true, bne_self_eq_false, Bool.false_eq_true, if_false]
  cases okB D 2 10000000 with
  | false => rfl
  | true => rw [if_pos rfl, in_eq]; rfl

theorem spec_Zero_eq : spec_FrmZero.f = some ([0, 0, 0], [0, 0], 0) := rfl

theorem impl_Zero_eq : impl_FrmZero.f = some ([0, 0, 0], [0, 0], 0) := rfl

def atV (c0 c1 c2 d0 d1 K v0 v1 v2 a0 a1 : Int) : Int := wrap64 (K + c0 * v0 + c1 * v1 + c2 * v2 + d0 * a0 + d1 * a1)

theorem l1At_eq (c0 c1 c2 d0 d1 K v0 v1 v2 a0 a1 : Int) (k : Nat) (hK : wrap64 K = K) : spec_l1At.f (k + 8) [c0, c1, c2] [d0, d1] K [v0, v1, v2] [a0, a1] = some (atV c0 c1 c2 d0 d1 K v0 v1 v2 a0 a1) := by
 have w1 : wrap64 (0 + 1) = 1 := by unfold wrap64; omega
 have w2 : wrap64 (1 + 1) = 2 := by unfold wrap64; omega
 have w3 : wrap64 (2 + 1) = 3 := by unfold wrap64; omega
 unfold spec_l1At.f
 simp only [spec_l1At.l0, spec_l1At.l1, w1, w2, w3]
 simp [rd, atV, wrap_l, wrap_r]

theorem dot3V (c0 c1 c2 v0 v1 v2 : Int) (k : Nat) : impl_dot.f (k + 4) [c0, c1, c2] [v0, v1, v2] = some (wrap64 (c0 * v0 + c1 * v1 + c2 * v2)) := by
 have w1 : wrap64 (0 + 1) = 1 := by unfold wrap64; omega
 have w2 : wrap64 (1 + 1) = 2 := by unfold wrap64; omega
 have w3 : wrap64 (2 + 1) = 3 := by unfold wrap64; omega
 unfold impl_dot.f
 simp only [impl_dot.l0, w1, w2, w3]
 simp [rd, wrap_l, wrap_r]
theorem dot2V (c0 c1 v0 v1 : Int) (k : Nat) : impl_dot.f (k + 3) [c0, c1] [v0, v1] = some (wrap64 (c0 * v0 + c1 * v1)) := by
 have w1 : wrap64 (0 + 1) = 1 := by unfold wrap64; omega
 have w2 : wrap64 (1 + 1) = 2 := by unfold wrap64; omega
 unfold impl_dot.f
 simp only [impl_dot.l0, w1, w2]
 simp [rd, wrap_l, wrap_r]
theorem at_eq (c0 c1 c2 d0 d1 K v0 v1 v2 a0 a1 : Int) (k : Nat) : impl_FrmForm_at.f (k + 4) [c0, c1, c2] [d0, d1] K [v0, v1, v2] [a0, a1] = some (atV c0 c1 c2 d0 d1 K v0 v1 v2 a0 a1) := by
 unfold impl_FrmForm_at.f
 rw [dot3V, show k + 4 = (k + 1) + 3 from rfl, dot2V]
 simp only [Option.bind_some, atV, wrap_l, wrap_r, wrap_ll, wrap_lr]
 have e : ∀ x y z : Int, x = y → some (wrap64 x) = some (wrap64 y) := fun x y _ h => by rw [h]
 refine e _ _ 0 ?_
 omega

theorem len3 {l : List Int} (h : (l.length : Int) = 3) : ∃ a b c, l = [a, b, c] := by
 match l, h with
 | [a, b, c], _ => exact ⟨a, b, c, rfl⟩
 | [], h => simp at h
 | [_], h => simp at h
 | [_, _], h => simp at h
 | _ :: _ :: _ :: _ :: _, h => simp at h; omega
theorem len2 {l : List Int} (h : (l.length : Int) = 2) : ∃ a b, l = [a, b] := by
 match l, h with
 | [a, b], _ => exact ⟨a, b, rfl⟩
 | [], h => simp at h
 | [_], h => simp at h
 | _ :: _ :: _ :: _, h => simp at h; omega
theorem okB_len {l : List Int} {n m : Int} (h : okB l n m = true) : (l.length : Int) = n := (okB_iff.mp h).1
theorem getDG {α : Type} (z : α) (l : List α) (i : Nat) (h : i < l.length) : l.getD ((i : Int)).toNat z = l[i] := by
 rw [show ((i : Int)).toNat = i from by omega, List.getD_eq_getElem?_getD, List.getElem?_eq_getElem h]
 rfl

def smallB (C D : List Int) (K : Int) : Bool := okB C 3 2 && (okB D 2 2 && ibB K (-20) 20)
def lineB (a b c : Int) (C D : List Int) (K : Int) : Bool :=
 if a = 1 then decide (b = 0) && (ibB c 1 6 && smallB C D K)
 else if a = 2 then ibB b 0 2 && (decide (c = 0) && smallB C D K)
 else if a = 3 then decide (b = 0) && (decide (c = 0) && smallB C D K)
 else if a = 4 then decide (b = 0) && (decide (c = 0) && (decide (C = []) && (decide (D = []) && decide (K = 0))))
 else false

theorem impl_small_eq (C D : List Int) (K : Int) : impl_FrmForm_small.f C D K = some (smallB C D K) := by
 unfold impl_FrmForm_small.f smallB
 rw [within_eq]; simp only [Option.bind_some, if_true, bne_self_eq_false, Bool.false_eq_true, if_false]
 cases okB C 3 2 with
 | false => rfl
 | true =>
  rw [if_pos rfl, within_eq]; simp only [Option.bind_some, if_true, bne_self_eq_false, Bool.false_eq_true, if_false]
  cases okB D 2 2 with
  | false => rfl
  | true => rw [if_pos rfl, in_eq]; rfl
theorem equal_nil (C : List Int) (k : Nat) : slices_Equal_int_int.f (k + 1) C [] = some (decide (C = [])) := by
 unfold slices_Equal_int_int.f
 cases C with
 | nil => rw [if_pos rfl]; simp [slices_Equal_int_int.l0]
 | cons x xs => rw [if_neg (by simp; omega)]; simp
theorem impl_line_eq (a b c : Int) (C D : List Int) (K : Int) (k : Nat) (hk : 0 < k) : impl_ActLine_ok.f k a b c C D K = some (lineB a b c C D K) := by
 obtain ⟨k, rfl⟩ : ∃ m, k = m + 1 := ⟨k - 1, by omega⟩
 unfold impl_ActLine_ok.f lineB
 simp only [impl_small_eq, in_eq, Option.bind_some]
 by_cases h1 : a = 1
 ·rw [if_pos h1, if_pos h1]
  by_cases hb : b = 0
  ·rw [if_pos hb, decide_eq_true hb, Bool.true_and]; cases ibB c 1 6 <;> rfl
  ·rw [if_neg hb, decide_eq_false hb, Bool.false_and]; cases ibB c 1 6 <;> rfl
 rw [if_neg h1, if_neg h1]
 by_cases h2 : a = 2
 ·rw [if_pos h2, if_pos h2]
  by_cases hb : c = 0
  ·rw [if_pos hb, decide_eq_true hb, Bool.true_and]; cases ibB b 0 2 <;> rfl
  ·rw [if_neg hb, decide_eq_false hb, Bool.false_and]; cases ibB b 0 2 <;> rfl
 rw [if_neg h2, if_neg h2]
 by_cases h3 : a = 3
 ·rw [if_pos h3, if_pos h3]
  by_cases hb : b = 0
  ·rw [if_pos hb, decide_eq_true hb, Bool.true_and]
   by_cases hc : c = 0
   ·rw [if_pos hc, decide_eq_true hc, Bool.true_and]
   ·rw [if_neg hc, decide_eq_false hc, Bool.false_and]
  ·rw [if_neg hb, decide_eq_false hb, Bool.false_and]
 rw [if_neg h3, if_neg h3]
 by_cases h4 : a = 4
 ·rw [if_pos h4, if_pos h4]
  by_cases hb : b = 0
  ·rw [if_pos hb, decide_eq_true hb, Bool.true_and]
   by_cases hc : c = 0
   ·rw [if_pos hc, decide_eq_true hc, Bool.true_and]
    unfold impl_FrmForm_same.f
    rw [equal_nil, equal_nil]
    by_cases hK : K = 0
    ·rw [if_pos hK, decide_eq_true hK]; by_cases hC : C = [] <;> by_cases hD : D = [] <;> simp [hC, hD]
    ·rw [if_neg hK, decide_eq_false hK]; by_cases hC : C = [] <;> by_cases hD : D = [] <;> simp [hC, hD]
   ·rw [if_neg hc, decide_eq_false hc, Bool.false_and]
  ·rw [if_neg hb, decide_eq_false hb, Bool.false_and]
 rw [if_neg h4, if_neg h4]

theorem spec_small_eq (C D : List Int) (K : Int) (k : Nat) (hc : C.length < k) (hd : D.length < k) (hc2 : C.length ≤ 1048576) (hd2 : D.length ≤ 1048576) : spec_l2Small.f k C D K = some (smallB C D K) := by
 unfold spec_l2Small.f smallB
 rw [l1All_eq C _ _ k hc hc2]; simp only [Option.bind_some, if_true, bne_self_eq_false, Bool.false_eq_true, if_false]
 cases okB C 3 2 with
 | false => rfl
 | true =>
  rw [if_pos rfl, l1All_eq D _ _ k hd hd2]; simp only [Option.bind_some, if_true, bne_self_eq_false, Bool.false_eq_true, if_false]
  cases okB D 2 2 with
  | false => rfl
  | true => rw [if_pos rfl, l1In_eq]; rfl
theorem spec_line_eq (a b c : Int) (C D : List Int) (K : Int) (k : Nat) (hc : C.length < k) (hd : D.length < k) (hc2 : C.length ≤ 1048576) (hd2 : D.length ≤ 1048576) : spec_l2Line.f k a b c C D K = some (lineB a b c C D K) := by
 unfold spec_l2Line.f lineB
 simp only [spec_small_eq C D K k hc hd hc2 hd2, l1In_eq, Option.bind_some]
 by_cases h1 : a = 1
 ·rw [if_pos h1, if_pos h1]
  by_cases hb : b = 0
  ·rw [if_pos hb, decide_eq_true hb, Bool.true_and]; cases ibB c 1 6 <;> rfl
  ·rw [if_neg hb, decide_eq_false hb, Bool.false_and]
 rw [if_neg h1, if_neg h1]
 by_cases h2 : a = 2
 ·rw [if_pos h2, if_pos h2]
  by_cases hb : c = 0
  ·rw [if_pos hb, decide_eq_true hb, Bool.true_and]; cases ibB b 0 2 <;> rfl
  ·rw [if_neg hb, decide_eq_false hb, Bool.false_and]; cases ibB b 0 2 <;> rfl
 rw [if_neg h2, if_neg h2]
 by_cases h3 : a = 3
 ·rw [if_pos h3, if_pos h3]
  by_cases hb : b = 0
  ·rw [if_pos hb, decide_eq_true hb, Bool.true_and]
   by_cases hc : c = 0
   ·rw [if_pos hc, decide_eq_true hc, Bool.true_and]
   ·rw [if_neg hc, decide_eq_false hc, Bool.false_and]
  ·rw [if_neg hb, decide_eq_false hb, Bool.false_and]
 rw [if_neg h3, if_neg h3]
 by_cases h4 : a = 4
 ·rw [if_pos h4, if_pos h4]
  by_cases hb : b = 0
  ·rw [if_pos hb, decide_eq_true hb, Bool.true_and]
   by_cases hc : c = 0
   ·rw [if_pos hc, decide_eq_true hc, Bool.true_and, wrap_id (by omega) (by omega)]
    by_cases hC : C = []
    ·by_cases hD : D = []
     ·subst hC; subst hD; rw [if_pos (by rfl)]; by_cases hK : K = 0 <;> simp [hK]
     ·have : 0 < D.length := List.length_pos_iff.mpr hD
      rw [if_neg (by omega)]; simp [hD]
    ·have : 0 < C.length := List.length_pos_iff.mpr hC
     rw [if_neg (by omega)]; simp [hC]
   ·rw [if_neg hc, decide_eq_false hc, Bool.false_and]
  ·rw [if_neg hb, decide_eq_false hb, Bool.false_and]
 rw [if_neg h4, if_neg h4]

def lnB (x : S45) : Bool := lineB x.f0 x.f1 x.f2 x.f3.f0 x.f3.f1 x.f3.f2
def actG : List S45 → Int → Int → Bool
 | [], t, n => decide (n ≤ 6) && decide (t ≤ 3)
 | x :: xs, t, n => lnB x && actG xs (if x.f0 = 1 then wrap64 (t + 1) else t) n
def actB (l : List S45) : Bool := actG l 0 (l.length : Int)

theorem spec_act_loop (l : List S45) (hl : l.length ≤ 1048576) (hw : ∀ x ∈ l, (x.f3.f0.length : Int) ≤ 1048576 ∧ (x.f3.f1.length : Int) ≤ 1048576) (d : Nat) : ∀ (k i : Nat) (t : Int), i + d = l.length → d + 1048577 < k →
  spec_ActOk.l0 k l t (i : Int) = some (actG (l.drop i) t (l.length : Int)) := by
 induction d with
 | zero =>
  intro k i t hi hk
  obtain ⟨k, rfl⟩ : ∃ m, k = m + 1 := ⟨k - 1, by omega⟩
  simp only [spec_ActOk.l0]
  rw [if_neg (by omega), List.drop_of_length_le (by omega)]
  by_cases h : (l.length : Int) ≤ 6
  ·rw [if_pos h]; simp only [actG]; rw [decide_eq_true h, Bool.true_and]
  ·rw [if_neg h]; simp only [actG]; rw [decide_eq_false h, Bool.false_and]
 | succ d ih =>
  intro k i t hi hk
  obtain ⟨k, rfl⟩ : ∃ m, k = m + 1 := ⟨k - 1, by omega⟩
  have hlt : i < l.length := by omega
  have hx := hw _ (List.getElem_mem hlt)
  simp only [spec_ActOk.l0]
  rw [if_pos (by omega), if_pos (by omega), show rd_T45 l (i : Int) = l[i] from getDG z45 l i hlt, spec_line_eq l[i].f0 l[i].f1 l[i].f2 l[i].f3.f0 l[i].f3.f1 l[i].f3.f2 k (by omega) (by omega) (by omega) (by omega), List.drop_eq_getElem_cons hlt]
  simp only [Option.bind_some, actG]
  show _ = some (lineB l[i].f0 l[i].f1 l[i].f2 l[i].f3.f0 l[i].f3.f1 l[i].f3.f2 && _)
  cases lineB l[i].f0 l[i].f1 l[i].f2 l[i].f3.f0 l[i].f3.f1 l[i].f3.f2 with
  | false => rfl
  | true =>
   rw [if_pos rfl, Bool.true_and, show wrap64 ((i : Int) + 1) = ((i + 1 : Nat) : Int) from by rw [wrap_id (by omega) (by omega)]; omega]
   by_cases h1 : l[i].f0 = 1
   ·rw [if_pos h1, if_pos h1]; exact ih k (i + 1) _ (by omega) (by omega)
   ·rw [if_neg h1, if_neg h1]; exact ih k (i + 1) _ (by omega) (by omega)
theorem spec_Act_eq (l : List S45) (k : Nat) (hk : 2097154 < k) (hl : (l.length : Int) ≤ 1048576) (hw : ∀ x ∈ l, (x.f3.f0.length : Int) ≤ 1048576 ∧ (x.f3.f1.length : Int) ≤ 1048576) : spec_ActOk.f k l = some (actB l) := by
 unfold spec_ActOk.f actB
 have := spec_act_loop l (by omega) hw l.length k 0 0 (by omega) (by omega)
 simpa using this

theorem impl_act_loop (l : List S45) (hl : l.length ≤ 1048576) (d : Nat) : ∀ (k i : Nat) (t : Int), i + d = l.length → d + 1 < k →
  impl_ActOk.l0 k l t l (l.length : Int) (i : Int) = some (actG (l.drop i) t (l.length : Int)) := by
 induction d with
 | zero =>
  intro k i t hi hk
  obtain ⟨k, rfl⟩ : ∃ m, k = m + 1 := ⟨k - 1, by omega⟩
  simp only [impl_ActOk.l0]
  rw [if_neg (by omega), List.drop_of_length_le (by omega)]
  by_cases h : (l.length : Int) ≤ 6
  ·rw [if_pos h]; simp only [actG]; rw [decide_eq_true h, Bool.true_and]
  ·rw [if_neg h]; simp only [actG]; rw [decide_eq_false h, Bool.false_and]
 | succ d ih =>
  intro k i t hi hk
  obtain ⟨k, rfl⟩ : ∃ m, k = m + 1 := ⟨k - 1, by omega⟩
  have hlt : i < l.length := by omega
  simp only [impl_ActOk.l0]
  rw [if_pos (by omega), if_pos (by omega), if_pos (by omega), show rd_T45 l (i : Int) = l[i] from getDG z45 l i hlt, impl_line_eq l[i].f0 l[i].f1 l[i].f2 l[i].f3.f0 l[i].f3.f1 l[i].f3.f2 k (by omega), List.drop_eq_getElem_cons hlt]
  simp only [Option.bind_some, actG]
  show _ = some (lineB l[i].f0 l[i].f1 l[i].f2 l[i].f3.f0 l[i].f3.f1 l[i].f3.f2 && _)
  cases lineB l[i].f0 l[i].f1 l[i].f2 l[i].f3.f0 l[i].f3.f1 l[i].f3.f2 with
  | false => rfl
  | true =>
   rw [if_pos rfl, Bool.true_and, show wrap64 ((i : Int) + 1) = ((i + 1 : Nat) : Int) from by rw [wrap_id (by omega) (by omega)]; omega]
   by_cases h1 : l[i].f0 = 1
   ·rw [if_pos h1, if_pos h1]; exact ih k (i + 1) _ (by omega) (by omega)
   ·rw [if_neg h1, if_neg h1]; exact ih k (i + 1) _ (by omega) (by omega)
theorem impl_Act_eq (l : List S45) (k : Nat) (hk : (l.length : Int) + 1 < k) (hl : (l.length : Int) ≤ 1048576) : impl_ActOk.f k l = some (actB l) := by
 unfold impl_ActOk.f actB
 have := impl_act_loop l (by omega) l.length k 0 0 (by omega) (by omega)
 simpa using this

theorem at_eqk (c0 c1 c2 d0 d1 K v0 v1 v2 a0 a1 : Int) (k : Nat) (hk : 4 ≤ k) : impl_FrmForm_at.f k [c0, c1, c2] [d0, d1] K [v0, v1, v2] [a0, a1] = some (atV c0 c1 c2 d0 d1 K v0 v1 v2 a0 a1) := by
 obtain ⟨k, rfl⟩ : ∃ m, k = m + 4 := ⟨k - 4, by omega⟩
 exact at_eq c0 c1 c2 d0 d1 K v0 v1 v2 a0 a1 k

theorem l1At_eqk (c0 c1 c2 d0 d1 K v0 v1 v2 a0 a1 : Int) (k : Nat) (hk : 8 ≤ k) (hK : wrap64 K = K) : spec_l1At.f k [c0, c1, c2] [d0, d1] K [v0, v1, v2] [a0, a1] = some (atV c0 c1 c2 d0 d1 K v0 v1 v2 a0 a1) := by
 obtain ⟨k, rfl⟩ : ∃ m, k = m + 8 := ⟨k - 8, by omega⟩
 exact l1At_eq c0 c1 c2 d0 d1 K v0 v1 v2 a0 a1 k hK

theorem bd8 {x : Int} (h : (Lit.int .u8 x).wf = true) : 0 ≤ x ∧ x ≤ 255 := bounds_u8 h
theorem rd8 (L : List Int) (hL : ∀ x ∈ L, (Lit.int .u8 x).wf = true) (i : Int) (h0 : 0 ≤ i) (h1 : i < (L.length : Int)) : 0 ≤ rd L i ∧ rd L i ≤ 255 := by
 obtain ⟨n, rfl⟩ := Int.eq_ofNat_of_zero_le h0
 have hn : n < L.length := by omega
 rw [getD_at L n hn]
 exact bd8 (hL _ (List.getElem_mem hn))
theorem xor_nonneg (x y : Int) (h0 : 0 ≤ x) (h1 : x < 4611686018427387904) (h2 : 0 ≤ y) (h3 : y < 4611686018427387904) : 0 ≤ Go.bits .xor .i64 x y := by
 obtain ⟨a, rfl⟩ := Int.eq_ofNat_of_zero_le h0
 obtain ⟨b, rfl⟩ := Int.eq_ofNat_of_zero_le h2
 have ha : a < 2 ^ 62 := by omega
 have hb : b < 2 ^ 62 := by omega
 have hx := Nat.xor_lt_two_pow ha hb
 have ha' : a % 2 ^ IntKind.i64.bits = a := Nat.mod_eq_of_lt (Nat.lt_of_lt_of_le ha (by decide))
 have hb' : b % 2 ^ IntKind.i64.bits = b := Nat.mod_eq_of_lt (Nat.lt_of_lt_of_le hb (by decide))
 simp only [Go.bits, BitVec.ofInt_natCast, BitVec.toNat_xor, BitVec.toNat_ofNat, ha', hb']
 rw [IntKind.wrap_i64]
 omega
theorem pick_eq (L : List Int) (hL : ∀ x ∈ L, (Lit.int .u8 x).wf = true) (hl : L.length ≤ 2000) (s n : Int) (k : Nat) (hk : 1 ≤ k) (h0 : 0 ≤ s) (h1 : s ≤ 1000000) (hn : 1 ≤ n) : ∃ v, spec_l20Rd_pick.f k L s n = some (v, s + 1) ∧ 0 ≤ v ∧ v < n := by
 obtain ⟨k, rfl⟩ : ∃ m, k = m + 1 := ⟨k - 1, by omega⟩
 have e1 : wrap64 (s + 1) = s + 1 := wrap_id (by omega) (by omega)
 have e2 : wrap64 (s + 1 - 1) = s := by rw [wrap_id (by omega) (by omega)]; omega
 unfold spec_l20Rd_pick.f
 rw [if_neg (by omega)]
 simp only [spec_l20Rd_pick.j0, e1, e2]
 by_cases hz : (L.length : Int) = 0
 ·rw [if_pos (beq_iff_eq.mpr hz)]
  exact ⟨0, rfl, by omega, by omega⟩
 rw [if_neg (by rw [beq_eq_false_iff_ne.mpr hz]; decide)]
 have hp : 0 < (L.length : Int) := by omega
 by_cases hs : s < (L.length : Int)
 ·have := rd8 L hL s h0 hs
  rw [if_pos hs, if_pos h0, if_neg (by omega), wrap_id (by omega) (by omega)]
  exact ⟨_, rfl, Int.tmod_nonneg _ this.1, Int.tmod_lt_of_pos _ (by omega)⟩
 ·rw [if_neg hs, if_neg hz]
  have i1 : 0 ≤ Int.tmod s (L.length : Int) := Int.tmod_nonneg _ h0
  have i2 : Int.tmod s (L.length : Int) < (L.length : Int) := Int.tmod_lt_of_pos _ hp
  have e3 : wrap64 (wrap64 (s * 7) + 3) = s * 7 + 3 := by rw [wrap_id (x := s * 7) (by omega) (by omega), wrap_id (by omega) (by omega)]
  rw [e3]
  have j1 : 0 ≤ Int.tmod (s * 7 + 3) (L.length : Int) := Int.tmod_nonneg _ (by omega)
  have j2 : Int.tmod (s * 7 + 3) (L.length : Int) < (L.length : Int) := Int.tmod_lt_of_pos _ hp
  have ra := rd8 L hL _ i1 i2
  have rb := rd8 L hL _ j1 j2
  have q1 : 0 ≤ Int.tdiv s (L.length : Int) := Int.tdiv_nonneg h0 (by omega)
  have q2 : Int.tdiv s (L.length : Int) ≤ s := Int.tdiv_le_self _ h0
  rw [if_pos i1, if_pos i2, if_pos j1, if_pos j2, if_neg (by omega)]
  generalize rd L (Int.tmod s (L.length : Int)) = a at ra ⊢
  generalize rd L (Int.tmod (s * 7 + 3) (L.length : Int)) = b at rb ⊢
  generalize Int.tdiv s (L.length : Int) = q at q1 q2 ⊢
  have ex : wrap64 (wrap64 (wrap64 (wrap64 (wrap64 a * 131) + wrap64 (wrap64 b * 1117)) + wrap64 (s * 29)) + wrap64 (wrap64 q * 53)) = a * 131 + b * 1117 + s * 29 + q * 53 := by
   rw [wrap_id (x := a) (by omega) (by omega), wrap_id (x := b) (by omega) (by omega), wrap_id (x := q) (by omega) (by omega), wrap_id (x := a * 131) (by omega) (by omega), wrap_id (x := b * 1117) (by omega) (by omega), wrap_id (x := s * 29) (by omega) (by omega), wrap_id (x := q * 53) (by omega) (by omega),
    wrap_id (x := a * 131 + b * 1117) (by omega) (by omega), wrap_id (x := a * 131 + b * 1117 + s * 29) (by omega) (by omega), wrap_id (by omega) (by omega)]
  rw [ex]
  generalize hX : a * 131 + b * 1117 + s * 29 + q * 53 = X
  have x1 : 0 ≤ X := by omega
  have x2 : X ≤ 1000000000 := by omega
  have y1 : 0 ≤ Int.tdiv X 64 := Int.tdiv_nonneg x1 (by omega)
  have y2 : Int.tdiv X 64 ≤ X := Int.tdiv_le_self _ x1
  rw [wrap_id (x := Int.tdiv X 64) (by omega) (by omega)]
  exact ⟨_, rfl, Int.tmod_nonneg _ (xor_nonneg _ _ x1 (by omega) y1 (by omega)), Int.tmod_lt_of_pos _ (by omega)⟩

theorem open_eq (L : List Int) (hL : ∀ x ∈ L, (Lit.int .u8 x).wf = true) : ∃ M, spec_l20Open.f L = some (M, 0) ∧ (∀ x ∈ M, (Lit.int .u8 x).wf = true) ∧ M.length ≤ 2000 := by
 unfold spec_l20Open.f
 by_cases h : (L.length : Int) > 2000
 ·rw [if_pos h, if_pos (by omega)]
  exact ⟨_, rfl, fun x hx => hL x (List.mem_of_mem_take hx), by rw [List.length_take]; omega⟩
 ·rw [if_neg h]
  exact ⟨_, rfl, hL, by omega⟩

def smallL (l : List Int) (m : Nat) (b : Int) : Prop := l.length ≤ m ∧ ∀ x ∈ l, -b ≤ x ∧ x ≤ b
theorem rd_mem (l : List Int) (i : Int) (h0 : 0 ≤ i) (h1 : i < (l.length : Int)) : rd l i ∈ l := by
 obtain ⟨n, rfl⟩ := Int.eq_ofNat_of_zero_le h0
 have hn : n < l.length := by omega
 rw [getD_at l n hn]
 exact List.getElem_mem hn
theorem smallL.push {l : List Int} {m : Nat} {b x : Int} (h : smallL l m b) (h0 : -b ≤ x) (h1 : x ≤ b) : smallL (l ++ [x]) (m + 1) b :=
 ⟨by rw [List.length_append]; have := h.1; simp; omega, fun y hy => by rcases List.mem_append.mp hy with hy | hy; exact h.2 y hy; rw [List.mem_singleton.mp hy]; exact ⟨h0, h1⟩⟩
theorem smallL.set {l : List Int} {m : Nat} {b x : Int} {i : Nat} (h : smallL l m b) (h0 : -b ≤ x) (h1 : x ≤ b) : smallL (l.set i x) m b :=
 ⟨by rw [List.length_set]; exact h.1, fun y hy => by rcases List.mem_or_eq_of_mem_set hy with hy | rfl; exact h.2 y hy; exact ⟨h0, h1⟩⟩
theorem smallL.take {l : List Int} {m : Nat} {b : Int} {i : Nat} (h : smallL l m b) : smallL (l.take i) m b :=
 ⟨by rw [List.length_take]; have := h.1; omega, fun y hy => h.2 y (List.mem_of_mem_take hy)⟩
theorem smallL.mono {l : List Int} {m n : Nat} {b c : Int} (h : smallL l m b) (h1 : m ≤ n) (h2 : b ≤ c) : smallL l n c := ⟨Nat.le_trans h.1 h1, fun x hx => by have := h.2 x hx; omega⟩
theorem smallL.rd {l : List Int} {m : Nat} {b : Int} (h : smallL l m b) (i : Int) (h0 : 0 ≤ i) (h1 : i < (l.length : Int)) : -b ≤ rd l i ∧ rd l i ≤ b := h.2 _ (rd_mem l i h0 h1)

theorem vals_loop (L : List Int) (hL : ∀ x ∈ L, (Lit.int .u8 x).wf = true) (hl : L.length ≤ 2000) (n : Int) (hn : 1 ≤ n) (d : Nat) : ∀ (k i : Nat) (out : List Int) (s : Int), i + d = 3 → d + 5 < k → 0 ≤ s → s + d ≤ 900003 → out.length = i → smallL out 3 10001 →
  ∃ v s', spec_l20Vals.l0 k n out (i : Int) L s = some (v, s') ∧ s ≤ s' ∧ s' ≤ s + d + 4 ∧ smallL v 4 10001 := by
 induction d with
 | zero =>
  intro k i out s hi hk h0 h1 ho hs
  obtain ⟨k, rfl⟩ : ∃ m, k = m + 1 := ⟨k - 1, by omega⟩
  have hi3 : i = 3 := by omega
  subst hi3
  simp only [spec_l20Vals.l0]
  rw [if_neg (by omega)]
  obtain ⟨v1, e1, a1, b1⟩ := pick_eq L hL hl s n k (by omega) h0 (by omega) hn
  rw [e1]; simp only [Option.bind_some, if_true, bne_self_eq_false, Bool.false_eq_true, if_false]
  by_cases c1 : v1 = 0
  ·rw [if_pos c1]
   obtain ⟨v2, e2, a2, b2⟩ := pick_eq L hL hl (s + 1) 3 k (by omega) (by omega) (by omega) (by omega)
   rw [e2]; simp only [Option.bind_some, if_true, bne_self_eq_false, Bool.false_eq_true, if_false]
   by_cases c2 : v2 = 0
   ·rw [if_pos c2, if_pos (by omega)]
    exact ⟨_, _, rfl, by omega, by omega, hs.take.mono (by omega) (by omega)⟩
   ·rw [if_neg c2]
    by_cases c3 : v2 = 1
    ·rw [if_pos c3, if_pos (by omega)]
     exact ⟨_, _, rfl, by omega, by omega, hs.push (by omega) (by omega)⟩
    ·rw [if_neg c3]
     obtain ⟨v3, e3, a3, b3⟩ := pick_eq L hL hl (s + 1 + 1) 3 k (by omega) (by omega) (by omega) (by omega)
     rw [e3]; simp only [Option.bind_some, if_true, bne_self_eq_false, Bool.false_eq_true, if_false]
     obtain ⟨v4, e4, a4, b4⟩ := pick_eq L hL hl (s + 1 + 1 + 1) 2 k (by omega) (by omega) (by omega) (by omega)
     rw [e4]; simp only [Option.bind_some, if_true, bne_self_eq_false, Bool.false_eq_true, if_false]
     have hq : smallL [10001, -10001] 2 10001 := ⟨by simp, by simp⟩
     have hq2 := hq.rd v4 a4 (by simpa using b4)
     rw [if_pos a4, if_pos (by simpa using b4), if_pos a3, if_pos (by omega)]
     exact ⟨_, _, rfl, by omega, by omega, (hs.set hq2.1 hq2.2).mono (by omega) (by omega)⟩
  ·rw [if_neg c1]
   exact ⟨_, _, rfl, by omega, by omega, hs.mono (by omega) (by omega)⟩
 | succ d ih =>
  intro k i out s hi hk h0 h1 ho hs
  obtain ⟨k, rfl⟩ : ∃ m, k = m + 1 := ⟨k - 1, by omega⟩
  simp only [spec_l20Vals.l0]
  rw [if_pos (by omega)]; simp only [Option.bind_some, if_true, bne_self_eq_false, Bool.false_eq_true, if_false]
  obtain ⟨v1, e1, a1, b1⟩ := pick_eq L hL hl s 9 k (by omega) h0 (by omega) (by omega)
  rw [e1]; simp only [Option.bind_some, if_true, bne_self_eq_false, Bool.false_eq_true, if_false]
  have hq : smallL [0, 1, 5, 20, -3, 60, 10000, -10000, 9996] 9 10001 := ⟨by simp, by simp⟩
  have hq2 := hq.rd v1 a1 (by simpa using b1)
  rw [if_pos a1, if_pos (by simpa using b1), if_pos (by omega), show wrap64 ((i : Int) + 1) = ((i + 1 : Nat) : Int) from by rw [wrap_id (by omega) (by omega)]; omega]
  have hp : smallL (out ++ [rd [0, 1, 5, 20, -3, 60, 10000, -10000, 9996] v1]) 3 10001 := by
   have := hs.push hq2.1 hq2.2
   exact ⟨by simp; omega, this.2⟩
  obtain ⟨v, s', e, p, q, r⟩ := ih k (i + 1) _ (s + 1) (by omega) (by omega) (by omega) (by omega) (by simp; omega) hp
  exact ⟨v, s', e, by omega, by omega, r⟩
theorem vals_eq (L : List Int) (hL : ∀ x ∈ L, (Lit.int .u8 x).wf = true) (hl : L.length ≤ 2000) (s n : Int) (k : Nat) (hk : 9 ≤ k) (h0 : 0 ≤ s) (h1 : s ≤ 900000) (hn : 1 ≤ n) :
  ∃ v s', spec_l20Vals.f k L s n = some (v, s') ∧ s ≤ s' ∧ s' ≤ s + 7 ∧ smallL v 4 10001 := by
 unfold spec_l20Vals.f
 obtain ⟨v, s', e, p, q, r⟩ := vals_loop L hL hl n hn 3 k 0 [] s rfl (by omega) h0 (by omega) rfl ⟨by simp, by simp⟩
 exact ⟨v, s', e, p, by omega, r⟩

theorem args_eq (L : List Int) (hL : ∀ x ∈ L, (Lit.int .u8 x).wf = true) (hl : L.length ≤ 2000) (s n : Int) (k : Nat) (hk : 9 ≤ k) (h0 : 0 ≤ s) (h1 : s ≤ 900000) (hn : 1 ≤ n) :
  ∃ v s', spec_l20Args.f k L s n = some (v, s') ∧ s ≤ s' ∧ s' ≤ s + 7 ∧ smallL v 3 10 := by
 unfold spec_l20Args.f
 obtain ⟨u1, f1, g1, j1⟩ := pick_eq L hL hl s 19 k (by omega) h0 (by omega) (by omega)
 rw [f1]; simp only [Option.bind_some, if_true, bne_self_eq_false, Bool.false_eq_true, if_false]
 obtain ⟨u2, f2, g2, j2⟩ := pick_eq L hL hl (s + 1) 19 k (by omega) (by omega) (by omega) (by omega)
 rw [f2]; simp only [Option.bind_some, if_true, bne_self_eq_false, Bool.false_eq_true, if_false]
 rw [wrap_id (x := u1 - 9) (by omega) (by omega), wrap_id (x := u2 - 9) (by omega) (by omega)]
 have hs : smallL [u1 - 9, u2 - 9] 2 10 := ⟨by simp, by simp; omega⟩
 have ho : [u1 - 9, u2 - 9].length = 2 := rfl
 generalize [u1 - 9, u2 - 9] = out at hs ho ⊢
 obtain ⟨v1, e1, a1, b1⟩ := pick_eq L hL hl (s + 1 + 1) n k (by omega) (by omega) (by omega) hn
 rw [e1]; simp only [Option.bind_some, if_true, bne_self_eq_false, Bool.false_eq_true, if_false]
 by_cases c1 : v1 = 0
 ·rw [if_pos c1]
  obtain ⟨v2, e2, a2, b2⟩ := pick_eq L hL hl (s + 1 + 1 + 1) 3 k (by omega) (by omega) (by omega) (by omega)
  rw [e2]; simp only [Option.bind_some, if_true, bne_self_eq_false, Bool.false_eq_true, if_false]
  by_cases c2 : v2 = 0
  ·rw [if_pos c2, if_pos (by omega)]
   exact ⟨_, _, rfl, by omega, by omega, hs.take.mono (by omega) (by omega)⟩
  ·rw [if_neg c2]
   by_cases c3 : v2 = 1
   ·rw [if_pos c3, if_pos (by omega)]
    exact ⟨_, _, rfl, by omega, by omega, hs.push (by omega) (by omega)⟩
   ·rw [if_neg c3]
    obtain ⟨v3, e3, a3, b3⟩ := pick_eq L hL hl (s + 1 + 1 + 1 + 1) 2 k (by omega) (by omega) (by omega) (by omega)
    rw [e3]; simp only [Option.bind_some, if_true, bne_self_eq_false, Bool.false_eq_true, if_false]
    obtain ⟨v4, e4, a4, b4⟩ := pick_eq L hL hl (s + 1 + 1 + 1 + 1 + 1) 2 k (by omega) (by omega) (by omega) (by omega)
    rw [e4]; simp only [Option.bind_some, if_true, bne_self_eq_false, Bool.false_eq_true, if_false]
    have hq : smallL [10, -10] 2 10 := ⟨by simp, by simp⟩
    have hq2 := hq.rd v4 a4 (by simpa using b4)
    rw [if_pos a4, if_pos (by simpa using b4), if_pos a3, if_pos (by omega)]
    exact ⟨_, _, rfl, by omega, by omega, (hs.set hq2.1 hq2.2).mono (by omega) (by omega)⟩
 ·rw [if_neg c1]
  exact ⟨_, _, rfl, by omega, by omega, hs.mono (by omega) (by omega)⟩

theorem small_l1 (L : List Int) (hL : ∀ x ∈ L, (Lit.int .u8 x).wf = true) (hl : L.length ≤ 2000) (C : List Int) (K : Int) (d : Nat) : ∀ (k i : Nat) (D : List Int) (s : Int), i + d = 2 → d + 3 < k → 0 ≤ s → s ≤ 800000 - d → D.length = 2 → smallL D 2 20 →
  ∃ D' K', spec_l20Small.l1 k (i : Int) L s C D K = some (C, D', K', s + d + 1) ∧ D'.length = 2 ∧ smallL D' 2 20 ∧ -20 ≤ K' ∧ K' ≤ 20 := by
 induction d with
 | zero =>
  intro k i D s hi hk h0 h1 hd hs
  obtain ⟨k, rfl⟩ : ∃ m, k = m + 1 := ⟨k - 1, by omega⟩
  simp only [spec_l20Small.l1]
  rw [if_neg (by omega)]; simp only [Option.bind_some, if_true, bne_self_eq_false, Bool.false_eq_true, if_false]
  obtain ⟨v, e, a, b⟩ := pick_eq L hL hl s 8 k (by omega) h0 (by omega) (by omega)
  rw [e]; simp only [Option.bind_some, if_true, bne_self_eq_false, Bool.false_eq_true, if_false]
  have hq : smallL [0, 0, 1, -1, 5, -5, 20, -20] 8 20 := ⟨by simp, by simp⟩
  have hq2 := hq.rd v a (by simpa using b)
  rw [if_pos a, if_pos (by simpa using b)]
  exact ⟨_, _, by rw [show s + ((0 : Nat) : Int) + 1 = s + 1 from by omega], hd, hs, hq2.1, hq2.2⟩
 | succ d ih =>
  intro k i D s hi hk h0 h1 hd hs
  obtain ⟨k, rfl⟩ : ∃ m, k = m + 1 := ⟨k - 1, by omega⟩
  simp only [spec_l20Small.l1]
  rw [if_pos (by omega)]; simp only [Option.bind_some, if_true, bne_self_eq_false, Bool.false_eq_true, if_false]
  obtain ⟨v, e, a, b⟩ := pick_eq L hL hl s 5 k (by omega) h0 (by omega) (by omega)
  rw [e]; simp only [Option.bind_some, if_true, bne_self_eq_false, Bool.false_eq_true, if_false]
  have hq : smallL [0, 0, 1, -1, 2] 5 20 := ⟨by simp, by simp⟩
  have hq2 := hq.rd v a (by simpa using b)
  rw [if_pos a, if_pos (by simpa using b), if_pos (by omega), if_pos (by omega), show wrap64 ((i : Int) + 1) = ((i + 1 : Nat) : Int) from by rw [wrap_id (by omega) (by omega)]; omega]
  obtain ⟨D', K', e2, x1, x2, x3, x4⟩ := ih k (i + 1) _ (s + 1) (by omega) (by omega) (by omega) (by omega) (by rw [List.length_set]; exact hd) (hs.set (i := ((i : Int)).toNat) hq2.1 hq2.2)
  exact ⟨D', K', by rw [e2]; congr 4; omega, x1, x2, x3, x4⟩
theorem small_l0 (L : List Int) (hL : ∀ x ∈ L, (Lit.int .u8 x).wf = true) (hl : L.length ≤ 2000) (D : List Int) (K : Int) (hd2 : D.length = 2) (hD : smallL D 2 20) (d : Nat) : ∀ (k i : Nat) (C : List Int) (s : Int), i + d = 3 → d + 8 < k → 0 ≤ s → s ≤ 700000 - d → C.length = 3 → smallL C 3 20 →
  ∃ C' D' K', spec_l20Small.l0 k (i : Int) L s C D K = some (C', D', K', s + d + 3) ∧ C'.length = 3 ∧ smallL C' 3 20 ∧ D'.length = 2 ∧ smallL D' 2 20 ∧ -20 ≤ K' ∧ K' ≤ 20 := by
 induction d with
 | zero =>
  intro k i C s hi hk h0 h1 hd hs
  obtain ⟨k, rfl⟩ : ∃ m, k = m + 1 := ⟨k - 1, by omega⟩
  simp only [spec_l20Small.l0]
  rw [if_neg (by omega)]
  obtain ⟨D', K', e2, x1, x2, x3, x4⟩ := small_l1 L hL hl C K 2 k 0 D s (by omega) (by omega) h0 (by omega) hd2 hD
  exact ⟨C, D', K', by rw [show ((0 : Nat) : Int) = 0 from rfl] at e2; rw [e2]; congr 4; omega, hd, hs, x1, x2, x3, x4⟩
 | succ d ih =>
  intro k i C s hi hk h0 h1 hd hs
  obtain ⟨k, rfl⟩ : ∃ m, k = m + 1 := ⟨k - 1, by omega⟩
  simp only [spec_l20Small.l0]
  rw [if_pos (by omega)]; simp only [Option.bind_some, if_true, bne_self_eq_false, Bool.false_eq_true, if_false]
  obtain ⟨v, e, a, b⟩ := pick_eq L hL hl s 6 k (by omega) h0 (by omega) (by omega)
  rw [e]; simp only [Option.bind_some, if_true, bne_self_eq_false, Bool.false_eq_true, if_false]
  have hq : smallL [0, 0, 0, 1, -1, 2] 6 20 := ⟨by simp, by simp⟩
  have hq2 := hq.rd v a (by simpa using b)
  rw [if_pos a, if_pos (by simpa using b), if_pos (by omega), if_pos (by omega), show wrap64 ((i : Int) + 1) = ((i + 1 : Nat) : Int) from by rw [wrap_id (by omega) (by omega)]; omega]
  obtain ⟨C', D', K', e2, x1, x2, x3⟩ := ih k (i + 1) _ (s + 1) (by omega) (by omega) (by omega) (by omega) (by rw [List.length_set]; exact hd) (hs.set (i := ((i : Int)).toNat) hq2.1 hq2.2)
  exact ⟨C', D', K', by rw [e2]; congr 4; omega, x1, x2, x3⟩
theorem small_eq (L : List Int) (hL : ∀ x ∈ L, (Lit.int .u8 x).wf = true) (hl : L.length ≤ 2000) (s : Int) (k : Nat) (hk : 12 ≤ k) (h0 : 0 ≤ s) (h1 : s ≤ 600000) :
  ∃ C D K, spec_l20Small.f k L s = some (C, D, K, s + 6) ∧ C.length = 3 ∧ smallL C 3 20 ∧ D.length = 2 ∧ smallL D 2 20 ∧ -20 ≤ K ∧ K ≤ 20 := by
 unfold spec_l20Small.f
 rw [spec_Zero_eq]; simp only [Option.bind_some, if_true, bne_self_eq_false, Bool.false_eq_true, if_false]
 obtain ⟨C, D, K, e, x⟩ := small_l0 L hL hl [0, 0] 0 rfl ⟨by simp, by simp⟩ 3 k 0 [0, 0, 0] s (by omega) (by omega) h0 (by omega) rfl ⟨by simp, by simp⟩
 exact ⟨C, D, K, by rw [show ((0 : Nat) : Int) = 0 from rfl] at e; rw [e]; congr 4; omega, x⟩

def drawnF (C D : List Int) (K : Int) : Prop := smallL C 3 10000001 ∧ smallL D 3 10000001 ∧ -10000001 ≤ K ∧ K ≤ 10000001
theorem form_j0 (L : List Int) (hL : ∀ x ∈ L, (Lit.int .u8 x).wf = true) (hl : L.length ≤ 2000) (C D : List Int) (K : Int) (s n : Int) (k : Nat) (hk : 3 ≤ k) (h0 : 0 ≤ s) (h1 : s ≤ 700000) (hn : 1 ≤ n) (hc : C.length = 3) (hC : smallL C 3 10000001) (hd : D.length = 2) (hD : smallL D 2 10000001) (hK : -20 ≤ K ∧ K ≤ 20) :
  ∃ C' D' K' s', spec_l20Form.j0 k n L s C D K = some (C', D', K', s') ∧ s ≤ s' ∧ s' ≤ s + 5 ∧ drawnF C' D' K' := by
 obtain ⟨k, rfl⟩ : ∃ m, k = m + 1 := ⟨k - 1, by omega⟩
 have hD' : smallL D 3 10000001 := hD.mono (by omega) (by omega)
 simp only [spec_l20Form.j0]
 obtain ⟨v1, e1, a1, b1⟩ := pick_eq L hL hl s n k (by omega) h0 (by omega) hn
 rw [e1]; simp only [Option.bind_some, if_true, bne_self_eq_false, Bool.false_eq_true, if_false]
 by_cases c1 : v1 > 0
 ·rw [if_pos c1]
  exact ⟨_, _, _, _, rfl, by omega, by omega, hC, hD', by omega, by omega⟩
 rw [if_neg c1]
 obtain ⟨v2, e2, a2, b2⟩ := pick_eq L hL hl (s + 1) 4 k (by omega) (by omega) (by omega) (by omega)
 rw [e2]; simp only [Option.bind_some, if_true, bne_self_eq_false, Bool.false_eq_true, if_false]
 by_cases c2 : v2 = 0
 ·rw [if_pos c2, if_pos (by omega)]
  exact ⟨_, _, _, _, rfl, by omega, by omega, hC.take, hD', by omega, by omega⟩
 rw [if_neg c2]
 by_cases c3 : v2 = 1
 ·rw [if_pos c3, if_pos (by omega)]
  exact ⟨_, _, _, _, rfl, by omega, by omega, hC, hD.push (by omega) (by omega), by omega, by omega⟩
 rw [if_neg c3]
 by_cases c4 : v2 = 2
 ·rw [if_pos c4]
  obtain ⟨v3, e3, a3, b3⟩ := pick_eq L hL hl (s + 1 + 1) 3 k (by omega) (by omega) (by omega) (by omega)
  rw [e3]; simp only [Option.bind_some, if_true, bne_self_eq_false, Bool.false_eq_true, if_false]
  have hq : smallL [10000001, -10000001, 10000000] 3 10000001 := ⟨by simp, by simp⟩
  have hq2 := hq.rd v3 a3 (by simpa using b3)
  rw [if_pos a3, if_pos (by simpa using b3)]
  exact ⟨_, _, _, _, rfl, by omega, by omega, hC, hD', hq2.1, hq2.2⟩
 rw [if_neg c4]
 obtain ⟨v3, e3, a3, b3⟩ := pick_eq L hL hl (s + 1 + 1) 3 k (by omega) (by omega) (by omega) (by omega)
 rw [e3]; simp only [Option.bind_some, if_true, bne_self_eq_false, Bool.false_eq_true, if_false]
 obtain ⟨v4, e4, a4, b4⟩ := pick_eq L hL hl (s + 1 + 1 + 1) 2 k (by omega) (by omega) (by omega) (by omega)
 rw [e4]; simp only [Option.bind_some, if_true, bne_self_eq_false, Bool.false_eq_true, if_false]
 have hq : smallL [10000001, -10000001] 2 10000001 := ⟨by simp, by simp⟩
 have hq2 := hq.rd v4 a4 (by simpa using b4)
 rw [if_pos a4, if_pos (by simpa using b4), if_pos a3, if_pos (by omega)]
 exact ⟨_, _, _, _, rfl, by omega, by omega, hC.set hq2.1 hq2.2, hD', by omega, by omega⟩
theorem form_eq (L : List Int) (hL : ∀ x ∈ L, (Lit.int .u8 x).wf = true) (hl : L.length ≤ 2000) (s n : Int) (k : Nat) (hk : 12 ≤ k) (h0 : 0 ≤ s) (h1 : s ≤ 500000) (hn : 1 ≤ n) :
  ∃ C D K s', spec_l20Form.f k L s n = some (C, D, K, s') ∧ s ≤ s' ∧ s' ≤ s + 20 ∧ drawnF C D K := by
 unfold spec_l20Form.f
 obtain ⟨C, D, K, e, hc, hC, hd, hD, hK⟩ := small_eq L hL hl s k hk h0 (by omega)
 rw [e]; simp only [Option.bind_some, if_true, bne_self_eq_false, Bool.false_eq_true, if_false]
 obtain ⟨v1, e1, a1, b1⟩ := pick_eq L hL hl (s + 6) 4 k (by omega) (by omega) (by omega) (by omega)
 rw [e1]; simp only [Option.bind_some, if_true, bne_self_eq_false, Bool.false_eq_true, if_false]
 have hC' : smallL C 3 10000001 := hC.mono (by omega) (by omega)
 have hD' : smallL D 2 10000001 := hD.mono (by omega) (by omega)
 by_cases c1 : v1 = 0
 ·rw [if_pos c1]
  obtain ⟨v2, e2, a2, b2⟩ := pick_eq L hL hl (s + 6 + 1) 3 k (by omega) (by omega) (by omega) (by omega)
  rw [e2]; simp only [Option.bind_some, if_true, bne_self_eq_false, Bool.false_eq_true, if_false]
  obtain ⟨v3, e3, a3, b3⟩ := pick_eq L hL hl (s + 6 + 1 + 1) 4 k (by omega) (by omega) (by omega) (by omega)
  rw [e3]; simp only [Option.bind_some, if_true, bne_self_eq_false, Bool.false_eq_true, if_false]
  have hq : smallL [10000000, -10000000, 1000, 77] 4 10000001 := ⟨by simp, by simp⟩
  have hq2 := hq.rd v3 a3 (by simpa using b3)
  rw [if_pos a3, if_pos (by simpa using b3), if_pos a2, if_pos (by omega)]
  obtain ⟨C', D', K', s', e4, p, q, r⟩ := form_j0 L hL hl (C.set v2.toNat (rd [10000000, -10000000, 1000, 77] v3)) D K (s + 6 + 1 + 1 + 1) n k (by omega) (by omega) (by omega) hn (by rw [List.length_set]; exact hc) (hC'.set hq2.1 hq2.2) hd hD' hK
  exact ⟨C', D', K', s', e4, by omega, by omega, r⟩
 ·rw [if_neg c1]
  obtain ⟨C', D', K', s', e4, p, q, r⟩ := form_j0 L hL hl C D K (s + 6 + 1) n k (by omega) (by omega) (by omega) hn hc hC' hd hD' hK
  exact ⟨C', D', K', s', e4, by omega, by omega, r⟩

theorem co_loop (x y : List Int) (hl : x.length = y.length) (hm : x.length ≤ 1048576) (d : Nat) : ∀ (k i : Nat), i + d = x.length → d < k → (x.take i = y.take i) → laws_coInts.l0 k x y (i : Int) = some (decide (x = y)) := by
 induction d with
 | zero =>
  intro k i hi hk he
  obtain ⟨k, rfl⟩ : ∃ m, k = m + 1 := ⟨k - 1, by omega⟩
  simp only [laws_coInts.l0]
  rw [if_neg (by omega)]
  rw [List.take_of_length_le (by omega), List.take_of_length_le (by omega)] at he
  rw [decide_eq_true he]
 | succ d ih =>
  intro k i hi hk he
  obtain ⟨k, rfl⟩ : ∃ m, k = m + 1 := ⟨k - 1, by omega⟩
  have h1 : i < x.length := by omega
  have h2 : i < y.length := by omega
  simp only [laws_coInts.l0]
  rw [if_pos (by omega), if_pos (by omega), if_pos (by omega), getD_at x i h1, getD_at y i h2]
  by_cases hq : x[i] = y[i]
  ·rw [if_pos hq, show wrap64 ((i : Int) + 1) = ((i + 1 : Nat) : Int) from by rw [wrap_id (by omega) (by omega)]; omega]
   exact ih k (i + 1) (by omega) (by omega) (by rw [List.take_succ_eq_append_getElem h1, List.take_succ_eq_append_getElem h2, he, hq])
  ·rw [if_neg hq, decide_eq_false (fun e => hq (by subst e; rfl))]
theorem co_eq (x y : List Int) (k : Nat) (hk : x.length < k) (hm : x.length ≤ 1048576) : laws_coInts.f k x y = some (decide (x = y)) := by
 unfold laws_coInts.f
 by_cases h : x.length = y.length
 ·rw [if_pos (by omega)]
  exact co_loop x y h hm x.length k 0 (by omega) hk rfl
 ·rw [if_neg (by omega), decide_eq_false (fun e => h (by rw [e]))]

theorem frm_ok (x y z a b K : Int) (hx : -10000000 ≤ x ∧ x ≤ 10000000) (hy : -10000000 ≤ y ∧ y ≤ 10000000) (hz : -10000000 ≤ z ∧ z ≤ 10000000) (ha : -10000000 ≤ a ∧ a ≤ 10000000) (hb : -10000000 ≤ b ∧ b ≤ 10000000) (hK : -10000000 ≤ K ∧ K ≤ 10000000) : frmB [x, y, z] [a, b] K = true := by
 have w : wrap64 (-10000000) = -10000000 := wrap_id (by decide) (by decide)
 unfold frmB
 rw [okB_iff.mpr ⟨by simp, by rw [w]; simp; omega⟩, okB_iff.mpr ⟨by simp, by rw [w]; simp; omega⟩, ibB_iff.mpr hK]
 rfl
theorem coHolds_eq : laws_coHolds.f = some true := by
 unfold laws_coHolds.f
 rw [impl_Zero_eq]; simp only [Option.bind_some, if_true, bne_self_eq_false, Bool.false_eq_true, if_false]
 rw [impl_Frm_eq, frm_ok 0 0 0 0 0 0 (by decide) (by decide) (by decide) (by decide) (by decide) (by decide)]; rfl

def endV (V own told : List Int) : Int × List Int × List Int := if okB own 3 10000 = true then (1, told, own) else (3, [], V)
def lineV (x : S45) (V R : List Int) : Int := atV (rd x.f3.f0 0) (rd x.f3.f0 1) (rd x.f3.f0 2) (rd x.f3.f1 0) (rd x.f3.f1 1) x.f3.f2 (rd V 0) (rd V 1) (rd V 2) (rd R 0) (rd R 1)
theorem lineV_eq (x : S45) (V R : List Int) (hs : smallB x.f3.f0 x.f3.f1 x.f3.f2 = true) (hV : (V.length : Int) = 3) (hR : (R.length : Int) = 2) (k : Nat) (hk : 8 ≤ k) :
  spec_l1At.f k x.f3.f0 x.f3.f1 x.f3.f2 V R = some (lineV x V R) ∧ impl_FrmForm_at.f k x.f3.f0 x.f3.f1 x.f3.f2 V R = some (lineV x V R) := by
 obtain ⟨v0, v1, v2, rfl⟩ := len3 hV
 obtain ⟨a0, a1, rfl⟩ := len2 hR
 obtain ⟨a, b, c, C, D, K⟩ := x
 simp only at hs ⊢
 unfold smallB at hs
 simp only [Bool.and_eq_true] at hs
 obtain ⟨q1, q2, q3⟩ := hs
 have hK : wrap64 K = K := by
  have := ibB_iff.mp q3
  exact wrap_id (by omega) (by omega)
 obtain ⟨c0, c1, c2, rfl⟩ := len3 (okB_len q1)
 obtain ⟨d0, d1, rfl⟩ := len2 (okB_len q2)
 exact ⟨l1At_eqk _ _ _ _ _ _ _ _ _ _ _ k hk hK, at_eqk _ _ _ _ _ _ _ _ _ _ _ k (by omega)⟩
theorem lineB_cases {a b c : Int} {C D : List Int} {K : Int} (h : lineB a b c C D K = true) : (a = 1 ∧ (1 ≤ c ∧ c ≤ 6) ∧ smallB C D K = true) ∨ (a = 2 ∧ (0 ≤ b ∧ b ≤ 2) ∧ smallB C D K = true) ∨ (a = 3 ∧ smallB C D K = true) ∨ a = 4 := by
 unfold lineB at h
 by_cases h1 : a = 1
 ·rw [if_pos h1] at h
  simp only [Bool.and_eq_true] at h
  exact .inl ⟨h1, ibB_iff.mp h.2.1, h.2.2⟩
 rw [if_neg h1] at h
 by_cases h2 : a = 2
 ·rw [if_pos h2] at h
  simp only [Bool.and_eq_true] at h
  exact .inr (.inl ⟨h2, ibB_iff.mp h.1, h.2.2⟩)
 rw [if_neg h2] at h
 by_cases h3 : a = 3
 ·rw [if_pos h3] at h
  simp only [Bool.and_eq_true] at h
  exact .inr (.inr (.inl ⟨h3, h.2.2⟩))
 rw [if_neg h3] at h
 by_cases h4 : a = 4
 ·exact .inr (.inr (.inr h4))
 rw [if_neg h4] at h
 exact absurd h (by decide)
theorem actG_all : ∀ (l : List S45) (t n : Int), actG l t n = true → n ≤ 6 ∧ ∀ x ∈ l, lnB x = true
 | [], t, n, h => by
  simp only [actG, Bool.and_eq_true, decide_eq_true_eq] at h
  exact ⟨h.1, by simp⟩
 | x :: xs, t, n, h => by
  simp only [actG, Bool.and_eq_true] at h
  obtain ⟨p, q⟩ := actG_all xs _ n h.2
  refine ⟨p, fun y hy => ?_⟩
  rcases List.mem_cons.mp hy with rfl | hy
  ·exact h.1
  ·exact q y hy
theorem l2EndV (V own told : List Int) (k : Nat) (hk : 20 < k) (ho : own.length = 3) (hV : V.length ≤ 1048576) : spec_l2End.f k V own told = some (endV V own told) := by
 unfold spec_l2End.f endV
 rw [spec_Val_eq own k (by omega) (by omega)]; simp only [Option.bind_some]
 cases okB own 3 10000 with
 | true => rfl
 | false =>
  rw [if_neg (by decide), if_pos (by simp; omega)]
  rfl
theorem run_stop (l : List S45) (V R own told : List Int) (i : Int) (hi : (l.length : Int) ≤ i) (ho : own.length = 3) (hV : V.length = 3) (k : Nat) (hk : 30 < k) : spec_ActRun.l0 k l V R own told i = some (endV V own told) ∧ impl_ActRun.l0 k l V R own told i = some (endV V own told) := by
 obtain ⟨k, rfl⟩ : ∃ m, k = m + 1 := ⟨k - 1, by omega⟩
 simp only [spec_ActRun.l0, impl_ActRun.l0]
 rw [if_neg (by omega), if_neg (by omega), l2EndV V own told k (by omega) ho (by omega), impl_Val_eq]
 refine ⟨rfl, ?_⟩
 have hc : slices_Clone_int_int.f V = some V := by unfold slices_Clone_int_int.f; rw [if_pos (by omega)]
 simp only [Option.bind_some, endV]
 cases okB own 3 10000 with
 | true => rfl
 | false => rw [if_neg (by decide), if_neg (by decide), hc]; rfl
theorem endV_len (V own told : List Int) (ho : own.length = 3) (hV : V.length = 3) : (endV V own told).2.1.length ≤ told.length ∧ (endV V own told).2.2.length = 3 := by
 unfold endV
 split
 ·exact ⟨Nat.le_refl _, ho⟩
 ·exact ⟨by simp, hV⟩
def smA (l : List S45) (m : Nat) : Prop := l.length ≤ m ∧ ∀ x ∈ l, x.f3.f0.length ≤ 4 ∧ x.f3.f1.length ≤ 4
theorem smA.push {l : List S45} {m : Nat} (h : smA l m) (x : S45) (hx : x.f3.f0.length ≤ 4 ∧ x.f3.f1.length ≤ 4) : smA (l ++ [x]) (m + 1) :=
 ⟨by rw [List.length_append]; have := h.1; simp; omega, fun y hy => by
  rcases List.mem_append.mp hy with hy | hy
  ·exact h.2 y hy
  ·simp only [List.mem_singleton] at hy; subst hy; exact hx⟩
theorem smA.put {l : List S45} {m : Nat} (h : smA l m) (i : Nat) (x : S45) (hx : x.f3.f0.length ≤ 4 ∧ x.f3.f1.length ≤ 4) : smA (l.set i x) m :=
 ⟨by rw [List.length_set]; exact h.1, fun y hy => by
  rcases List.mem_or_eq_of_mem_set hy with hy | hy
  ·exact h.2 y hy
  ·subst hy; exact hx⟩
theorem smA.mono {l : List S45} {m n : Nat} (h : smA l m) (hn : m ≤ n) : smA l n := ⟨Nat.le_trans h.1 hn, h.2⟩
theorem rdA_mem (l : List S45) (i : Int) (h0 : 0 ≤ i) (h1 : i < (l.length : Int)) : rd_T45 l i ∈ l := mem_rd z45 l i h0 h1
theorem smA.sz {l : List S45} {m : Nat} (h : smA l m) : ∀ x ∈ l, (x.f3.f0.length : Int) ≤ 1048576 ∧ (x.f3.f1.length : Int) ≤ 1048576 := fun x hx => by have := h.2 x hx; omega
theorem line_eq (L : List Int) (hL : ∀ x ∈ L, (Lit.int .u8 x).wf = true) (hl : L.length ≤ 2000) (s : Int) (k : Nat) (hk : 20 ≤ k) (h0 : 0 ≤ s) (h1 : s ≤ 500000) :
  ∃ a b c C D K s', spec_l20Line.f k L s = some (a, b, c, C, D, K, s') ∧ s ≤ s' ∧ s' ≤ s + 20 ∧ C.length ≤ 4 ∧ D.length ≤ 4 := by
 unfold spec_l20Line.f
 obtain ⟨v, e1, v0, v1⟩ := pick_eq L hL hl s 7 k (by omega) h0 (by omega) (by omega)
 rw [e1]; simp only [Option.bind_some, if_true, bne_self_eq_false, Bool.false_eq_true, if_false]
 obtain ⟨k, rfl⟩ : ∃ m, k = m + 2 := ⟨k - 2, by omega⟩
 have j1 : ∀ b : Bool, ∃ a b' c C D K s', spec_l20Line.j1 (k + 1) v b L (s + 1) = some (a, b', c, C, D, K, s') ∧ s ≤ s' ∧ s' ≤ s + 20 ∧ C.length ≤ 4 ∧ D.length ≤ 4 := by
  intro b
  simp only [spec_l20Line.j1]
  obtain ⟨C, D, K, e2, hC, _, hD, _⟩ := small_eq L hL hl (s + 1) k (by omega) (by omega) (by omega)
  cases b with
  | true =>
   rw [if_pos rfl, e2]; simp only [Option.bind_some, if_true, bne_self_eq_false, Bool.false_eq_true, if_false]
   obtain ⟨p, e3, p0, p1⟩ := pick_eq L hL hl (s + 1 + 6) 3 k (by omega) (by omega) (by omega) (by omega)
   obtain ⟨q, e4, q0, q1⟩ := pick_eq L hL hl (s + 1 + 6 + 1) 3 k (by omega) (by omega) (by omega) (by omega)
   rw [e3]; simp only [Option.bind_some, if_true, bne_self_eq_false, Bool.false_eq_true, if_false]
   by_cases hp : p > 0
   ·rw [if_pos hp, e4]; simp only [Option.bind_some, if_true, bne_self_eq_false, Bool.false_eq_true, if_false]
    exact ⟨_, _, _, _, _, _, _, rfl, by omega, by omega, by simp, by omega⟩
   ·rw [if_neg hp, e4]; simp only [Option.bind_some, if_true, bne_self_eq_false, Bool.false_eq_true, if_false]
    exact ⟨_, _, _, _, _, _, _, rfl, by omega, by omega, by omega, by omega⟩
  | false =>
   rw [if_neg (by decide)]
   by_cases h5 : v = 5
   ·rw [if_pos h5, e2]; simp only [Option.bind_some, if_true, bne_self_eq_false, Bool.false_eq_true, if_false]
    exact ⟨_, _, _, _, _, _, _, rfl, by omega, by omega, by omega, by omega⟩
   ·rw [if_neg h5]
    exact ⟨_, _, _, _, _, _, _, rfl, by omega, by omega, by simp, by simp⟩
 have j0 : ∀ b : Bool, ∃ a b' c C D K s', spec_l20Line.j0 (k + 2) v b L (s + 1) = some (a, b', c, C, D, K, s') ∧ s ≤ s' ∧ s' ≤ s + 20 ∧ C.length ≤ 4 ∧ D.length ≤ 4 := by
  intro b
  simp only [spec_l20Line.j0]
  cases b with
  | true =>
   obtain ⟨p, e3, p0, p1⟩ := pick_eq L hL hl (s + 1) 3 (k + 1) (by omega) (by omega) (by omega) (by omega)
   obtain ⟨C, D, K, e2, hC, _, hD, _⟩ := small_eq L hL hl (s + 1 + 1) (k + 1) (by omega) (by omega) (by omega)
   rw [if_pos rfl, e3]; simp only [Option.bind_some, if_true, bne_self_eq_false, Bool.false_eq_true, if_false]
   rw [e2]; simp only [Option.bind_some, if_true, bne_self_eq_false, Bool.false_eq_true, if_false]
   exact ⟨_, _, _, _, _, _, _, rfl, by omega, by omega, by omega, by omega⟩
  | false =>
   rw [if_neg (by decide)]
   by_cases h2 : v = 2
   ·rw [if_pos h2]; exact j1 _
   ·rw [if_neg h2]
    by_cases h3 : v = 3
    ·rw [if_pos h3]; exact j1 _
    ·rw [if_neg h3]; exact j1 _
 by_cases hv : v = 0
 ·rw [if_pos hv]; exact j0 _
 ·rw [if_neg hv]; exact j0 _
theorem num_eq (a b c : Int) : spec_l20Num.f a b c = some ([0, 0, 0], [a, b], c) := by
 unfold spec_l20Num.f
 rw [spec_Zero_eq]; rfl
theorem with_eq (C D : List Int) (K v n : Int) (h0 : 0 ≤ v) (h1 : v < (C.length : Int)) : ∃ C', spec_l20With.f C D K v n = some (C', D, K) ∧ C'.length = C.length := by
 unfold spec_l20With.f
 rw [if_pos h0, if_pos h1]
 exact ⟨_, rfl, List.length_set⟩
theorem act_loop (L : List Int) (hL : ∀ x ∈ L, (Lit.int .u8 x).wf = true) (hl : L.length ≤ 2000) (d : Nat) : ∀ (k : Nat) (acc : List S45) (s : Int), d ≤ 5 → d + 2097300 < k → smA acc (6 - d) → 0 ≤ s → s ≤ 1000 + 20 * (6 - (d : Int)) →
  ∃ l s', spec_l20Act.l0 k acc (d : Int) L s = some (l, s') ∧ s ≤ s' ∧ s' ≤ s + 20 * (d : Int) ∧ smA l 6 := by
 induction d with
 | zero =>
  intro k acc s hd hk ha h0 h1
  obtain ⟨k, rfl⟩ : ∃ m, k = m + 1 := ⟨k - 1, by omega⟩
  refine ⟨acc, s, ?_, by omega, by omega, ha⟩
  simp only [spec_l20Act.l0]
  rw [if_neg (by omega)]
 | succ d ih =>
  intro k acc s hd hk ha h0 h1
  obtain ⟨k, rfl⟩ : ∃ m, k = m + 1 := ⟨k - 1, by omega⟩
  obtain ⟨a, b, c, C, D, K, s1, e1, a1, b1, hC, hD⟩ := line_eq L hL hl s k (by omega) h0 (by omega)
  have hn := ha.1
  have hw : wrap64 (((d + 1 : Nat) : Int) - 1) = (d : Int) := by rw [wrap_id (by omega) (by omega)]; omega
  have hx : (⟨a, b, c, ⟨C, D, K⟩⟩ : S45).f3.f0.length ≤ 4 ∧ (⟨a, b, c, ⟨C, D, K⟩⟩ : S45).f3.f1.length ≤ 4 := ⟨hC, hD⟩
  have hp : smA (acc ++ [⟨a, b, c, ⟨C, D, K⟩⟩]) (6 - d) := (ha.push _ hx).mono (by omega)
  simp only [spec_l20Act.l0]
  rw [if_pos (by omega), e1]; simp only [Option.bind_some, if_true, bne_self_eq_false, Bool.false_eq_true, if_false]
  rw [if_pos (by simp; omega)]; simp only [List.nil_append]
  rw [if_pos (by simp; omega), spec_Act_eq _ k (by omega) (by have := hp.1; omega) hp.sz]; simp only [Option.bind_some, if_true, bne_self_eq_false, Bool.false_eq_true, if_false]
  cases actB (acc ++ [⟨a, b, c, ⟨C, D, K⟩⟩]) with
  | true =>
   simp only [if_true]
   rw [if_pos (by simp; omega), hw]
   obtain ⟨l, s2, e2, a2, b2, hq⟩ := ih k (acc ++ [⟨a, b, c, ⟨C, D, K⟩⟩]) s1 (by omega) (by omega) hp (by omega) (by omega)
   exact ⟨l, s2, e2, by omega, by omega, hq⟩
  | false =>
   simp only [Bool.false_eq_true, if_false]
   rw [hw]
   obtain ⟨l, s2, e2, a2, b2, hq⟩ := ih k acc s1 (by omega) (by omega) (ha.mono (by omega)) (by omega) (by omega)
   exact ⟨l, s2, e2, by omega, by omega, hq⟩
theorem act_eq (L : List Int) (hL : ∀ x ∈ L, (Lit.int .u8 x).wf = true) (hl : L.length ≤ 2000) (s : Int) (k : Nat) (hk : 2097400 < k) (h0 : 0 ≤ s) (h1 : s ≤ 900) :
  ∃ l s', spec_l20Act.f k L s = some (l, s') ∧ s ≤ s' ∧ s' ≤ s + 110 ∧ smA l 6 := by
 unfold spec_l20Act.f
 obtain ⟨v, e1, v0, v1⟩ := pick_eq L hL hl s 2 k (by omega) h0 (by omega) (by omega)
 rw [e1]; simp only [Option.bind_some, if_true, bne_self_eq_false, Bool.false_eq_true, if_false]
 obtain ⟨u, e2, u0, u1⟩ := pick_eq L hL hl (s + 1) 8 k (by omega) (by omega) (by omega) (by omega)
 rw [e2]; simp only [Option.bind_some, if_true, bne_self_eq_false, Bool.false_eq_true, if_false]
 obtain ⟨k, rfl⟩ : ∃ m, k = m + 1 := ⟨k - 1, by omega⟩
 have z3 : (([0, 0, 0] : List Int).length : Int) = 3 := rfl
 have j0 : ∀ b : Bool, ∃ l s', spec_l20Act.j0 (k + 1) v u b L (s + 1 + 1) = some (l, s') ∧ s ≤ s' ∧ s' ≤ s + 110 ∧ smA l 6 := by
  intro b
  simp only [spec_l20Act.j0, num_eq, Option.bind_some]
  cases b with
  | true =>
   obtain ⟨C', e3, hC'⟩ := with_eq [0, 0, 0] [-1, 0] 0 v 1 v0 (by omega)
   rw [if_pos rfl, e3]; simp only [Option.bind_some, if_true, bne_self_eq_false, Bool.false_eq_true, if_false]
   exact ⟨_, _, rfl, by omega, by omega, ⟨by simp, fun x hx => by
    simp only [List.mem_cons, List.not_mem_nil, or_false] at hx
    have hc : C'.length = 3 := hC'
    rcases hx with rfl | rfl | rfl | rfl | rfl <;> simp [hc]⟩⟩
  | false =>
   rw [if_neg (by decide)]
   by_cases h2 : u = 2
   ·rw [if_pos h2]
    exact ⟨_, _, rfl, by omega, by omega, ⟨by simp, fun x hx => by
     simp only [List.mem_cons, List.not_mem_nil, or_false] at hx
     subst hx; simp⟩⟩
   rw [if_neg h2]
   by_cases h3 : u = 3
   ·obtain ⟨C', e3, hC'⟩ := with_eq [0, 0, 0] [-1, 0] 0 v 1 v0 (by omega)
    rw [if_pos h3, e3]; simp only [Option.bind_some, if_true, bne_self_eq_false, Bool.false_eq_true, if_false]
    exact ⟨_, _, rfl, by omega, by omega, ⟨by simp, fun x hx => by
     simp only [List.mem_cons, List.not_mem_nil, or_false] at hx
     have hc : C'.length = 3 := hC'
     rcases hx with rfl | rfl | rfl <;> simp [hc]⟩⟩
   rw [if_neg h3]
   by_cases h4 : u = 4
   ·obtain ⟨C', e3, hC'⟩ := with_eq [0, 0, 0] [0, 0] 0 2 1 (by omega) (by omega)
    rw [if_pos h4, e3]; simp only [Option.bind_some, if_true, bne_self_eq_false, Bool.false_eq_true, if_false]
    exact ⟨_, _, rfl, by omega, by omega, ⟨by simp, fun x hx => by
     simp only [List.mem_cons, List.not_mem_nil, or_false] at hx
     have hc : C'.length = 3 := hC'
     subst hx; simp [hc]⟩⟩
   rw [if_neg h4]
   by_cases h5 : u = 5
   ·obtain ⟨C', e3, hC'⟩ := with_eq [0, 0, 0] [0, 1] 5 0 1 (by omega) (by omega)
    have hc : C'.length = 3 := hC'
    obtain ⟨C2, e4, hC2⟩ := with_eq C' [0, 1] 5 1 (-1) (by omega) (by omega)
    rw [if_pos h5, e3]; simp only [Option.bind_some, if_true, bne_self_eq_false, Bool.false_eq_true, if_false]
    rw [e4]; simp only [Option.bind_some, if_true, bne_self_eq_false, Bool.false_eq_true, if_false]
    exact ⟨_, _, rfl, by omega, by omega, ⟨by simp, fun x hx => by
     simp only [List.mem_cons, List.not_mem_nil, or_false] at hx
     have hc2 : C2.length = 3 := by omega
     rcases hx with rfl | rfl <;> simp [hc2]⟩⟩
   rw [if_neg h5]
   obtain ⟨q, e3, q0, q1⟩ := pick_eq L hL hl (s + 1 + 1) 5 k (by omega) (by omega) (by omega) (by omega)
   rw [e3]; simp only [Option.bind_some, if_true, bne_self_eq_false, Bool.false_eq_true, if_false]
   obtain ⟨l, s2, e4, a4, b4, hq⟩ := act_loop L hL hl (q.toNat + 1) k [] (s + 1 + 1 + 1) (by omega) (by omega) ⟨by simp, by simp⟩ (by omega) (by omega)
   rw [show wrap64 (1 + q) = ((q.toNat + 1 : Nat) : Int) from by rw [wrap_id (by omega) (by omega)]; omega, e4]
   exact ⟨l, s2, rfl, by omega, by omega, hq⟩
 by_cases hu : u = 0
 ·rw [if_pos hu]; exact j0 _
 ·rw [if_neg hu]; exact j0 _
theorem any_loop (L : List Int) (i s : Int) (h0 : 0 ≤ i) (d : Nat) : ∀ (k : Nat) (l : List S45), l.length + d = 7 → d < k → i < (l.length : Int) → (∀ x ∈ l, x.f3.f0.length ≤ 4 ∧ x.f3.f1.length ≤ 4) → ∃ l', spec_l20AnyAct.l0 k l i L s = some (l', s) ∧ smA l' 7 := by
 induction d with
 | zero =>
  intro k l hd hk hi hx
  obtain ⟨k, rfl⟩ : ∃ m, k = m + 1 := ⟨k - 1, by omega⟩
  refine ⟨l, ?_, ⟨by omega, hx⟩⟩
  simp only [spec_l20AnyAct.l0]
  rw [if_neg (by omega)]
 | succ d ih =>
  intro k l hd hk hi hx
  obtain ⟨k, rfl⟩ : ∃ m, k = m + 1 := ⟨k - 1, by omega⟩
  have hm := hx _ (rdA_mem l i h0 hi)
  simp only [spec_l20AnyAct.l0]
  rw [if_pos (by omega), if_pos h0, if_pos hi, if_pos (by omega)]
  have hp : smA (l ++ [rd_T45 l i]) (l.length + 1) := smA.push ⟨Nat.le_refl _, hx⟩ _ hm
  exact ih k _ (by simp; omega) (by omega) (by simp; omega) hp.2
theorem any_eq (L : List Int) (hL : ∀ x ∈ L, (Lit.int .u8 x).wf = true) (hl : L.length ≤ 2000) (s n : Int) (k : Nat) (hk : 2097500 < k) (h0 : 0 ≤ s) (h1 : s ≤ 900) (hn : 1 ≤ n) :
  ∃ l s', spec_l20AnyAct.f k L s n = some (l, s') ∧ s ≤ s' ∧ s' ≤ s + 200 ∧ smA l 8 := by
 unfold spec_l20AnyAct.f
 obtain ⟨l, t, e1, t0, t1, hA⟩ := act_eq L hL hl s k (by omega) h0 h1
 rw [e1]; simp only [Option.bind_some, if_true, bne_self_eq_false, Bool.false_eq_true, if_false]
 obtain ⟨k, rfl⟩ : ∃ m, k = m + 1 := ⟨k - 1, by omega⟩
 by_cases hz : (l.length : Int) = 0
 ·rw [if_pos hz]
  simp only [spec_l20AnyAct.j0, if_true]
  exact ⟨l, t, rfl, by omega, by omega, hA.mono (by omega)⟩
 rw [if_neg hz]
 obtain ⟨p, e2, p0, p1⟩ := pick_eq L hL hl t n (k + 1) (by omega) (by omega) (by omega) hn
 rw [e2]; simp only [Option.bind_some, if_true, bne_self_eq_false, Bool.false_eq_true, if_false]
 simp only [spec_l20AnyAct.j0]
 by_cases hp : p > 0
 ·rw [decide_eq_true hp, if_pos rfl]
  exact ⟨l, t + 1, rfl, by omega, by omega, hA.mono (by omega)⟩
 rw [decide_eq_false hp, if_neg (by decide)]
 obtain ⟨i, e3, i0, i1⟩ := pick_eq L hL hl (t + 1) (l.length : Int) k (by omega) (by omega) (by omega) (by omega)
 rw [e3]; simp only [Option.bind_some, if_true, bne_self_eq_false, Bool.false_eq_true, if_false]
 obtain ⟨u, e4, u0, u1⟩ := pick_eq L hL hl (t + 1 + 1) 6 k (by omega) (by omega) (by omega) (by omega)
 rw [e4]; simp only [Option.bind_some, if_true, bne_self_eq_false, Bool.false_eq_true, if_false]
 have hm := hA.2 _ (rdA_mem l i i0 i1)
 have h8 := hA.mono (n := 8) (by omega)
 by_cases c0 : u = 0
 ·rw [if_pos c0]
  obtain ⟨q, e5, q0, q1⟩ := pick_eq L hL hl (t + 1 + 1 + 1) 4 k (by omega) (by omega) (by omega) (by omega)
  rw [e5]; simp only [Option.bind_some, if_true, bne_self_eq_false, Bool.false_eq_true, if_false]
  rw [if_pos q0, if_pos (show q < ((([0, 5, 4, 1] : List Int).length : Nat) : Int) from q1), if_pos i0, if_pos i1]
  exact ⟨_, _, rfl, by omega, by omega, h8.put _ _ hm⟩
 rw [if_neg c0]
 by_cases c1 : u = 1
 ·rw [if_pos c1]
  obtain ⟨q, e5, q0, q1⟩ := pick_eq L hL hl (t + 1 + 1 + 1) 3 k (by omega) (by omega) (by omega) (by omega)
  rw [e5]; simp only [Option.bind_some, if_true, bne_self_eq_false, Bool.false_eq_true, if_false]
  rw [if_pos q0, if_pos (show q < ((([-1, 3, 2] : List Int).length : Nat) : Int) from q1), if_pos i0, if_pos i1]
  exact ⟨_, _, rfl, by omega, by omega, h8.put _ _ hm⟩
 rw [if_neg c1]
 by_cases c2 : u = 2
 ·rw [if_pos c2]
  obtain ⟨q, e5, q0, q1⟩ := pick_eq L hL hl (t + 1 + 1 + 1) 4 k (by omega) (by omega) (by omega) (by omega)
  rw [e5]; simp only [Option.bind_some, if_true, bne_self_eq_false, Bool.false_eq_true, if_false]
  rw [if_pos q0, if_pos (show q < ((([0, -1, 7, 6] : List Int).length : Nat) : Int) from q1), if_pos i0, if_pos i1]
  exact ⟨_, _, rfl, by omega, by omega, h8.put _ _ hm⟩
 rw [if_neg c2]
 by_cases c3 : u = 3
 ·rw [if_pos c3]
  obtain ⟨C, D, K, s2, e5, a5, b5, hF⟩ := form_eq L hL hl (t + 1 + 1 + 1) 2 k (by omega) (by omega) (by omega) (by omega)
  have f1 := hF.1.1
  have f2 := hF.2.1.1
  rw [e5]; simp only [Option.bind_some, if_true, bne_self_eq_false, Bool.false_eq_true, if_false]
  rw [if_pos i0, if_pos i1]
  exact ⟨_, _, rfl, by omega, by omega, h8.put _ _ ⟨by show C.length ≤ 4; omega, by show D.length ≤ 4; omega⟩⟩
 rw [if_neg c3]
 have hlen := hA.1
 by_cases c4 : u = 4
 ·rw [if_pos c4]
  obtain ⟨l', e5, h5⟩ := any_loop L i (t + 1 + 1 + 1) i0 (7 - l.length) k l (by omega) (by omega) i1 hA.2
  rw [e5]
  exact ⟨_, _, rfl, by omega, by omega, h5.mono (by omega)⟩
 rw [if_neg c4]
 obtain ⟨C, D, K, e5, hC, _, hD, _⟩ := small_eq L hL hl (t + 1 + 1 + 1) k (by omega) (by omega) (by omega)
 rw [e5]; simp only [Option.bind_some, if_true, bne_self_eq_false, Bool.false_eq_true, if_false]
 obtain ⟨C2, D2, K2, e6, hC2, _, hD2, _⟩ := small_eq L hL hl (t + 1 + 1 + 1 + 6) k (by omega) (by omega) (by omega)
 rw [e6]; simp only [Option.bind_some, if_true, bne_self_eq_false, Bool.false_eq_true, if_false]
 rw [if_pos (by simp; omega)]
 refine ⟨_, _, rfl, by omega, by omega, ?_⟩
 have s1 := hA.push ⟨1, 0, 1, ⟨C, D, K⟩⟩ ⟨by show C.length ≤ 4; omega, by show D.length ≤ 4; omega⟩
 have s2 := s1.push ⟨1, 0, 1, ⟨C2, D2, K2⟩⟩ ⟨by show C2.length ≤ 4; omega, by show D2.length ≤ 4; omega⟩
 rw [List.append_assoc] at s2
 exact s2
theorem drawRun_eq (L : List Int) (hL : ∀ x ∈ L, (Lit.int .u8 x).wf = true) (k : Nat) (hk : 2097600 < k) : ∃ l V A, spec_DrawActRun.f k L = some (l, V, A) ∧ smA l 8 ∧ smallL V 4 10001 ∧ smallL A 3 10 := by
 unfold spec_DrawActRun.f
 obtain ⟨M, e1, hM, hl⟩ := open_eq L hL
 rw [e1]; simp only [Option.bind_some, if_true, bne_self_eq_false, Bool.false_eq_true, if_false]
 obtain ⟨l, s1, e2, a2, b2, hA⟩ := any_eq M hM hl 0 16 k (by omega) (by omega) (by omega) (by omega)
 rw [e2]; simp only [Option.bind_some, if_true, bne_self_eq_false, Bool.false_eq_true, if_false]
 obtain ⟨V, s2, e3, a3, b3, hV⟩ := vals_eq M hM hl s1 16 k (by omega) (by omega) (by omega) (by omega)
 rw [e3]; simp only [Option.bind_some, if_true, bne_self_eq_false, Bool.false_eq_true, if_false]
 obtain ⟨A, s3, e4, a4, b4, hR⟩ := args_eq M hM hl s2 16 k (by omega) (by omega) (by omega) (by omega)
 rw [e4]; simp only [Option.bind_some, if_true, bne_self_eq_false, Bool.false_eq_true, if_false]
 exact ⟨_, _, _, rfl, hA, hV, hR⟩

def runF (V R : List Int) : Nat → List S45 → List Int → List Int → Nat → Int × List Int × List Int
 | 0, _, own, told, _ => endV V own told
 | d + 1, l, own, told, i =>
  if i < l.length then
   (if (rd_T45 l (i : Int)).f0 = 1 then (if lineV (rd_T45 l (i : Int)) own R < 0 then runF V R d l own told (i + (rd_T45 l (i : Int)).f2.toNat + 1) else runF V R d l own told (i + 1))
    else if (rd_T45 l (i : Int)).f0 = 2 then runF V R d l (own.set (rd_T45 l (i : Int)).f1.toNat (wrap64 (rd own (rd_T45 l (i : Int)).f1 + lineV (rd_T45 l (i : Int)) own R))) told (i + 1)
    else if (rd_T45 l (i : Int)).f0 = 3 then runF V R d l own (told ++ [lineV (rd_T45 l (i : Int)) own R]) (i + 1)
    else (2, [], V))
  else endV V own told
def runA (l : List S45) (V R : List Int) : Int × List Int × List Int := if (actB l && (okB V 3 10000 && okB R 2 9)) = true then runF V R 8 l V [] 0 else (0, [], [])
theorem runF_loop (l : List S45) (V R : List Int) (h6 : l.length ≤ 6) (hl : ∀ x ∈ l, lnB x = true) (hV : V.length = 3) (hR : (R.length : Int) = 2) (d : Nat) : ∀ (i : Nat) (own told : List Int), l.length ≤ i + d → i ≤ 20 → own.length = 3 → told.length + d ≤ 100 →
  (runF V R d l own told i).2.1.length ≤ 100 ∧ (runF V R d l own told i).2.2.length = 3 ∧ ∀ k, d + 30 < k → spec_ActRun.l0 k l V R own told (i : Int) = some (runF V R d l own told i) ∧ impl_ActRun.l0 k l V R own told (i : Int) = some (runF V R d l own told i) := by
 induction d with
 | zero =>
  intro i own told hi h20 ho ht
  obtain ⟨p, q⟩ := endV_len V own told ho hV
  simp only [runF]
  exact ⟨by omega, q, fun k hk => run_stop l V R own told i (by omega) ho hV k (by omega)⟩
 | succ d ih =>
  intro i own told hi h20 ho ht
  by_cases hlt : i < l.length
  case neg =>
   obtain ⟨p, q⟩ := endV_len V own told ho hV
   simp only [runF]
   rw [if_neg hlt]
   exact ⟨by omega, q, fun k hk => run_stop l V R own told i (by omega) ho hV k (by omega)⟩
  have hx := hl _ (List.getElem_mem hlt)
  have hrd : rd_T45 l (i : Int) = l[i] := getDG z45 l i hlt
  have hw : wrap64 ((i : Int) + 1) = ((i + 1 : Nat) : Int) := by rw [wrap_id (by omega) (by omega)]; omega
  generalize l[i] = x at hx hrd
  simp only [runF]
  rw [if_pos hlt, hrd]
  rcases lineB_cases hx with ⟨h1, h2, h3⟩ | ⟨h1, h2, h3⟩ | ⟨h1, h3⟩ | h1
  ·by_cases hn : lineV x own R < 0
   ·obtain ⟨p, q, g⟩ := ih (i + x.f2.toNat + 1) own told (by omega) (by omega) ho (by omega)
    rw [if_pos h1, if_pos hn]
    refine ⟨p, q, fun k hk => ?_⟩
    obtain ⟨k, rfl⟩ : ∃ m, k = m + 1 := ⟨k - 1, by omega⟩
    obtain ⟨e1, e2⟩ := lineV_eq x own R h3 (by omega) hR k (by omega)
    have hw2 : wrap64 (wrap64 ((i : Int) + x.f2) + 1) = ((i + x.f2.toNat + 1 : Nat) : Int) := by rw [wrap_id (x := (i : Int) + x.f2) (by omega) (by omega), wrap_id (by omega) (by omega)]; omega
    refine ⟨?_, ?_⟩
    ·simp only [spec_ActRun.l0, hrd]
     rw [if_pos (by omega), if_pos (by omega), if_pos h1, e1]
     simp only [Option.bind_some]
     rw [if_pos hn, hw2]
     exact (g k (by omega)).1
    ·simp only [impl_ActRun.l0, hrd]
     rw [if_pos (by omega), if_pos (by omega), if_neg (by omega), e2]
     simp only [Option.bind_some]
     rw [if_pos h1, if_pos hn, hw2]
     exact (g k (by omega)).2
   ·obtain ⟨p, q, g⟩ := ih (i + 1) own told (by omega) (by omega) ho (by omega)
    rw [if_pos h1, if_neg hn]
    refine ⟨p, q, fun k hk => ?_⟩
    obtain ⟨k, rfl⟩ : ∃ m, k = m + 1 := ⟨k - 1, by omega⟩
    obtain ⟨e1, e2⟩ := lineV_eq x own R h3 (by omega) hR k (by omega)
    refine ⟨?_, ?_⟩
    ·simp only [spec_ActRun.l0, hrd]
     rw [if_pos (by omega), if_pos (by omega), if_pos h1, e1]
     simp only [Option.bind_some]
     rw [if_neg hn, hw]
     exact (g k (by omega)).1
    ·simp only [impl_ActRun.l0, hrd]
     rw [if_pos (by omega), if_pos (by omega), if_neg (by omega), e2]
     simp only [Option.bind_some]
     rw [if_pos h1, if_neg hn, hw]
     exact (g k (by omega)).2
  ·obtain ⟨p, q, g⟩ := ih (i + 1) (own.set x.f1.toNat (wrap64 (rd own x.f1 + lineV x own R))) told (by omega) (by omega) (by rw [List.length_set]; exact ho) (by omega)
   rw [if_neg (by omega), if_pos h1]
   refine ⟨p, q, fun k hk => ?_⟩
   obtain ⟨k, rfl⟩ : ∃ m, k = m + 1 := ⟨k - 1, by omega⟩
   obtain ⟨e1, e2⟩ := lineV_eq x own R h3 (by omega) hR k (by omega)
   refine ⟨?_, ?_⟩
   ·simp only [spec_ActRun.l0, hrd]
    rw [if_pos (by omega), if_pos (by omega), if_neg (by omega), if_pos h1, if_pos (by omega), if_pos (by omega), e1]
    simp only [Option.bind_some]
    rw [hw]
    exact (g k (by omega)).1
   ·simp only [impl_ActRun.l0, hrd]
    rw [if_pos (by omega), if_pos (by omega), if_neg (by omega), e2]
    simp only [Option.bind_some]
    rw [if_neg (by omega), if_pos h1, if_pos (by omega), if_pos (by omega), hw]
    exact (g k (by omega)).2
  ·obtain ⟨p, q, g⟩ := ih (i + 1) own (told ++ [lineV x own R]) (by omega) (by omega) ho (by simp; omega)
   rw [if_neg (by omega), if_neg (by omega), if_pos h1]
   refine ⟨p, q, fun k hk => ?_⟩
   obtain ⟨k, rfl⟩ : ∃ m, k = m + 1 := ⟨k - 1, by omega⟩
   obtain ⟨e1, e2⟩ := lineV_eq x own R h3 (by omega) hR k (by omega)
   refine ⟨?_, ?_⟩
   ·simp only [spec_ActRun.l0, hrd]
    rw [if_pos (by omega), if_pos (by omega), if_neg (by omega), if_neg (by omega), if_pos h1, e1]
    simp only [Option.bind_some]
    rw [if_pos (by omega), hw]
    exact (g k (by omega)).1
   ·simp only [impl_ActRun.l0, hrd]
    rw [if_pos (by omega), if_pos (by omega), if_neg (by omega), e2]
    simp only [Option.bind_some]
    rw [if_neg (by omega), if_neg (by omega), if_pos h1, if_pos (by omega), hw]
    exact (g k (by omega)).2
  ·rw [if_neg (by omega), if_neg (by omega), if_neg (by omega)]
   refine ⟨by simp, hV, fun k hk => ?_⟩
   obtain ⟨k, rfl⟩ : ∃ m, k = m + 1 := ⟨k - 1, by omega⟩
   have hc : slices_Clone_int_int.f V = some V := by unfold slices_Clone_int_int.f; rw [if_pos (by omega)]
   refine ⟨?_, ?_⟩
   ·simp only [spec_ActRun.l0, hrd]
    rw [if_pos (by omega), if_pos (by omega), if_neg (by omega), if_neg (by omega), if_neg (by omega)]
    simp only [Option.bind_some]
    rw [if_pos (by simp; omega)]
    rfl
   ·simp only [impl_ActRun.l0, hrd]
    rw [if_pos (by omega), if_pos (by omega), if_pos h1, hc]
    rfl
theorem runA_eq (l : List S45) (V R : List Int) (hl : (l.length : Int) ≤ 1048576) (hw : ∀ x ∈ l, (x.f3.f0.length : Int) ≤ 1048576 ∧ (x.f3.f1.length : Int) ≤ 1048576) (hV : V.length ≤ 1048576) (hR : R.length ≤ 1048576) :
  (runA l V R).2.1.length ≤ 100 ∧ (runA l V R).2.2.length ≤ 3 ∧ ∀ k, 2097300 < k → spec_ActRun.f k l V R = some (runA l V R) ∧ impl_ActRun.f k l V R = some (runA l V R) := by
 unfold runA
 by_cases hp : (actB l && (okB V 3 10000 && okB R 2 9)) = true
 ·rw [if_pos hp]
  simp only [Bool.and_eq_true] at hp
  obtain ⟨h1, h2, h3⟩ := hp
  obtain ⟨a1, a2⟩ := actG_all l 0 _ h1
  have hv3 := okB_len h2
  obtain ⟨p, q, g⟩ := runF_loop l V R (by omega) a2 (by omega) (okB_len h3) 8 0 V [] (by omega) (by omega) (by omega) (by simp)
  refine ⟨p, by omega, fun k hk => ?_⟩
  obtain ⟨j, rfl⟩ : ∃ m, k = m + 1 := ⟨k - 1, by omega⟩
  have hc : slices_Clone_int_int.f V = some V := by unfold slices_Clone_int_int.f; rw [if_pos (by omega)]
  obtain ⟨g1, g2⟩ := g j (by omega)
  unfold spec_ActRun.f impl_ActRun.f
  rw [spec_Act_eq l _ (by omega) hl hw, impl_Act_eq l _ (by omega) hl, h1]; simp only [Option.bind_some, if_true]
  rw [spec_Val_eq V _ (by omega) (by omega), impl_Val_eq, h2]; simp only [Option.bind_some, if_true]
  rw [spec_Arg_eq R _ (by omega) (by omega), impl_Arg_eq, h3]
  simp only [Option.bind_some, spec_ActRun.j0, impl_ActRun.j0, Bool.not_true, Bool.false_eq_true, if_false, hc, List.nil_append]
  rw [if_pos (by simp; omega)]
  exact ⟨g1, g2⟩
 ·rw [if_neg hp]
  refine ⟨by simp, by simp, fun k hk => ?_⟩
  obtain ⟨j, rfl⟩ : ∃ m, k = m + 1 := ⟨k - 1, by omega⟩
  have no : ∀ b : Bool, b = true → spec_ActRun.j0 (j + 1) l V R b = some (0, [], []) ∧ impl_ActRun.j0 (j + 1) l V R b = some (0, [], []) := by intro b hb; subst hb; simp [spec_ActRun.j0, impl_ActRun.j0]
  unfold spec_ActRun.f impl_ActRun.f
  rw [spec_Act_eq l _ (by omega) hl hw, impl_Act_eq l _ (by omega) hl]; simp only [Option.bind_some]
  cases h1 : actB l with
  | false => simp only [Bool.false_eq_true, if_false]; exact no _ rfl
  | true =>
   simp only [if_true]
   rw [spec_Val_eq V _ (by omega) (by omega), impl_Val_eq]; simp only [Option.bind_some]
   cases h2 : okB V 3 10000 with
   | false => simp only [Bool.false_eq_true, if_false]; exact no _ rfl
   | true =>
    simp only [if_true]
    rw [spec_Arg_eq R _ (by omega) (by omega), impl_Arg_eq]; simp only [Option.bind_some]
    cases h3 : okB R 2 9 with
    | false => exact no _ rfl
    | true => exact absurd (by rw [h1, h2, h3]; rfl) hp
theorem rdA_shift (l : List S45) (x : S45) (i : Nat) : rd_T45 (x :: l) ((i + 1 : Nat) : Int) = rd_T45 l (i : Int) := by
 unfold rd_T45
 rw [show (((i + 1 : Nat) : Int)).toNat = i + 1 from by omega, show ((i : Int)).toNat = i from by omega]
 simp
theorem rdA_head (l : List S45) (x : S45) : rd_T45 (x :: l) ((0 : Nat) : Int) = x := rfl
theorem run_shift (V R : List Int) (x : S45) (d : Nat) : ∀ (l : List S45) (own told : List Int) (i : Nat), runF V R d (x :: l) own told (i + 1) = runF V R d l own told i := by
 induction d with
 | zero => intro l own told i; rfl
 | succ d ih =>
  intro l own told i
  simp only [runF, List.length_cons, rdA_shift]
  by_cases h : i < l.length
  ·rw [if_pos (by omega), if_pos h]
   generalize rd_T45 l (i : Int) = y
   by_cases h1 : y.f0 = 1
   ·rw [if_pos h1, if_pos h1]
    by_cases hn : lineV y own R < 0
    ·rw [if_pos hn, if_pos hn, show i + 1 + y.f2.toNat + 1 = (i + y.f2.toNat + 1) + 1 from by omega]; exact ih l own told _
    ·rw [if_neg hn, if_neg hn]; exact ih l own told _
   rw [if_neg h1, if_neg h1]
   by_cases h2 : y.f0 = 2
   ·rw [if_pos h2, if_pos h2]; exact ih l _ told _
   rw [if_neg h2, if_neg h2]
   by_cases h3 : y.f0 = 3
   ·rw [if_pos h3, if_pos h3]; exact ih l own _ _
   rw [if_neg h3, if_neg h3]
  ·rw [if_neg (by omega), if_neg h]
theorem run_more (V R : List Int) (d : Nat) : ∀ (l : List S45) (own told : List Int) (i : Nat), l.length ≤ i + d → runF V R (d + 1) l own told i = runF V R d l own told i := by
 induction d with
 | zero =>
  intro l own told i h
  simp only [runF]
  rw [if_neg (by omega)]
 | succ d ih =>
  intro l own told i hi
  rw [runF]
  conv => rhs; rw [runF]
  by_cases h : i < l.length
  ·rw [if_pos h, if_pos h]
   generalize rd_T45 l (i : Int) = y
   rw [ih l own told _ (by omega), ih l own told _ (by omega), ih l _ told _ (by omega), ih l own _ _ (by omega)]
  ·rw [if_neg h, if_neg h]
theorem actG_mono : ∀ (l : List S45) (t t' n n' : Int), 0 ≤ t' → t' ≤ t → t + (l.length : Int) ≤ 1000 → n' ≤ 6 → actG l t n = true → actG l t' n' = true
 | [], t, t', n, n', h0, h1, h2, h3, h => by
  simp only [actG, Bool.and_eq_true, decide_eq_true_eq] at h ⊢
  omega
 | x :: xs, t, t', n, n', h0, h1, h2, h3, h => by
  simp only [actG, Bool.and_eq_true] at h ⊢
  simp only [List.length_cons] at h2
  refine ⟨h.1, ?_⟩
  have w1 : wrap64 (t + 1) = t + 1 := wrap_id (by omega) (by omega)
  have w2 : wrap64 (t' + 1) = t' + 1 := wrap_id (by omega) (by omega)
  have h4 := h.2
  rw [w1] at h4
  rw [w2]
  by_cases hx : x.f0 = 1
  ·rw [if_pos hx] at h4 ⊢
   exact actG_mono xs (t + 1) (t' + 1) n n' (by omega) (by omega) (by omega) h3 h4
  ·rw [if_neg hx] at h4 ⊢
   exact actG_mono xs t t' n n' h0 h1 (by omega) h3 h4
theorem co_res (c : Int) (x : List Int) (k : Nat) (hx : x.length ≤ 100) (hk : 1000 < k) : laws_coRes.f k c x c x = some true := by
 unfold laws_coRes.f
 rw [if_pos rfl, co_eq x x k (by omega) (by omega)]
 simp
theorem test_line (s K : Int) (V A : List Int) (hK : -20 ≤ K ∧ K ≤ 20) : lineV ⟨1, 0, s, ⟨[0, 0, 0], [0, 0], K⟩⟩ V A = K := by
 show atV 0 0 0 0 0 K _ _ _ _ _ = K
 unfold atV
 simp only [Int.zero_mul, Int.add_zero]
 exact wrap_id (by omega) (by omega)
theorem test_ok (s K : Int) (hs : 1 ≤ s ∧ s ≤ 6) (hK : -20 ≤ K ∧ K ≤ 20) : lnB ⟨1, 0, s, ⟨[0, 0, 0], [0, 0], K⟩⟩ = true := by
 show lineB 1 0 s [0, 0, 0] [0, 0] K = true
 unfold lineB smallB
 rw [if_pos rfl, ibB_iff.mpr hs, ibB_iff.mpr hK, show okB [0, 0, 0] 3 2 = true from okB_iff.mpr ⟨rfl, fun x h => by simp at h; rw [wrap_id (by omega) (by omega)]; omega⟩, show okB [0, 0] 2 2 = true from okB_iff.mpr ⟨rfl, fun x h => by simp at h; rw [wrap_id (by omega) (by omega)]; omega⟩]
 rfl
theorem ahead (F : S45) (l : List S45) (V A : List Int) (h1 : F.f0 = 1) (hl : l.length ≤ 6) : runF V A 8 (F :: l) V [] 0 = (if lineV F V A < 0 then runF V A 7 (F :: l) V [] (0 + F.f2.toNat + 1) else runF V A 8 l V [] 0) := by
 rw [runF]
 rw [if_pos (by simp), rdA_head, if_pos h1]
 by_cases hn : lineV F V A < 0
 ·rw [if_pos hn, if_pos hn]
 ·rw [if_neg hn, if_neg hn, run_shift, run_more V A 7 l V [] 0 (by omega)]
theorem FnActSkip : laws_FnActSkip.Pure := by
 intro L hL
 obtain ⟨k, hk⟩ : ∃ k : Nat, 3000000 < k := ⟨3000001, by omega⟩
 refine ⟨k + 2, ?_⟩
 unfold laws_FnActSkip.f
 by_cases h1 : (L.length : Int) > 1048576
 ·rw [if_pos h1]
 rw [if_neg h1]
 obtain ⟨l, V, A, e, hA, hV, hR⟩ := drawRun_eq L hL.2 (k + 2) (by omega)
 rw [e]; simp only [Option.bind_some, if_true, bne_self_eq_false, Bool.false_eq_true, if_false]
 have t1 := hA.1
 have t2 := hV.1
 have t3 := hR.1
 obtain ⟨p, q, g⟩ := runA_eq l V A (by omega) hA.sz (by omega) (by omega)
 rw [(g _ (by omega)).2]; simp only [Option.bind_some, if_true, bne_self_eq_false, Bool.false_eq_true, if_false]
 rw [(g _ (by omega)).1]; simp only [Option.bind_some, if_true, bne_self_eq_false, Bool.false_eq_true, if_false]
 rw [co_res _ _ _ p (by omega)]; simp only [Option.bind_some, if_true, bne_self_eq_false, Bool.false_eq_true, if_false]
 rw [co_eq _ _ (k + 2) (by omega) (by omega)]
 simp only [Option.bind_some, decide_true, Bool.not_true, laws_FnActSkip.j0, Bool.false_eq_true, if_false]
 have n3 : 1 ≤ 1 + (L.length : Int) % 3 ∧ 1 + (L.length : Int) % 3 ≤ 6 := by omega
 have n7 : -20 ≤ (L.length : Int) % 7 ∧ (L.length : Int) % 7 ≤ 20 := by omega
 have m7 : -20 ≤ (-1) - (L.length : Int) % 7 ∧ (-1) - (L.length : Int) % 7 ≤ 20 := by omega
 have b7 : 0 ≤ (L.length : Int) % 7 := by omega
 have eF : ∃ F : S45, (⟨1, 0, 1 + (L.length : Int) % 3, ⟨[0, 0, 0], [0, 0], (L.length : Int) % 7⟩⟩ : S45) = F ∧ F.f0 = 1 ∧ ¬ lineV F V A < 0 ∧ lnB F = true ∧ F.f3.f0.length ≤ 4 ∧ F.f3.f1.length ≤ 4 := ⟨_, rfl, rfl, by rw [test_line _ _ _ _ n7]; omega, test_ok _ _ n3 n7, by simp, by simp⟩
 have eG : ∃ G : S45, (⟨1, 0, 1, ⟨[0, 0, 0], [0, 0], (-1) - (L.length : Int) % 7⟩⟩ : S45) = G ∧ G.f0 = 1 ∧ G.f2 = 1 ∧ lineV G V A < 0 ∧ lnB G = true ∧ G.f3.f0.length ≤ 4 ∧ G.f3.f1.length ≤ 4 := ⟨_, rfl, rfl, rfl, by rw [test_line _ _ _ _ m7]; omega, test_ok _ _ (by decide) m7, by simp, by simp⟩
 obtain ⟨F, hF, F1, F2, F3, F4, F5⟩ := eF
 obtain ⟨G, hG, G1, G2, G3, G4, G5, G6⟩ := eG
 rw [hF, hG]
 clear hF hG n3 n7 m7 b7
 rw [if_pos (by simp; omega), if_pos (by simp; omega)]
 have hold : ∀ y z : List S45, laws_FnActSkip.j1 (k + 1) l V A (runA l V A).2.2 y z true (runA l V A).1 (runA l V A).2.1 = some true := fun y z => by
  simp only [laws_FnActSkip.j1, if_true]
  rw [coHolds_eq]; rfl
 by_cases h0 : (runA l V A).1 = 0
 ·rw [if_pos h0]; exact hold _ _
 rw [if_neg h0]
 have hok : (actB l && (okB V 3 10000 && okB A 2 9)) = true := by
  by_cases hc : (actB l && (okB V 3 10000 && okB A 2 9)) = true
  ·exact hc
  ·exact absurd (by unfold runA; rw [if_neg hc]) h0
 have hok2 := hok
 simp only [Bool.and_eq_true] at hok2
 obtain ⟨o1, o2, o3⟩ := hok2
 have hl6 := (actG_all l 0 _ o1).1
 have pF : smA ([F] ++ l) 9 := ⟨by simp; omega, fun x h => by
  rcases List.mem_append.mp h with h | h
  ·simp only [List.mem_singleton] at h; subst h; exact ⟨F4, F5⟩
  ·exact hA.2 x h⟩
 have pG : smA ([G] ++ l) 9 := ⟨by simp; omega, fun x h => by
  rcases List.mem_append.mp h with h | h
  ·simp only [List.mem_singleton] at h; subst h; exact ⟨G5, G6⟩
  ·exact hA.2 x h⟩
 have l1 := pF.1
 have l2 := pG.1
 rw [impl_Act_eq _ (k + 1) (by omega) (by omega)]; simp only [Option.bind_some, if_true, bne_self_eq_false, Bool.false_eq_true, if_false]
 cases hy : actB ([F] ++ l) with
 | false => simp only [Bool.false_eq_true, if_false]; exact hold _ _
 | true =>
  simp only [if_true]
  match l, t1, p, q, g, hold, h0, hok, o1, hl6, pF, pG, l1, l2, hy, hA with
  | [], _, _, _, _, hold, _, _, _, _, _, _, _, _, _, _ => exact hold _ _
  | x :: t, t1, p, q, g, hold, h0, hok, o1, hl6, pF, pG, l1, l2, hy, hA =>
   have hz : (((x :: t : List S45).length : Int) == 0) = false := beq_eq_false_iff_ne.mpr (by simp; omega)
   rw [hz]
   simp only [laws_FnActSkip.j1, Bool.false_eq_true, if_false]
   simp only [List.length_cons] at t1 hl6
   have hG2 : actB ([G] ++ (x :: t)) = true := by
    have h2 : actG (F :: x :: t) 0 _ = true := hy
    show actG (G :: x :: t) 0 _ = true
    rw [actG, F1, if_pos rfl] at h2
    rw [actG, G1, if_pos rfl, G4]
    simp only [Bool.and_eq_true] at h2 ⊢
    exact ⟨trivial, h2.2⟩
   have ht : actB t = true := by
    have h2 : actG (x :: t) 0 _ = true := o1
    rw [actG] at h2
    simp only [Bool.and_eq_true] at h2
    refine actG_mono t _ 0 _ _ (by omega) ?_ ?_ (by omega) h2.2
    ·split
     ·rw [wrap_id (by omega) (by omega)]; omega
     ·omega
    ·split
     ·rw [wrap_id (by omega) (by omega)]; omega
     ·omega
   have pt : smA t 8 := ⟨by omega, fun y h => hA.2 y (by simp [h])⟩
   obtain ⟨p1, q1, g1⟩ := runA_eq ([F] ++ (x :: t)) V A (by omega) pF.sz (by omega) (by omega)
   obtain ⟨p2, q2, g2⟩ := runA_eq ([G] ++ (x :: t)) V A (by omega) pG.sz (by omega) (by omega)
   obtain ⟨p4, q4, g4⟩ := runA_eq t V A (by omega) pt.sz (by omega) (by omega)
   have r0 : runA (x :: t) V A = runF V A 8 (x :: t) V [] 0 := by unfold runA; rw [hok]; rfl
   have r1 : runA ([F] ++ (x :: t)) V A = runA (x :: t) V A := by
    rw [r0]
    unfold runA
    rw [hy, o2, o3]
    show runF V A 8 (F :: x :: t) V [] 0 = _
    rw [ahead F (x :: t) V A F1 (by simp; omega), if_neg F2]
   have r4 : runA t V A = runF V A 8 t V [] 0 := by unfold runA; rw [ht, o2, o3]; rfl
   have r2 : runA ([G] ++ (x :: t)) V A = runA t V A := by
    rw [r4]
    unfold runA
    rw [hG2, o2, o3]
    show runF V A 8 (G :: x :: t) V [] 0 = _
    rw [ahead G (x :: t) V A G1 (by simp; omega), if_pos G3, G2]
    show runF V A 7 (G :: x :: t) V [] (0 + 1 + 1) = _
    rw [run_shift, run_shift, run_more V A 7 t V [] 0 (by omega)]
   rw [(g1 _ (by omega)).2, (g2 _ (by omega)).2]; simp only [Option.bind_some]
   rw [if_pos (by simp; omega), show (x :: t).drop 1 = t from rfl, (g4 _ (by omega)).2]; simp only [Option.bind_some]
   rw [r1, r2, co_res _ _ _ p (by omega)]; simp only [Option.bind_some, if_true]
   rw [co_eq _ _ k (by omega) (by omega), co_res _ _ _ p4 (by omega)]; simp only [Option.bind_some, decide_true, if_true]
   rw [co_eq _ _ k (by omega) (by omega)]; simp

end Go.Proofs.Ytgalnmgkcdmnkaa.Pure
