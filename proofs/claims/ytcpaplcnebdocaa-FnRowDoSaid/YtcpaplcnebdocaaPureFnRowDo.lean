/- The plain law FnRowDo: what the printed functions compute answers as the statement says. -/
import Derived.Test.YtcpaplcnebdocaaQFnRowDox15
import Derived.OpenShut
set_option linter.unusedVariables false
set_option linter.unusedSimpArgs false
namespace Go.Proofs.Ytcpaplcnebdocaa.Pure
open Go.RowKit Go.Proofs.Ytcpaplcnebdocaa.QFnRowDo Go.Proofs.YtcpaplcnebdocaaW.PrintWords Go.Proofs.YtcpaplcnebdocaaW.PrintLast Go.Proofs.Ytcpaplcnebdocaa.HWords

theorem wrap_id {x : Int} (h0 : -9223372036854775808 ≤ x) (h1 : x ≤ 9223372036854775807) : wrap64 x = x := by unfold wrap64; omega
theorem wrap_l (x y : Int) : wrap64 (wrap64 x + y) = wrap64 (x + y) := by unfold wrap64; omega
theorem wrap_r (x y : Int) : wrap64 (x + wrap64 y) = wrap64 (x + y) := by unfold wrap64; omega
theorem wrap_ll (x y z : Int) : wrap64 (wrap64 x + y + z) = wrap64 (x + y + z) := by unfold wrap64; omega
theorem wrap_lr (x y z : Int) : wrap64 (x + wrap64 y + z) = wrap64 (x + y + z) := by unfold wrap64; omega
theorem getD_at (l : List Int) (i : Nat) (h : i < l.length) : rd l (i : Int) = l[i] := by
 unfold rd
 rw [show ((i : Int)).toNat = i from by omega, List.getD_eq_getElem?_getD, List.getElem?_eq_getElem h]
 rfl
def ibB (n lo hi : Int) : Bool := decide (lo ≤ n) && decide (n ≤ hi)
def okB (l : List Int) (n m : Int) : Bool := decide ((l.length : Int) = n) && l.all (fun x => ibB x (wrap64 (-m)) m)
theorem ibB_iff {n lo hi : Int} : ibB n lo hi = true ↔ lo ≤ n ∧ n ≤ hi := by unfold ibB; simp
theorem okB_iff {l : List Int} {n m : Int} : okB l n m = true ↔ (l.length : Int) = n ∧ ∀ x ∈ l, wrap64 (-m) ≤ x ∧ x ≤ m := by
 unfold okB ibB; simp

theorem l1In_eq (n lo hi : Int) : spec_l1In.f n lo hi = some (ibB n lo hi) := by
 unfold spec_l1In.f ibB
 by_cases h : n ≥ lo
 ·rw [if_pos h]; simp [h]
 ·rw [if_neg h]; simp [h]

theorem in_eq (n lo hi : Int) : impl_in.f n lo hi = some (ibB n lo hi) := by
 unfold impl_in.f ibB
 by_cases h : n ≥ lo
 ·rw [if_pos h]; simp [h]
 ·rw [if_neg h]; simp [h]

theorem within_eq (l : List Int) (n m : Int) : impl_within.f l n m = some (okB l n m) := by
 unfold impl_within.f okB
 rw [List.all_eq_not_any_not]
 rfl

theorem all_loop (l : List Int) (m : Int) (hl : l.length ≤ 1048576) (d : Nat) : ∀ (k i : Nat), i + d = l.length → d < k → spec_l1All.l0 k l m (i : Int) = some ((l.drop i).all fun x => ibB x (wrap64 (-m)) m) := by
 induction d with
 | zero =>
  intro k i hi hk
  obtain ⟨k, rfl⟩ : ∃ m, k = m + 1 := ⟨k - 1, by omega⟩
  simp only [spec_l1All.l0]
  rw [if_neg (by omega), List.drop_of_length_le (by omega)]
  rfl
 | succ d ih =>
  intro k i hi hk
  obtain ⟨k, rfl⟩ : ∃ m, k = m + 1 := ⟨k - 1, by omega⟩
  have hlt : i < l.length := by omega
  simp only [spec_l1All.l0]
  rw [if_pos (by omega), if_pos (by omega), l1In_eq, getD_at l i hlt, List.drop_eq_getElem_cons hlt, List.all_cons]
  simp only [Option.bind_some, if_true, bne_self_eq_false, Bool.false_eq_true, if_false]
  cases ibB l[i] (wrap64 (-m)) m with
  | false => rfl
  | true =>
   rw [if_pos rfl, wrap_id (by omega) (by omega), show (i : Int) + 1 = ((i + 1 : Nat) : Int) from by omega, ih k (i + 1) (by omega) (by omega)]
   rfl
theorem l1All_eq (l : List Int) (n m : Int) (k : Nat) (hk : l.length < k) (hl : l.length ≤ 1048576) : spec_l1All.f k l n m = some (okB l n m) := by
 unfold spec_l1All.f okB
 by_cases h : (l.length : Int) = n
 ·rw [if_pos h, decide_eq_true h, Bool.true_and]
  have := all_loop l m hl l.length k 0 (by omega) hk
  simpa using this
 ·rw [if_neg h, decide_eq_false h, Bool.false_and]

theorem spec_Val_eq (l : List Int) (k : Nat) (hk : l.length < k) (hl : l.length ≤ 1048576) : spec_ValOk.f k l = some (okB l 3 10000) := by
 unfold spec_ValOk.f
 rw [l1All_eq l _ _ k hk hl]; rfl

theorem impl_Val_eq (l : List Int) : impl_ValOk.f l = some (okB l 3 10000) := by
 unfold impl_ValOk.f
 rw [within_eq]; rfl

theorem spec_Arg_eq (l : List Int) (k : Nat) (hk : l.length < k) (hl : l.length ≤ 1048576) : spec_ArgOk.f k l = some (okB l 2 9) := by
 unfold spec_ArgOk.f
 rw [l1All_eq l _ _ k hk hl]; rfl

theorem impl_Arg_eq (l : List Int) : impl_ArgOk.f l = some (okB l 2 9) := by
 unfold impl_ArgOk.f
 rw [within_eq]; rfl

def frmB (C D : List Int) (K : Int) : Bool := okB C 3 10000000 && (okB D 2 10000000 && ibB K (-10000000) 10000000)

theorem spec_Frm_eq (C D : List Int) (K : Int) (k : Nat) (hc : C.length < k) (hd : D.length < k) (hc2 : C.length ≤ 1048576) (hd2 : D.length ≤ 1048576) : spec_FrmOk.f k C D K = some (frmB C D K) := by
 unfold spec_FrmOk.f frmB
 rw [l1All_eq C _ _ k hc hc2]; simp only [Option.bind_some, if_true, bne_self_eq_false, Bool.false_eq_true, if_false]
 cases okB C 3 10000000 with
 | false => rfl
 | true =>
  rw [if_pos rfl, l1All_eq D _ _ k hd hd2]; simp only [Option.bind_some, if_true, bne_self_eq_false, Bool.false_eq_true, if_false]
  cases okB D 2 10000000 with
  | false => rfl
  | true => rw [if_pos rfl, l1In_eq]; rfl

theorem impl_Frm_eq (C D : List Int) (K : Int) : impl_FrmOk.f C D K = some (frmB C D K) := by
 unfold impl_FrmOk.f frmB
 rw [within_eq]; simp only [Option.bind_some, if_true, bne_self_eq_false, Bool.false_eq_true, if_false]
 cases okB C 3 10000000 with
 | false => rfl
 | true =>
  rw [if_pos rfl, within_eq]; simp only [Option.bind_some, if_true, bne_self_eq_false, Bool.false_eq_true, if_false]
  cases okB D 2 10000000 with
  | false => rfl
  | true => rw [if_pos rfl, in_eq]; rfl

theorem spec_Zero_eq : spec_FrmZero.f = some ([0, 0, 0], [0, 0], 0) := rfl

theorem impl_Zero_eq : impl_FrmZero.f = some ([0, 0, 0], [0, 0], 0) := rfl

def potF (v : Int) : List Int × List Int × Int := if v = 0 then ([1, 0, 0], [0, 0], 0) else if v = 1 then ([0, 1, 0], [0, 0], 0) else if v = 2 then ([0, 0, 1], [0, 0], 0) else ([], [], 0)
theorem spec_Pot_eq (v : Int) : spec_FrmPot.f v = some (potF v) := by
 unfold spec_FrmPot.f
 rw [l1In_eq]; simp only [Option.bind_some]
 by_cases h : ibB v 0 2 = true
 ·obtain ⟨h0, h1⟩ := ibB_iff.mp h
  rw [h]
  obtain rfl | rfl | rfl : v = 0 ∨ v = 1 ∨ v = 2 := by omega
  all_goals rfl
 ·rw [Bool.eq_false_iff.mpr h]
  have h' : ¬ (0 ≤ v ∧ v ≤ 2) := fun hh => h (ibB_iff.mpr hh)
  unfold potF
  rw [if_neg (by omega : ¬ v = 0), if_neg (by omega : ¬ v = 1), if_neg (by omega : ¬ v = 2)]
  rfl

def atV (c0 c1 c2 d0 d1 K v0 v1 v2 a0 a1 : Int) : Int := wrap64 (K + c0 * v0 + c1 * v1 + c2 * v2 + d0 * a0 + d1 * a1)

theorem l1At_eq (c0 c1 c2 d0 d1 K v0 v1 v2 a0 a1 : Int) (k : Nat) (hK : wrap64 K = K) : spec_l1At.f (k + 8) [c0, c1, c2] [d0, d1] K [v0, v1, v2] [a0, a1] = some (atV c0 c1 c2 d0 d1 K v0 v1 v2 a0 a1) := by
 have w1 : wrap64 (0 + 1) = 1 := by unfold wrap64; omega
 have w2 : wrap64 (1 + 1) = 2 := by unfold wrap64; omega
 have w3 : wrap64 (2 + 1) = 3 := by unfold wrap64; omega
 unfold spec_l1At.f
 simp only [spec_l1At.l0, spec_l1At.l1, w1, w2, w3]
 simp [rd, atV, wrap_l, wrap_r]

theorem dot3V (c0 c1 c2 v0 v1 v2 : Int) (k : Nat) : impl_dot.f (k + 4) [c0, c1, c2] [v0, v1, v2] = some (wrap64 (c0 * v0 + c1 * v1 + c2 * v2)) := by
 have w1 : wrap64 (0 + 1) = 1 := by unfold wrap64; omega
 have w2 : wrap64 (1 + 1) = 2 := by unfold wrap64; omega
 have w3 : wrap64 (2 + 1) = 3 := by unfold wrap64; omega
 unfold impl_dot.f
 simp only [impl_dot.l0, w1, w2, w3]
 simp [rd, wrap_l, wrap_r]
theorem dot2V (c0 c1 v0 v1 : Int) (k : Nat) : impl_dot.f (k + 3) [c0, c1] [v0, v1] = some (wrap64 (c0 * v0 + c1 * v1)) := by
 have w1 : wrap64 (0 + 1) = 1 := by unfold wrap64; omega
 have w2 : wrap64 (1 + 1) = 2 := by unfold wrap64; omega
 unfold impl_dot.f
 simp only [impl_dot.l0, w1, w2]
 simp [rd, wrap_l, wrap_r]
theorem at_eq (c0 c1 c2 d0 d1 K v0 v1 v2 a0 a1 : Int) (k : Nat) : impl_FrmForm_at.f (k + 4) [c0, c1, c2] [d0, d1] K [v0, v1, v2] [a0, a1] = some (atV c0 c1 c2 d0 d1 K v0 v1 v2 a0 a1) := by
 unfold impl_FrmForm_at.f
 rw [dot3V, show k + 4 = (k + 1) + 3 from rfl, dot2V]
 simp only [Option.bind_some, atV, wrap_l, wrap_r, wrap_ll, wrap_lr]
 have e : ∀ x y z : Int, x = y → some (wrap64 x) = some (wrap64 y) := fun x y _ h => by rw [h]
 refine e _ _ 0 ?_
 omega

theorem len3 {l : List Int} (h : (l.length : Int) = 3) : ∃ a b c, l = [a, b, c] := by
 match l, h with
 | [a, b, c], _ => exact ⟨a, b, c, rfl⟩
 | [], h => simp at h
 | [_], h => simp at h
 | [_, _], h => simp at h
 | _ :: _ :: _ :: _ :: _, h => simp at h; omega
theorem len2 {l : List Int} (h : (l.length : Int) = 2) : ∃ a b, l = [a, b] := by
 match l, h with
 | [a, b], _ => exact ⟨a, b, rfl⟩
 | [], h => simp at h
 | [_], h => simp at h
 | _ :: _ :: _ :: _, h => simp at h; omega
theorem okB_len {l : List Int} {n m : Int} (h : okB l n m = true) : (l.length : Int) = n := (okB_iff.mp h).1
theorem frmB_len {C D : List Int} {K : Int} (h : frmB C D K = true) : (C.length : Int) = 3 ∧ (D.length : Int) = 2 := by
 unfold frmB at h
 simp only [Bool.and_eq_true] at h
 exact ⟨okB_len h.1, okB_len h.2.1⟩

theorem inB_ib (n lo hi : Int) : inB n lo hi = ibB n lo hi := rfl

theorem withinB_ok (l : List Int) (n m : Int) : withinB l n m = okB l n m := by
 unfold withinB okB
 rw [List.all_eq_not_any_not]
 rfl

theorem getDG {α : Type} (z : α) (l : List α) (i : Nat) (h : i < l.length) : l.getD ((i : Int)).toNat z = l[i] := by
 rw [show ((i : Int)).toNat = i from by omega, List.getD_eq_getElem?_getD, List.getElem?_eq_getElem h]
 rfl

theorem l1Sum_eq (a0 a1 a2 e0 e1 K c0 c1 c2 d0 d1 gK n : Int) (k : Nat) : spec_l1Sum.f (k + 7) [a0, a1, a2] [e0, e1] K [c0, c1, c2] [d0, d1] gK n =
  some ([wrap64 (a0 + wrap64 (n * c0)), wrap64 (a1 + wrap64 (n * c1)), wrap64 (a2 + wrap64 (n * c2))], [wrap64 (e0 + wrap64 (n * d0)), wrap64 (e1 + wrap64 (n * d1))], wrap64 (K + wrap64 (n * gK))) := by
 have w1 : wrap64 (0 + 1) = 1 := by unfold wrap64; omega
 have w2 : wrap64 (1 + 1) = 2 := by unfold wrap64; omega
 have w3 : wrap64 (2 + 1) = 3 := by unfold wrap64; omega
 unfold spec_l1Sum.f
 rw [spec_Zero_eq]
 simp only [Option.bind_some, spec_l1Sum.l0, spec_l1Sum.l1, w1, w2, w3]
 simp [rd]

def smallB (C D : List Int) (K : Int) : Bool := okB C 3 2 && (okB D 2 2 && ibB K (-20) 20)
def lineB (a b c : Int) (C D : List Int) (K : Int) : Bool :=
 if a = 1 then decide (b = 0) && (ibB c 1 6 && smallB C D K)
 else if a = 2 then ibB b 0 2 && (decide (c = 0) && smallB C D K)
 else if a = 3 then decide (b = 0) && (decide (c = 0) && smallB C D K)
 else if a = 4 then decide (b = 0) && (decide (c = 0) && (decide (C = []) && (decide (D = []) && decide (K = 0))))
 else false

theorem spec_small_eq (C D : List Int) (K : Int) (k : Nat) (hc : C.length < k) (hd : D.length < k) (hc2 : C.length ≤ 1048576) (hd2 : D.length ≤ 1048576) : spec_l2Small.f k C D K = some (smallB C D K) := by
 unfold spec_l2Small.f smallB
 rw [l1All_eq C _ _ k hc hc2]; simp only [Option.bind_some, if_true, bne_self_eq_false, Bool.false_eq_true, if_false]
 cases okB C 3 2 with
 | false => rfl
 | true =>
  rw [if_pos rfl, l1All_eq D _ _ k hd hd2]; simp only [Option.bind_some, if_true, bne_self_eq_false, Bool.false_eq_true, if_false]
  cases okB D 2 2 with
  | false => rfl
  | true => rw [if_pos rfl, l1In_eq]; rfl
theorem spec_line_eq (a b c : Int) (C D : List Int) (K : Int) (k : Nat) (hc : C.length < k) (hd : D.length < k) (hc2 : C.length ≤ 1048576) (hd2 : D.length ≤ 1048576) : spec_l2Line.f k a b c C D K = some (lineB a b c C D K) := by
 unfold spec_l2Line.f lineB
 simp only [spec_small_eq C D K k hc hd hc2 hd2, l1In_eq, Option.bind_some]
 by_cases h1 : a = 1
 ·rw [if_pos h1, if_pos h1]
  by_cases hb : b = 0
  ·rw [if_pos hb, decide_eq_true hb, Bool.true_and]; cases ibB c 1 6 <;> rfl
  ·rw [if_neg hb, decide_eq_false hb, Bool.false_and]
 rw [if_neg h1, if_neg h1]
 by_cases h2 : a = 2
 ·rw [if_pos h2, if_pos h2]
  by_cases hb : c = 0
  ·rw [if_pos hb, decide_eq_true hb, Bool.true_and]; cases ibB b 0 2 <;> rfl
  ·rw [if_neg hb, decide_eq_false hb, Bool.false_and]; cases ibB b 0 2 <;> rfl
 rw [if_neg h2, if_neg h2]
 by_cases h3 : a = 3
 ·rw [if_pos h3, if_pos h3]
  by_cases hb : b = 0
  ·rw [if_pos hb, decide_eq_true hb, Bool.true_and]
   by_cases hc : c = 0
   ·rw [if_pos hc, decide_eq_true hc, Bool.true_and]
   ·rw [if_neg hc, decide_eq_false hc, Bool.false_and]
  ·rw [if_neg hb, decide_eq_false hb, Bool.false_and]
 rw [if_neg h3, if_neg h3]
 by_cases h4 : a = 4
 ·rw [if_pos h4, if_pos h4]
  by_cases hb : b = 0
  ·rw [if_pos hb, decide_eq_true hb, Bool.true_and]
   by_cases hc : c = 0
   ·rw [if_pos hc, decide_eq_true hc, Bool.true_and, wrap_id (by omega) (by omega)]
    by_cases hC : C = []
    ·by_cases hD : D = []
     ·subst hC; subst hD; rw [if_pos (by rfl)]; by_cases hK : K = 0 <;> simp [hK]
     ·have : 0 < D.length := List.length_pos_iff.mpr hD
      rw [if_neg (by omega)]; simp [hD]
    ·have : 0 < C.length := List.length_pos_iff.mpr hC
     rw [if_neg (by omega)]; simp [hC]
   ·rw [if_neg hc, decide_eq_false hc, Bool.false_and]
  ·rw [if_neg hb, decide_eq_false hb, Bool.false_and]
 rw [if_neg h4, if_neg h4]

def lnB (x : S100) : Bool := lineB x.f0 x.f1 x.f2 x.f3.f0 x.f3.f1 x.f3.f2
def actG : List S100 → Int → Int → Bool
 | [], t, n => decide (n ≤ 6) && decide (t ≤ 3)
 | x :: xs, t, n => lnB x && actG xs (if x.f0 = 1 then wrap64 (t + 1) else t) n
def actB (l : List S100) : Bool := actG l 0 (l.length : Int)

theorem spec_act_loop (l : List S100) (hl : l.length ≤ 1048576) (hw : ∀ x ∈ l, (x.f3.f0.length : Int) ≤ 1048576 ∧ (x.f3.f1.length : Int) ≤ 1048576) (d : Nat) : ∀ (k i : Nat) (t : Int), i + d = l.length → d + 1048577 < k →
  spec_ActOk.l0 k l t (i : Int) = some (actG (l.drop i) t (l.length : Int)) := by
 induction d with
 | zero =>
  intro k i t hi hk
  obtain ⟨k, rfl⟩ : ∃ m, k = m + 1 := ⟨k - 1, by omega⟩
  simp only [spec_ActOk.l0]
  rw [if_neg (by omega), List.drop_of_length_le (by omega)]
  by_cases h : (l.length : Int) ≤ 6
  ·rw [if_pos h]; simp only [actG]; rw [decide_eq_true h, Bool.true_and]
  ·rw [if_neg h]; simp only [actG]; rw [decide_eq_false h, Bool.false_and]
 | succ d ih =>
  intro k i t hi hk
  obtain ⟨k, rfl⟩ : ∃ m, k = m + 1 := ⟨k - 1, by omega⟩
  have hlt : i < l.length := by omega
  have hx := hw _ (List.getElem_mem hlt)
  simp only [spec_ActOk.l0]
  rw [if_pos (by omega), if_pos (by omega), show rd_T100 l (i : Int) = l[i] from getDG z100 l i hlt, spec_line_eq l[i].f0 l[i].f1 l[i].f2 l[i].f3.f0 l[i].f3.f1 l[i].f3.f2 k (by omega) (by omega) (by omega) (by omega), List.drop_eq_getElem_cons hlt]
  simp only [Option.bind_some, actG]
  show _ = some (lineB l[i].f0 l[i].f1 l[i].f2 l[i].f3.f0 l[i].f3.f1 l[i].f3.f2 && _)
  cases lineB l[i].f0 l[i].f1 l[i].f2 l[i].f3.f0 l[i].f3.f1 l[i].f3.f2 with
  | false => rfl
  | true =>
   rw [if_pos rfl, Bool.true_and, show wrap64 ((i : Int) + 1) = ((i + 1 : Nat) : Int) from by rw [wrap_id (by omega) (by omega)]; omega]
   by_cases h1 : l[i].f0 = 1
   ·rw [if_pos h1, if_pos h1]; exact ih k (i + 1) _ (by omega) (by omega)
   ·rw [if_neg h1, if_neg h1]; exact ih k (i + 1) _ (by omega) (by omega)
theorem spec_Act_eq (l : List S100) (k : Nat) (hk : 2097154 < k) (hl : (l.length : Int) ≤ 1048576) (hw : ∀ x ∈ l, (x.f3.f0.length : Int) ≤ 1048576 ∧ (x.f3.f1.length : Int) ≤ 1048576) : spec_ActOk.f k l = some (actB l) := by
 unfold spec_ActOk.f actB
 have := spec_act_loop l (by omega) hw l.length k 0 0 (by omega) (by omega)
 simpa using this

theorem at_eqk (c0 c1 c2 d0 d1 K v0 v1 v2 a0 a1 : Int) (k : Nat) (hk : 4 ≤ k) : impl_FrmForm_at.f k [c0, c1, c2] [d0, d1] K [v0, v1, v2] [a0, a1] = some (atV c0 c1 c2 d0 d1 K v0 v1 v2 a0 a1) := by
 obtain ⟨k, rfl⟩ : ∃ m, k = m + 4 := ⟨k - 4, by omega⟩
 exact at_eq c0 c1 c2 d0 d1 K v0 v1 v2 a0 a1 k

theorem l1At_eqk (c0 c1 c2 d0 d1 K v0 v1 v2 a0 a1 : Int) (k : Nat) (hk : 8 ≤ k) (hK : wrap64 K = K) : spec_l1At.f k [c0, c1, c2] [d0, d1] K [v0, v1, v2] [a0, a1] = some (atV c0 c1 c2 d0 d1 K v0 v1 v2 a0 a1) := by
 obtain ⟨k, rfl⟩ : ∃ m, k = m + 8 := ⟨k - 8, by omega⟩
 exact l1At_eq c0 c1 c2 d0 d1 K v0 v1 v2 a0 a1 k hK

theorem plus_eq (x y z a b c : Int) (k : Nat) (hk : 4 ≤ k) : impl_plus.f k [x, y, z] [a, b, c] = some [wrap64 (x + a), wrap64 (y + b), wrap64 (z + c)] := by
 obtain ⟨k, rfl⟩ : ∃ m, k = m + 4 := ⟨k - 4, by omega⟩
 have w1 : wrap64 (0 + 1) = 1 := by unfold wrap64; omega
 have w2 : wrap64 (1 + 1) = 2 := by unfold wrap64; omega
 have w3 : wrap64 (2 + 1) = 3 := by unfold wrap64; omega
 unfold impl_plus.f slices_Clone_int_int.f
 rw [if_pos (by simp)]
 simp only [Option.bind_some, impl_plus.l0, w1, w2, w3]
 simp [rd]

theorem bd8 {x : Int} (h : (Lit.int .u8 x).wf = true) : 0 ≤ x ∧ x ≤ 255 := bounds_u8 h
theorem rd8 (L : List Int) (hL : ∀ x ∈ L, (Lit.int .u8 x).wf = true) (i : Int) (h0 : 0 ≤ i) (h1 : i < (L.length : Int)) : 0 ≤ rd L i ∧ rd L i ≤ 255 := by
 obtain ⟨n, rfl⟩ := Int.eq_ofNat_of_zero_le h0
 have hn : n < L.length := by omega
 rw [getD_at L n hn]
 exact bd8 (hL _ (List.getElem_mem hn))
theorem xor_nonneg (x y : Int) (h0 : 0 ≤ x) (h1 : x < 4611686018427387904) (h2 : 0 ≤ y) (h3 : y < 4611686018427387904) : 0 ≤ Go.bits .xor .i64 x y := by
 obtain ⟨a, rfl⟩ := Int.eq_ofNat_of_zero_le h0
 obtain ⟨b, rfl⟩ := Int.eq_ofNat_of_zero_le h2
 have ha : a < 2 ^ 62 := by omega
 have hb : b < 2 ^ 62 := by omega
 have hx := Nat.xor_lt_two_pow ha hb
 have ha' : a % 2 ^ IntKind.i64.bits = a := Nat.mod_eq_of_lt (Nat.lt_of_lt_of_le ha (by decide))
 have hb' : b % 2 ^ IntKind.i64.bits = b := Nat.mod_eq_of_lt (Nat.lt_of_lt_of_le hb (by decide))
 simp only [Go.bits, BitVec.ofInt_natCast, BitVec.toNat_xor, BitVec.toNat_ofNat, ha', hb']
 rw [IntKind.wrap_i64]
 omega
theorem pick_eq (L : List Int) (hL : ∀ x ∈ L, (Lit.int .u8 x).wf = true) (hl : L.length ≤ 2000) (s n : Int) (k : Nat) (hk : 1 ≤ k) (h0 : 0 ≤ s) (h1 : s ≤ 1000000) (hn : 1 ≤ n) : ∃ v, spec_l20Rd_pick.f k L s n = some (v, s + 1) ∧ 0 ≤ v ∧ v < n := by
 obtain ⟨k, rfl⟩ : ∃ m, k = m + 1 := ⟨k - 1, by omega⟩
 have e1 : wrap64 (s + 1) = s + 1 := wrap_id (by omega) (by omega)
 have e2 : wrap64 (s + 1 - 1) = s := by rw [wrap_id (by omega) (by omega)]; omega
 unfold spec_l20Rd_pick.f
 rw [if_neg (by omega)]
 simp only [spec_l20Rd_pick.j0, e1, e2]
 by_cases hz : (L.length : Int) = 0
 ·rw [if_pos (beq_iff_eq.mpr hz)]
  exact ⟨0, rfl, by omega, by omega⟩
 rw [if_neg (by rw [beq_eq_false_iff_ne.mpr hz]; decide)]
 have hp : 0 < (L.length : Int) := by omega
 by_cases hs : s < (L.length : Int)
 ·have := rd8 L hL s h0 hs
  rw [if_pos hs, if_pos h0, if_neg (by omega), wrap_id (by omega) (by omega)]
  exact ⟨_, rfl, Int.tmod_nonneg _ this.1, Int.tmod_lt_of_pos _ (by omega)⟩
 ·rw [if_neg hs, if_neg hz]
  have i1 : 0 ≤ Int.tmod s (L.length : Int) := Int.tmod_nonneg _ h0
  have i2 : Int.tmod s (L.length : Int) < (L.length : Int) := Int.tmod_lt_of_pos _ hp
  have e3 : wrap64 (wrap64 (s * 7) + 3) = s * 7 + 3 := by rw [wrap_id (x := s * 7) (by omega) (by omega), wrap_id (by omega) (by omega)]
  rw [e3]
  have j1 : 0 ≤ Int.tmod (s * 7 + 3) (L.length : Int) := Int.tmod_nonneg _ (by omega)
  have j2 : Int.tmod (s * 7 + 3) (L.length : Int) < (L.length : Int) := Int.tmod_lt_of_pos _ hp
  have ra := rd8 L hL _ i1 i2
  have rb := rd8 L hL _ j1 j2
  have q1 : 0 ≤ Int.tdiv s (L.length : Int) := Int.tdiv_nonneg h0 (by omega)
  have q2 : Int.tdiv s (L.length : Int) ≤ s := Int.tdiv_le_self _ h0
  rw [if_pos i1, if_pos i2, if_pos j1, if_pos j2, if_neg (by omega)]
  generalize rd L (Int.tmod s (L.length : Int)) = a at ra ⊢
  generalize rd L (Int.tmod (s * 7 + 3) (L.length : Int)) = b at rb ⊢
  generalize Int.tdiv s (L.length : Int) = q at q1 q2 ⊢
  have ex : wrap64 (wrap64 (wrap64 (wrap64 (wrap64 a * 131) + wrap64 (wrap64 b * 1117)) + wrap64 (s * 29)) + wrap64 (wrap64 q * 53)) = a * 131 + b * 1117 + s * 29 + q * 53 := by
   rw [wrap_id (x := a) (by omega) (by omega), wrap_id (x := b) (by omega) (by omega), wrap_id (x := q) (by omega) (by omega), wrap_id (x := a * 131) (by omega) (by omega), wrap_id (x := b * 1117) (by omega) (by omega), wrap_id (x := s * 29) (by omega) (by omega), wrap_id (x := q * 53) (by omega) (by omega),
    wrap_id (x := a * 131 + b * 1117) (by omega) (by omega), wrap_id (x := a * 131 + b * 1117 + s * 29) (by omega) (by omega), wrap_id (by omega) (by omega)]
  rw [ex]
  generalize hX : a * 131 + b * 1117 + s * 29 + q * 53 = X
  have x1 : 0 ≤ X := by omega
  have x2 : X ≤ 1000000000 := by omega
  have y1 : 0 ≤ Int.tdiv X 64 := Int.tdiv_nonneg x1 (by omega)
  have y2 : Int.tdiv X 64 ≤ X := Int.tdiv_le_self _ x1
  rw [wrap_id (x := Int.tdiv X 64) (by omega) (by omega)]
  exact ⟨_, rfl, Int.tmod_nonneg _ (xor_nonneg _ _ x1 (by omega) y1 (by omega)), Int.tmod_lt_of_pos _ (by omega)⟩

theorem open_eq (L : List Int) (hL : ∀ x ∈ L, (Lit.int .u8 x).wf = true) : ∃ M, spec_l20Open.f L = some (M, 0) ∧ (∀ x ∈ M, (Lit.int .u8 x).wf = true) ∧ M.length ≤ 2000 := by
 unfold spec_l20Open.f
 by_cases h : (L.length : Int) > 2000
 ·rw [if_pos h, if_pos (by omega)]
  exact ⟨_, rfl, fun x hx => hL x (List.mem_of_mem_take hx), by rw [List.length_take]; omega⟩
 ·rw [if_neg h]
  exact ⟨_, rfl, hL, by omega⟩

def smallL (l : List Int) (m : Nat) (b : Int) : Prop := l.length ≤ m ∧ ∀ x ∈ l, -b ≤ x ∧ x ≤ b
theorem rd_mem (l : List Int) (i : Int) (h0 : 0 ≤ i) (h1 : i < (l.length : Int)) : rd l i ∈ l := by
 obtain ⟨n, rfl⟩ := Int.eq_ofNat_of_zero_le h0
 have hn : n < l.length := by omega
 rw [getD_at l n hn]
 exact List.getElem_mem hn
theorem smallL.push {l : List Int} {m : Nat} {b x : Int} (h : smallL l m b) (h0 : -b ≤ x) (h1 : x ≤ b) : smallL (l ++ [x]) (m + 1) b :=
 ⟨by rw [List.length_append]; have := h.1; simp; omega, fun y hy => by rcases List.mem_append.mp hy with hy | hy; exact h.2 y hy; rw [List.mem_singleton.mp hy]; exact ⟨h0, h1⟩⟩
theorem smallL.set {l : List Int} {m : Nat} {b x : Int} {i : Nat} (h : smallL l m b) (h0 : -b ≤ x) (h1 : x ≤ b) : smallL (l.set i x) m b :=
 ⟨by rw [List.length_set]; exact h.1, fun y hy => by rcases List.mem_or_eq_of_mem_set hy with hy | rfl; exact h.2 y hy; exact ⟨h0, h1⟩⟩
theorem smallL.take {l : List Int} {m : Nat} {b : Int} {i : Nat} (h : smallL l m b) : smallL (l.take i) m b :=
 ⟨by rw [List.length_take]; have := h.1; omega, fun y hy => h.2 y (List.mem_of_mem_take hy)⟩
theorem smallL.mono {l : List Int} {m n : Nat} {b c : Int} (h : smallL l m b) (h1 : m ≤ n) (h2 : b ≤ c) : smallL l n c := ⟨Nat.le_trans h.1 h1, fun x hx => by have := h.2 x hx; omega⟩
theorem smallL.rd {l : List Int} {m : Nat} {b : Int} (h : smallL l m b) (i : Int) (h0 : 0 ≤ i) (h1 : i < (l.length : Int)) : -b ≤ rd l i ∧ rd l i ≤ b := h.2 _ (rd_mem l i h0 h1)

theorem vals_loop (L : List Int) (hL : ∀ x ∈ L, (Lit.int .u8 x).wf = true) (hl : L.length ≤ 2000) (n : Int) (hn : 1 ≤ n) (d : Nat) : ∀ (k i : Nat) (out : List Int) (s : Int), i + d = 3 → d + 5 < k → 0 ≤ s → s + d ≤ 900003 → out.length = i → smallL out 3 10001 →
  ∃ v s', spec_l20Vals.l0 k n out (i : Int) L s = some (v, s') ∧ s ≤ s' ∧ s' ≤ s + d + 4 ∧ smallL v 4 10001 := by
 induction d with
 | zero =>
  intro k i out s hi hk h0 h1 ho hs
  obtain ⟨k, rfl⟩ : ∃ m, k = m + 1 := ⟨k - 1, by omega⟩
  have hi3 : i = 3 := by omega
  subst hi3
  simp only [spec_l20Vals.l0]
  rw [if_neg (by omega)]
  obtain ⟨v1, e1, a1, b1⟩ := pick_eq L hL hl s n k (by omega) h0 (by omega) hn
  rw [e1]; simp only [Option.bind_some, if_true, bne_self_eq_false, Bool.false_eq_true, if_false]
  by_cases c1 : v1 = 0
  ·rw [if_pos c1]
   obtain ⟨v2, e2, a2, b2⟩ := pick_eq L hL hl (s + 1) 3 k (by omega) (by omega) (by omega) (by omega)
   rw [e2]; simp only [Option.bind_some, if_true, bne_self_eq_false, Bool.false_eq_true, if_false]
   by_cases c2 : v2 = 0
   ·rw [if_pos c2, if_pos (by omega)]
    exact ⟨_, _, rfl, by omega, by omega, hs.take.mono (by omega) (by omega)⟩
   ·rw [if_neg c2]
    by_cases c3 : v2 = 1
    ·rw [if_pos c3, if_pos (by omega)]
     exact ⟨_, _, rfl, by omega, by omega, hs.push (by omega) (by omega)⟩
    ·rw [if_neg c3]
     obtain ⟨v3, e3, a3, b3⟩ := pick_eq L hL hl (s + 1 + 1) 3 k (by omega) (by omega) (by omega) (by omega)
     rw [e3]; simp only [Option.bind_some, if_true, bne_self_eq_false, Bool.false_eq_true, if_false]
     obtain ⟨v4, e4, a4, b4⟩ := pick_eq L hL hl (s + 1 + 1 + 1) 2 k (by omega) (by omega) (by omega) (by omega)
     rw [e4]; simp only [Option.bind_some, if_true, bne_self_eq_false, Bool.false_eq_true, if_false]
     have hq : smallL [10001, -10001] 2 10001 := ⟨by simp, by simp⟩
     have hq2 := hq.rd v4 a4 (by simpa using b4)
     rw [if_pos a4, if_pos (by simpa using b4), if_pos a3, if_pos (by omega)]
     exact ⟨_, _, rfl, by omega, by omega, (hs.set hq2.1 hq2.2).mono (by omega) (by omega)⟩
  ·rw [if_neg c1]
   exact ⟨_, _, rfl, by omega, by omega, hs.mono (by omega) (by omega)⟩
 | succ d ih =>
  intro k i out s hi hk h0 h1 ho hs
  obtain ⟨k, rfl⟩ : ∃ m, k = m + 1 := ⟨k - 1, by omega⟩
  simp only [spec_l20Vals.l0]
  rw [if_pos (by omega)]; simp only [Option.bind_some, if_true, bne_self_eq_false, Bool.false_eq_true, if_false]
  obtain ⟨v1, e1, a1, b1⟩ := pick_eq L hL hl s 9 k (by omega) h0 (by omega) (by omega)
  rw [e1]; simp only [Option.bind_some, if_true, bne_self_eq_false, Bool.false_eq_true, if_false]
  have hq : smallL [0, 1, 5, 20, -3, 60, 10000, -10000, 9996] 9 10001 := ⟨by simp, by simp⟩
  have hq2 := hq.rd v1 a1 (by simpa using b1)
  rw [if_pos a1, if_pos (by simpa using b1), if_pos (by omega), show wrap64 ((i : Int) + 1) = ((i + 1 : Nat) : Int) from by rw [wrap_id (by omega) (by omega)]; omega]
  have hp : smallL (out ++ [rd [0, 1, 5, 20, -3, 60, 10000, -10000, 9996] v1]) 3 10001 := by
   have := hs.push hq2.1 hq2.2
   exact ⟨by simp; omega, this.2⟩
  obtain ⟨v, s', e, p, q, r⟩ := ih k (i + 1) _ (s + 1) (by omega) (by omega) (by omega) (by omega) (by simp; omega) hp
  exact ⟨v, s', e, by omega, by omega, r⟩
theorem vals_eq (L : List Int) (hL : ∀ x ∈ L, (Lit.int .u8 x).wf = true) (hl : L.length ≤ 2000) (s n : Int) (k : Nat) (hk : 9 ≤ k) (h0 : 0 ≤ s) (h1 : s ≤ 900000) (hn : 1 ≤ n) :
  ∃ v s', spec_l20Vals.f k L s n = some (v, s') ∧ s ≤ s' ∧ s' ≤ s + 7 ∧ smallL v 4 10001 := by
 unfold spec_l20Vals.f
 obtain ⟨v, s', e, p, q, r⟩ := vals_loop L hL hl n hn 3 k 0 [] s rfl (by omega) h0 (by omega) rfl ⟨by simp, by simp⟩
 exact ⟨v, s', e, p, by omega, r⟩

theorem args_eq (L : List Int) (hL : ∀ x ∈ L, (Lit.int .u8 x).wf = true) (hl : L.length ≤ 2000) (s n : Int) (k : Nat) (hk : 9 ≤ k) (h0 : 0 ≤ s) (h1 : s ≤ 900000) (hn : 1 ≤ n) :
  ∃ v s', spec_l20Args.f k L s n = some (v, s') ∧ s ≤ s' ∧ s' ≤ s + 7 ∧ smallL v 3 10 := by
 unfold spec_l20Args.f
 obtain ⟨u1, f1, g1, j1⟩ := pick_eq L hL hl s 19 k (by omega) h0 (by omega) (by omega)
 rw [f1]; simp only [Option.bind_some, if_true, bne_self_eq_false, Bool.false_eq_true, if_false]
 obtain ⟨u2, f2, g2, j2⟩ := pick_eq L hL hl (s + 1) 19 k (by omega) (by omega) (by omega) (by omega)
 rw [f2]; simp only [Option.bind_some, if_true, bne_self_eq_false, Bool.false_eq_true, if_false]
 rw [wrap_id (x := u1 - 9) (by omega) (by omega), wrap_id (x := u2 - 9) (by omega) (by omega)]
 have hs : smallL [u1 - 9, u2 - 9] 2 10 := ⟨by simp, by simp; omega⟩
 have ho : [u1 - 9, u2 - 9].length = 2 := rfl
 generalize [u1 - 9, u2 - 9] = out at hs ho ⊢
 obtain ⟨v1, e1, a1, b1⟩ := pick_eq L hL hl (s + 1 + 1) n k (by omega) (by omega) (by omega) hn
 rw [e1]; simp only [Option.bind_some, if_true, bne_self_eq_false, Bool.false_eq_true, if_false]
 by_cases c1 : v1 = 0
 ·rw [if_pos c1]
  obtain ⟨v2, e2, a2, b2⟩ := pick_eq L hL hl (s + 1 + 1 + 1) 3 k (by omega) (by omega) (by omega) (by omega)
  rw [e2]; simp only [Option.bind_some, if_true, bne_self_eq_false, Bool.false_eq_true, if_false]
  by_cases c2 : v2 = 0
  ·rw [if_pos c2, if_pos (by omega)]
   exact ⟨_, _, rfl, by omega, by omega, hs.take.mono (by omega) (by omega)⟩
  ·rw [if_neg c2]
   by_cases c3 : v2 = 1
   ·rw [if_pos c3, if_pos (by omega)]
    exact ⟨_, _, rfl, by omega, by omega, hs.push (by omega) (by omega)⟩
   ·rw [if_neg c3]
    obtain ⟨v3, e3, a3, b3⟩ := pick_eq L hL hl (s + 1 + 1 + 1 + 1) 2 k (by omega) (by omega) (by omega) (by omega)
    rw [e3]; simp only [Option.bind_some, if_true, bne_self_eq_false, Bool.false_eq_true, if_false]
    obtain ⟨v4, e4, a4, b4⟩ := pick_eq L hL hl (s + 1 + 1 + 1 + 1 + 1) 2 k (by omega) (by omega) (by omega) (by omega)
    rw [e4]; simp only [Option.bind_some, if_true, bne_self_eq_false, Bool.false_eq_true, if_false]
    have hq : smallL [10, -10] 2 10 := ⟨by simp, by simp⟩
    have hq2 := hq.rd v4 a4 (by simpa using b4)
    rw [if_pos a4, if_pos (by simpa using b4), if_pos a3, if_pos (by omega)]
    exact ⟨_, _, rfl, by omega, by omega, (hs.set hq2.1 hq2.2).mono (by omega) (by omega)⟩
 ·rw [if_neg c1]
  exact ⟨_, _, rfl, by omega, by omega, hs.mono (by omega) (by omega)⟩

theorem small_l1 (L : List Int) (hL : ∀ x ∈ L, (Lit.int .u8 x).wf = true) (hl : L.length ≤ 2000) (C : List Int) (K : Int) (d : Nat) : ∀ (k i : Nat) (D : List Int) (s : Int), i + d = 2 → d + 3 < k → 0 ≤ s → s ≤ 800000 - d → D.length = 2 → smallL D 2 20 →
  ∃ D' K', spec_l20Small.l1 k (i : Int) L s C D K = some (C, D', K', s + d + 1) ∧ D'.length = 2 ∧ smallL D' 2 20 ∧ -20 ≤ K' ∧ K' ≤ 20 := by
 induction d with
 | zero =>
  intro k i D s hi hk h0 h1 hd hs
  obtain ⟨k, rfl⟩ : ∃ m, k = m + 1 := ⟨k - 1, by omega⟩
  simp only [spec_l20Small.l1]
  rw [if_neg (by omega)]; simp only [Option.bind_some, if_true, bne_self_eq_false, Bool.false_eq_true, if_false]
  obtain ⟨v, e, a, b⟩ := pick_eq L hL hl s 8 k (by omega) h0 (by omega) (by omega)
  rw [e]; simp only [Option.bind_some, if_true, bne_self_eq_false, Bool.false_eq_true, if_false]
  have hq : smallL [0, 0, 1, -1, 5, -5, 20, -20] 8 20 := ⟨by simp, by simp⟩
  have hq2 := hq.rd v a (by simpa using b)
  rw [if_pos a, if_pos (by simpa using b)]
  exact ⟨_, _, by rw [show s + ((0 : Nat) : Int) + 1 = s + 1 from by omega], hd, hs, hq2.1, hq2.2⟩
 | succ d ih =>
  intro k i D s hi hk h0 h1 hd hs
  obtain ⟨k, rfl⟩ : ∃ m, k = m + 1 := ⟨k - 1, by omega⟩
  simp only [spec_l20Small.l1]
  rw [if_pos (by omega)]; simp only [Option.bind_some, if_true, bne_self_eq_false, Bool.false_eq_true, if_false]
  obtain ⟨v, e, a, b⟩ := pick_eq L hL hl s 5 k (by omega) h0 (by omega) (by omega)
  rw [e]; simp only [Option.bind_some, if_true, bne_self_eq_false, Bool.false_eq_true, if_false]
  have hq : smallL [0, 0, 1, -1, 2] 5 20 := ⟨by simp, by simp⟩
  have hq2 := hq.rd v a (by simpa using b)
  rw [if_pos a, if_pos (by simpa using b), if_pos (by omega), if_pos (by omega), show wrap64 ((i : Int) + 1) = ((i + 1 : Nat) : Int) from by rw [wrap_id (by omega) (by omega)]; omega]
  obtain ⟨D', K', e2, x1, x2, x3, x4⟩ := ih k (i + 1) _ (s + 1) (by omega) (by omega) (by omega) (by omega) (by rw [List.length_set]; exact hd) (hs.set (i := ((i : Int)).toNat) hq2.1 hq2.2)
  exact ⟨D', K', by rw [e2]; congr 4; omega, x1, x2, x3, x4⟩
theorem small_l0 (L : List Int) (hL : ∀ x ∈ L, (Lit.int .u8 x).wf = true) (hl : L.length ≤ 2000) (D : List Int) (K : Int) (hd2 : D.length = 2) (hD : smallL D 2 20) (d : Nat) : ∀ (k i : Nat) (C : List Int) (s : Int), i + d = 3 → d + 8 < k → 0 ≤ s → s ≤ 700000 - d → C.length = 3 → smallL C 3 20 →
  ∃ C' D' K', spec_l20Small.l0 k (i : Int) L s C D K = some (C', D', K', s + d + 3) ∧ C'.length = 3 ∧ smallL C' 3 20 ∧ D'.length = 2 ∧ smallL D' 2 20 ∧ -20 ≤ K' ∧ K' ≤ 20 := by
 induction d with
 | zero =>
  intro k i C s hi hk h0 h1 hd hs
  obtain ⟨k, rfl⟩ : ∃ m, k = m + 1 := ⟨k - 1, by omega⟩
  simp only [spec_l20Small.l0]
  rw [if_neg (by omega)]
  obtain ⟨D', K', e2, x1, x2, x3, x4⟩ := small_l1 L hL hl C K 2 k 0 D s (by omega) (by omega) h0 (by omega) hd2 hD
  exact ⟨C, D', K', by rw [show ((0 : Nat) : Int) = 0 from rfl] at e2; rw [e2]; congr 4; omega, hd, hs, x1, x2, x3, x4⟩
 | succ d ih =>
  intro k i C s hi hk h0 h1 hd hs
  obtain ⟨k, rfl⟩ : ∃ m, k = m + 1 := ⟨k - 1, by omega⟩
  simp only [spec_l20Small.l0]
  rw [if_pos (by omega)]; simp only [Option.bind_some, if_true, bne_self_eq_false, Bool.false_eq_true, if_false]
  obtain ⟨v, e, a, b⟩ := pick_eq L hL hl s 6 k (by omega) h0 (by omega) (by omega)
  rw [e]; simp only [Option.bind_some, if_true, bne_self_eq_false, Bool.false_eq_true, if_false]
  have hq : smallL [0, 0, 0, 1, -1, 2] 6 20 := ⟨by simp, by simp⟩
  have hq2 := hq.rd v a (by simpa using b)
  rw [if_pos a, if_pos (by simpa using b), if_pos (by omega), if_pos (by omega), show wrap64 ((i : Int) + 1) = ((i + 1 : Nat) : Int) from by rw [wrap_id (by omega) (by omega)]; omega]
  obtain ⟨C', D', K', e2, x1, x2, x3⟩ := ih k (i + 1) _ (s + 1) (by omega) (by omega) (by omega) (by omega) (by rw [List.length_set]; exact hd) (hs.set (i := ((i : Int)).toNat) hq2.1 hq2.2)
  exact ⟨C', D', K', by rw [e2]; congr 4; omega, x1, x2, x3⟩
theorem small_eq (L : List Int) (hL : ∀ x ∈ L, (Lit.int .u8 x).wf = true) (hl : L.length ≤ 2000) (s : Int) (k : Nat) (hk : 12 ≤ k) (h0 : 0 ≤ s) (h1 : s ≤ 600000) :
  ∃ C D K, spec_l20Small.f k L s = some (C, D, K, s + 6) ∧ C.length = 3 ∧ smallL C 3 20 ∧ D.length = 2 ∧ smallL D 2 20 ∧ -20 ≤ K ∧ K ≤ 20 := by
 unfold spec_l20Small.f
 rw [spec_Zero_eq]; simp only [Option.bind_some, if_true, bne_self_eq_false, Bool.false_eq_true, if_false]
 obtain ⟨C, D, K, e, x⟩ := small_l0 L hL hl [0, 0] 0 rfl ⟨by simp, by simp⟩ 3 k 0 [0, 0, 0] s (by omega) (by omega) h0 (by omega) rfl ⟨by simp, by simp⟩
 exact ⟨C, D, K, by rw [show ((0 : Nat) : Int) = 0 from rfl] at e; rw [e]; congr 4; omega, x⟩

def drawnF (C D : List Int) (K : Int) : Prop := smallL C 3 10000001 ∧ smallL D 3 10000001 ∧ -10000001 ≤ K ∧ K ≤ 10000001
theorem form_j0 (L : List Int) (hL : ∀ x ∈ L, (Lit.int .u8 x).wf = true) (hl : L.length ≤ 2000) (C D : List Int) (K : Int) (s n : Int) (k : Nat) (hk : 3 ≤ k) (h0 : 0 ≤ s) (h1 : s ≤ 700000) (hn : 1 ≤ n) (hc : C.length = 3) (hC : smallL C 3 10000001) (hd : D.length = 2) (hD : smallL D 2 10000001) (hK : -20 ≤ K ∧ K ≤ 20) :
  ∃ C' D' K' s', spec_l20Form.j0 k n L s C D K = some (C', D', K', s') ∧ s ≤ s' ∧ s' ≤ s + 5 ∧ drawnF C' D' K' := by
 obtain ⟨k, rfl⟩ : ∃ m, k = m + 1 := ⟨k - 1, by omega⟩
 have hD' : smallL D 3 10000001 := hD.mono (by omega) (by omega)
 simp only [spec_l20Form.j0]
 obtain ⟨v1, e1, a1, b1⟩ := pick_eq L hL hl s n k (by omega) h0 (by omega) hn
 rw [e1]; simp only [Option.bind_some, if_true, bne_self_eq_false, Bool.false_eq_true, if_false]
 by_cases c1 : v1 > 0
 ·rw [if_pos c1]
  exact ⟨_, _, _, _, rfl, by omega, by omega, hC, hD', by omega, by omega⟩
 rw [if_neg c1]
 obtain ⟨v2, e2, a2, b2⟩ := pick_eq L hL hl (s + 1) 4 k (by omega) (by omega) (by omega) (by omega)
 rw [e2]; simp only [Option.bind_some, if_true, bne_self_eq_false, Bool.false_eq_true, if_false]
 by_cases c2 : v2 = 0
 ·rw [if_pos c2, if_pos (by omega)]
  exact ⟨_, _, _, _, rfl, by omega, by omega, hC.take, hD', by omega, by omega⟩
 rw [if_neg c2]
 by_cases c3 : v2 = 1
 ·rw [if_pos c3, if_pos (by omega)]
  exact ⟨_, _, _, _, rfl, by omega, by omega, hC, hD.push (by omega) (by omega), by omega, by omega⟩
 rw [if_neg c3]
 by_cases c4 : v2 = 2
 ·rw [if_pos c4]
  obtain ⟨v3, e3, a3, b3⟩ := pick_eq L hL hl (s + 1 + 1) 3 k (by omega) (by omega) (by omega) (by omega)
  rw [e3]; simp only [Option.bind_some, if_true, bne_self_eq_false, Bool.false_eq_true, if_false]
  have hq : smallL [10000001, -10000001, 10000000] 3 10000001 := ⟨by simp, by simp⟩
  have hq2 := hq.rd v3 a3 (by simpa using b3)
  rw [if_pos a3, if_pos (by simpa using b3)]
  exact ⟨_, _, _, _, rfl, by omega, by omega, hC, hD', hq2.1, hq2.2⟩
 rw [if_neg c4]
 obtain ⟨v3, e3, a3, b3⟩ := pick_eq L hL hl (s + 1 + 1) 3 k (by omega) (by omega) (by omega) (by omega)
 rw [e3]; simp only [Option.bind_some, if_true, bne_self_eq_false, Bool.false_eq_true, if_false]
 obtain ⟨v4, e4, a4, b4⟩ := pick_eq L hL hl (s + 1 + 1 + 1) 2 k (by omega) (by omega) (by omega) (by omega)
 rw [e4]; simp only [Option.bind_some, if_true, bne_self_eq_false, Bool.false_eq_true, if_false]
 have hq : smallL [10000001, -10000001] 2 10000001 := ⟨by simp, by simp⟩
 have hq2 := hq.rd v4 a4 (by simpa using b4)
 rw [if_pos a4, if_pos (by simpa using b4), if_pos a3, if_pos (by omega)]
 exact ⟨_, _, _, _, rfl, by omega, by omega, hC.set hq2.1 hq2.2, hD', by omega, by omega⟩
theorem form_eq (L : List Int) (hL : ∀ x ∈ L, (Lit.int .u8 x).wf = true) (hl : L.length ≤ 2000) (s n : Int) (k : Nat) (hk : 12 ≤ k) (h0 : 0 ≤ s) (h1 : s ≤ 500000) (hn : 1 ≤ n) :
  ∃ C D K s', spec_l20Form.f k L s n = some (C, D, K, s') ∧ s ≤ s' ∧ s' ≤ s + 20 ∧ drawnF C D K := by
 unfold spec_l20Form.f
 obtain ⟨C, D, K, e, hc, hC, hd, hD, hK⟩ := small_eq L hL hl s k hk h0 (by omega)
 rw [e]; simp only [Option.bind_some, if_true, bne_self_eq_false, Bool.false_eq_true, if_false]
 obtain ⟨v1, e1, a1, b1⟩ := pick_eq L hL hl (s + 6) 4 k (by omega) (by omega) (by omega) (by omega)
 rw [e1]; simp only [Option.bind_some, if_true, bne_self_eq_false, Bool.false_eq_true, if_false]
 have hC' : smallL C 3 10000001 := hC.mono (by omega) (by omega)
 have hD' : smallL D 2 10000001 := hD.mono (by omega) (by omega)
 by_cases c1 : v1 = 0
 ·rw [if_pos c1]
  obtain ⟨v2, e2, a2, b2⟩ := pick_eq L hL hl (s + 6 + 1) 3 k (by omega) (by omega) (by omega) (by omega)
  rw [e2]; simp only [Option.bind_some, if_true, bne_self_eq_false, Bool.false_eq_true, if_false]
  obtain ⟨v3, e3, a3, b3⟩ := pick_eq L hL hl (s + 6 + 1 + 1) 4 k (by omega) (by omega) (by omega) (by omega)
  rw [e3]; simp only [Option.bind_some, if_true, bne_self_eq_false, Bool.false_eq_true, if_false]
  have hq : smallL [10000000, -10000000, 1000, 77] 4 10000001 := ⟨by simp, by simp⟩
  have hq2 := hq.rd v3 a3 (by simpa using b3)
  rw [if_pos a3, if_pos (by simpa using b3), if_pos a2, if_pos (by omega)]
  obtain ⟨C', D', K', s', e4, p, q, r⟩ := form_j0 L hL hl (C.set v2.toNat (rd [10000000, -10000000, 1000, 77] v3)) D K (s + 6 + 1 + 1 + 1) n k (by omega) (by omega) (by omega) hn (by rw [List.length_set]; exact hc) (hC'.set hq2.1 hq2.2) hd hD' hK
  exact ⟨C', D', K', s', e4, by omega, by omega, r⟩
 ·rw [if_neg c1]
  obtain ⟨C', D', K', s', e4, p, q, r⟩ := form_j0 L hL hl C D K (s + 6 + 1) n k (by omega) (by omega) (by omega) hn hc hC' hd hD' hK
  exact ⟨C', D', K', s', e4, by omega, by omega, r⟩

theorem co_loop (x y : List Int) (hl : x.length = y.length) (hm : x.length ≤ 1048576) (d : Nat) : ∀ (k i : Nat), i + d = x.length → d < k → (x.take i = y.take i) → laws_coInts.l0 k x y (i : Int) = some (decide (x = y)) := by
 induction d with
 | zero =>
  intro k i hi hk he
  obtain ⟨k, rfl⟩ : ∃ m, k = m + 1 := ⟨k - 1, by omega⟩
  simp only [laws_coInts.l0]
  rw [if_neg (by omega)]
  rw [List.take_of_length_le (by omega), List.take_of_length_le (by omega)] at he
  rw [decide_eq_true he]
 | succ d ih =>
  intro k i hi hk he
  obtain ⟨k, rfl⟩ : ∃ m, k = m + 1 := ⟨k - 1, by omega⟩
  have h1 : i < x.length := by omega
  have h2 : i < y.length := by omega
  simp only [laws_coInts.l0]
  rw [if_pos (by omega), if_pos (by omega), if_pos (by omega), getD_at x i h1, getD_at y i h2]
  by_cases hq : x[i] = y[i]
  ·rw [if_pos hq, show wrap64 ((i : Int) + 1) = ((i + 1 : Nat) : Int) from by rw [wrap_id (by omega) (by omega)]; omega]
   exact ih k (i + 1) (by omega) (by omega) (by rw [List.take_succ_eq_append_getElem h1, List.take_succ_eq_append_getElem h2, he, hq])
  ·rw [if_neg hq, decide_eq_false (fun e => hq (by subst e; rfl))]
theorem co_eq (x y : List Int) (k : Nat) (hk : x.length < k) (hm : x.length ≤ 1048576) : laws_coInts.f k x y = some (decide (x = y)) := by
 unfold laws_coInts.f
 by_cases h : x.length = y.length
 ·rw [if_pos (by omega)]
  exact co_loop x y h hm x.length k 0 (by omega) hk rfl
 ·rw [if_neg (by omega), decide_eq_false (fun e => h (by rw [e]))]

theorem frm_ok (x y z a b K : Int) (hx : -10000000 ≤ x ∧ x ≤ 10000000) (hy : -10000000 ≤ y ∧ y ≤ 10000000) (hz : -10000000 ≤ z ∧ z ≤ 10000000) (ha : -10000000 ≤ a ∧ a ≤ 10000000) (hb : -10000000 ≤ b ∧ b ≤ 10000000) (hK : -10000000 ≤ K ∧ K ≤ 10000000) : frmB [x, y, z] [a, b] K = true := by
 have w : wrap64 (-10000000) = -10000000 := wrap_id (by decide) (by decide)
 unfold frmB
 rw [okB_iff.mpr ⟨by simp, by rw [w]; simp; omega⟩, okB_iff.mpr ⟨by simp, by rw [w]; simp; omega⟩, ibB_iff.mpr hK]
 rfl
theorem coHolds_eq : laws_coHolds.f = some true := by
 unfold laws_coHolds.f
 rw [impl_Zero_eq]; simp only [Option.bind_some, if_true, bne_self_eq_false, Bool.false_eq_true, if_false]
 rw [impl_Frm_eq, frm_ok 0 0 0 0 0 0 (by decide) (by decide) (by decide) (by decide) (by decide) (by decide)]; rfl

theorem impl_FrmAt_yes (C D : List Int) (K : Int) (V A : List Int) (k : Nat) (n : Int) (h1 : frmB C D K = true) (h2 : okB V 3 10000 = true) (h3 : okB A 2 9 = true) (hn : impl_FrmForm_at.f k C D K V A = some n) : impl_FrmAt.f k C D K V A = some (n, true) := by
 unfold impl_FrmAt.f
 rw [impl_Frm_eq, h1]; simp only [Option.bind_some, if_true]
 rw [impl_Val_eq, h2]; simp only [Option.bind_some, if_true]
 rw [impl_Arg_eq, h3]; simp only [Option.bind_some, if_true]
 rw [hn]; rfl

def szdI (l : List S34) : Prop := (l.length : Int) ≤ 1048576 ∧ ∀ x ∈ l, (x.f0.length : Int) ≤ 1048576 ∧ (x.f1.length : Int) ≤ 1048576

def allF (l : List S34) : Bool := l.all fun x => frmB x.f0 x.f1 x.f2
def rowV (g a t : List S34) (s : Bool) : Bool := (allF g && (allF a && allF t)) && (if s = true then ((a.length : Int) == 0) && ((t.length : Int) == 0) else ((a.length : Int) == 3))

theorem l3_loop (l : List S34) (hl : l.length ≤ 1048576) (hw : ∀ x ∈ l, (x.f0.length : Int) ≤ 1048576 ∧ (x.f1.length : Int) ≤ 1048576) (d : Nat) : ∀ (k i : Nat), i + d = l.length → d + 1048577 < k → spec_l3Forms.l0 k l (i : Int) = some (allF (l.drop i)) := by
 induction d with
 | zero =>
  intro k i hi hk
  obtain ⟨k, rfl⟩ : ∃ m, k = m + 1 := ⟨k - 1, by omega⟩
  simp only [spec_l3Forms.l0]
  rw [if_neg (by omega), List.drop_of_length_le (by omega)]
  rfl
 | succ d ih =>
  intro k i hi hk
  obtain ⟨k, rfl⟩ : ∃ m, k = m + 1 := ⟨k - 1, by omega⟩
  have hlt : i < l.length := by omega
  have hx := hw _ (List.getElem_mem hlt)
  simp only [spec_l3Forms.l0]
  rw [if_pos (by omega), if_pos (by omega), show rd_T34 l (i : Int) = l[i] from getDG z34 l i hlt, spec_Frm_eq l[i].f0 l[i].f1 l[i].f2 k (by omega) (by omega) (by omega) (by omega), List.drop_eq_getElem_cons hlt]
  unfold allF
  rw [List.all_cons]
  simp only [Option.bind_some]
  cases frmB l[i].f0 l[i].f1 l[i].f2 with
  | false => rfl
  | true =>
   rw [if_pos rfl, show wrap64 ((i : Int) + 1) = ((i + 1 : Nat) : Int) from by rw [wrap_id (by omega) (by omega)]; omega, Bool.true_and]
   exact ih k (i + 1) (by omega) (by omega)
theorem l3Forms_eq (l : List S34) (k : Nat) (hk : 2097154 < k) (hl : szdI l) : spec_l3Forms.f k l = some (allF l) := by
 unfold spec_l3Forms.f
 have h1 := hl.1
 have := l3_loop l (by omega) hl.2 l.length k 0 (by omega) (by omega)
 simpa using this

theorem len_two0 (a b : Nat) (ha : (a : Int) ≤ 1048576) (hb : (b : Int) ≤ 1048576) : (wrap64 ((a : Int) + (b : Int)) == 0) = (((a : Int) == 0) && ((b : Int) == 0)) := by
 rw [wrap_id (by omega) (by omega), Bool.eq_iff_iff]
 simp only [beq_iff_eq, Bool.and_eq_true]
 omega
theorem spec_Row_eq (g a t : List S34) (s : Bool) (k : Nat) (hk : 2097154 < k) (hg : szdI g) (ha : szdI a) (ht : szdI t) : spec_RowOk.f k g a t s = some (rowV g a t s) := by
 obtain ⟨q, rfl⟩ : ∃ m, k = m + 1 := ⟨k - 1, by omega⟩
 unfold spec_RowOk.f rowV
 rw [l3Forms_eq g _ hk hg]; simp only [Option.bind_some]
 have e2 := len_two0 _ _ ha.1 ht.1
 cases h1 : allF g with
 | false => simp [spec_RowOk.j0]
 | true =>
  rw [if_pos rfl, l3Forms_eq a _ hk ha]; simp only [Option.bind_some]
  cases h2 : allF a with
  | false => simp [spec_RowOk.j0]
  | true =>
   rw [if_pos rfl, l3Forms_eq t _ hk ht]; simp only [Option.bind_some]
   cases h3 : allF t with
   | false => simp [spec_RowOk.j0]
   | true =>
    cases s with
    | false => simp [spec_RowOk.j0]
    | true =>
     simp only [spec_RowOk.j0]
     rw [if_neg (by decide), if_pos trivial, e2]
     simp

theorem frmOkB_eq (x : S34) : frmOkB x = frmB x.f0 x.f1 x.f2 := by
 unfold frmOkB frmB
 rw [withinB_ok, withinB_ok, inB_ib]
theorem rowB_eq (g a t : List S34) (s : Bool) : rowB g a t s = rowV g a t s := by
 unfold rowB rowV allF
 have e : (!(g ++ a ++ t).any fun x => !frmOkB x) = ((g.all fun x => frmB x.f0 x.f1 x.f2) && ((a.all fun x => frmB x.f0 x.f1 x.f2) && (t.all fun x => frmB x.f0 x.f1 x.f2))) := by
  rw [List.any_append, List.any_append]
  simp only [frmOkB_eq, Bool.not_or, List.all_eq_not_any_not, Bool.and_assoc]
 rw [e]
theorem impl_Row_eq (g a t : List S34) (s : Bool) (hg : szdI g) (ha : szdI a) (ht : szdI t) : impl_RowOk.f g a t s = some (rowV g a t s) := by
 unfold impl_RowOk.f
 have h1 := hg.1
 have h2 := ha.1
 have h3 := ht.1
 rw [if_pos (by omega), rowB_eq]

def atW (x : S34) (V R : List Int) : Int := atV (rd x.f0 0) (rd x.f0 1) (rd x.f0 2) (rd x.f1 0) (rd x.f1 1) x.f2 (rd V 0) (rd V 1) (rd V 2) (rd R 0) (rd R 1)
theorem atW_spec (x : S34) (V R : List Int) (k : Nat) (hk : 8 ≤ k) (hx : frmB x.f0 x.f1 x.f2 = true) (hV : okB V 3 10000 = true) (hR : okB R 2 9 = true) : spec_l1At.f k x.f0 x.f1 x.f2 V R = some (atW x V R) := by
 obtain ⟨v0, v1, v2, rfl⟩ := len3 (okB_len hV)
 obtain ⟨a0, a1, rfl⟩ := len2 (okB_len hR)
 obtain ⟨C, D, K⟩ := x
 simp only at hx ⊢
 have hK : wrap64 K = K := by
  unfold frmB at hx
  simp only [Bool.and_eq_true] at hx
  have := ibB_iff.mp hx.2.2
  exact wrap_id (by omega) (by omega)
 obtain ⟨q1, q2⟩ := frmB_len hx
 obtain ⟨c0, c1, c2, rfl⟩ := len3 q1
 obtain ⟨d0, d1, rfl⟩ := len2 q2
 exact l1At_eqk _ _ _ _ _ _ _ _ _ _ _ k hk hK
theorem atW_impl (x : S34) (V R : List Int) (k : Nat) (hk : 4 ≤ k) (hx : frmB x.f0 x.f1 x.f2 = true) (hV : okB V 3 10000 = true) (hR : okB R 2 9 = true) : impl_FrmForm_at.f k x.f0 x.f1 x.f2 V R = some (atW x V R) := by
 obtain ⟨v0, v1, v2, rfl⟩ := len3 (okB_len hV)
 obtain ⟨a0, a1, rfl⟩ := len2 (okB_len hR)
 obtain ⟨C, D, K⟩ := x
 simp only at hx ⊢
 obtain ⟨q1, q2⟩ := frmB_len hx
 obtain ⟨c0, c1, c2, rfl⟩ := len3 q1
 obtain ⟨d0, d1, rfl⟩ := len2 q2
 exact at_eqk _ _ _ _ _ _ _ _ _ _ _ k hk
def preR (g a t : List S34) (s : Bool) (V R : List Int) : Bool := rowV g a t s && (okB V 3 10000 && okB R 2 9)
theorem preR_facts {g a t : List S34} {s : Bool} {V R : List Int} (h : preR g a t s V R = true) : allF g = true ∧ allF a = true ∧ allF t = true ∧ okB V 3 10000 = true ∧ okB R 2 9 = true ∧ (s = false → (a.length : Int) = 3) := by
 unfold preR rowV at h
 simp only [Bool.and_eq_true] at h
 obtain ⟨⟨⟨h1, h2, h3⟩, h4⟩, h5, h6⟩ := h
 refine ⟨h1, h2, h3, h5, h6, fun e => ?_⟩
 subst e
 simpa using h4
theorem allF_mem {l : List S34} (h : allF l = true) : ∀ x ∈ l, frmB x.f0 x.f1 x.f2 = true := fun x hx => List.all_eq_true.mp h x hx
theorem impl_pre_eq (g a t : List S34) (s : Bool) (V R : List Int) (hg : szdI g) (ha : szdI a) (ht : szdI t) : impl_rowOk.f g a t s V R = some (preR g a t s V R) := by
 unfold impl_rowOk.f preR
 rw [impl_Row_eq g a t s hg ha ht]; simp only [Option.bind_some]
 cases rowV g a t s with
 | false => rfl
 | true =>
  rw [if_pos rfl, impl_Val_eq]; simp only [Option.bind_some]
  cases okB V 3 10000 with
  | false => rfl
  | true => rw [if_pos rfl, impl_Arg_eq]; rfl

def doOwn (V : List Int) (p : List Int) : List Int := [wrap64 (rd V 0 + rd p 0), wrap64 (rd V 1 + rd p 1), wrap64 (rd V 2 + rd p 2)]
def doEnd (V own told : List Int) : Int × List Int × List Int := if okB own 3 10000 = true then (1, told, own) else (3, [], V)
def doV (g a t : List S34) (s : Bool) (V R : List Int) : Int × List Int × List Int :=
 if preR g a t s V R = true then (if s = true then (2, [], V) else doEnd V (doOwn V (a.map fun x => atW x V R)) (t.map fun x => atW x V R)) else (0, [], [])
theorem doV_len (g a t : List S34) (s : Bool) (V R : List Int) (ht : t.length ≤ 1048576) (hV : V.length ≤ 1048576) : (doV g a t s V R).2.1.length ≤ 1048576 ∧ (doV g a t s V R).2.2.length ≤ 1048576 := by
 unfold doV doEnd
 split
 ·split
  ·exact ⟨by simp, hV⟩
  ·split
   ·exact ⟨by simpa using ht, by simp [doOwn]⟩
   ·exact ⟨by simp, hV⟩
 ·simp

theorem all_loop2 (a : List S34) (V R : List Int) (hl : a.length ≤ 1048576) (ha : allF a = true) (hV : okB V 3 10000 = true) (hR : okB R 2 9 = true) (d : Nat) : ∀ (k i : Nat) (acc : List Int), i + d = a.length → d + 20 < k → acc.length = i → impl_all.l0 k V R acc a (a.length : Int) (i : Int) = some (acc ++ (a.drop i).map fun x => atW x V R) := by
 induction d with
 | zero =>
  intro k i acc hi hk hacc
  obtain ⟨k, rfl⟩ : ∃ m, k = m + 1 := ⟨k - 1, by omega⟩
  simp only [impl_all.l0]
  rw [if_neg (by omega), List.drop_of_length_le (by omega)]
  simp
 | succ d ih =>
  intro k i acc hi hk hacc
  obtain ⟨k, rfl⟩ : ∃ m, k = m + 1 := ⟨k - 1, by omega⟩
  have hlt : i < a.length := by omega
  have hx := allF_mem ha _ (List.getElem_mem hlt)
  simp only [impl_all.l0]
  rw [if_pos (by omega), if_pos (by omega), if_pos (by omega), show rd_T34 a (i : Int) = a[i] from getDG z34 a i hlt, atW_impl a[i] V R k (by omega) hx hV hR]
  simp only [Option.bind_some]
  rw [if_pos (by omega), show wrap64 ((i : Int) + 1) = ((i + 1 : Nat) : Int) from by rw [wrap_id (by omega) (by omega)]; omega, ih k (i + 1) _ (by omega) (by omega) (by simp [hacc]), List.drop_eq_getElem_cons hlt, List.map_cons, List.append_assoc]
  rfl
theorem impl_all_eq (a : List S34) (V R : List Int) (k : Nat) (hk : 1048700 < k) (hl : a.length ≤ 1048576) (ha : allF a = true) (hV : okB V 3 10000 = true) (hR : okB R 2 9 = true) : impl_all.f k a V R = some (a.map fun x => atW x V R) := by
 unfold impl_all.f
 have := all_loop2 a V R hl ha hV hR a.length k 0 [] (by omega) (by omega) rfl
 simpa using this

theorem mapLen3 {a : List S34} (f : S34 → Int) (h : (a.length : Int) = 3) : ∃ p q r, a.map f = [p, q, r] := by
 obtain ⟨x, y, z, e⟩ := len3 (l := a.map f) (by rw [List.length_map]; exact h)
 exact ⟨x, y, z, e⟩
theorem impl_Do_eq (g a t : List S34) (s : Bool) (V R : List Int) (k : Nat) (hk : 2097200 < k) (hg : szdI g) (ha : szdI a) (ht : szdI t) (hV : V.length ≤ 1048576) : impl_RowDo.f k g a t s V R = some (doV g a t s V R) := by
 unfold impl_RowDo.f doV
 rw [impl_pre_eq g a t s V R hg ha ht]; simp only [Option.bind_some]
 cases hp : preR g a t s V R with
 | false => rfl
 | true =>
  obtain ⟨f1, f2, f3, f4, f5, f6⟩ := preR_facts hp
  have h1 := ha.1
  have h2 := ht.1
  have hc : slices_Clone_int_int.f V = some V := by unfold slices_Clone_int_int.f; rw [if_pos (by omega)]
  rw [if_pos rfl, if_pos rfl]
  cases s with
  | true => rw [if_pos rfl, if_pos rfl, hc]; rfl
  | false =>
   rw [if_neg (by decide), if_neg (by decide), impl_all_eq a V R k (by omega) (by omega) f2 f4 f5]; simp only [Option.bind_some]
   obtain ⟨p, q, r, e⟩ := mapLen3 (fun x => atW x V R) (f6 rfl)
   obtain ⟨v0, v1, v2, rfl⟩ := len3 (okB_len f4)
   rw [e, plus_eq v0 v1 v2 p q r k (by omega)]; simp only [Option.bind_some]
   unfold doEnd
   show _ = some (if okB [wrap64 (v0 + p), wrap64 (v1 + q), wrap64 (v2 + r)] 3 10000 = true then _ else _)
   rw [impl_Val_eq]; simp only [Option.bind_some]
   cases hq : okB [wrap64 (v0 + p), wrap64 (v1 + q), wrap64 (v2 + r)] 3 10000 with
   | true => rw [if_pos rfl, impl_all_eq t _ R k (by omega) (by omega) f3 f4 f5]; rfl
   | false => rw [if_neg (by decide), hc]; rfl

theorem l2End_eq (V own told : List Int) (k : Nat) (hk : 20 < k) (ho : own.length < k) (ho2 : own.length ≤ 1048576) (hV : V.length ≤ 1048576) : spec_l2End.f k V own told = some (doEnd V own told) := by
 unfold spec_l2End.f doEnd
 rw [spec_Val_eq own k ho ho2]; simp only [Option.bind_some]
 cases okB own 3 10000 with
 | true => rfl
 | false =>
  rw [if_neg (by decide), if_pos (by simp; omega)]
  rfl
theorem do_l1 (g a t : List S34) (s : Bool) (V R own : List Int) (hl : t.length ≤ 1048576) (ht : allF t = true) (hV : okB V 3 10000 = true) (hR : okB R 2 9 = true) (ho : own.length = 3) (d : Nat) : ∀ (k i : Nat) (acc : List Int), i + d = t.length → d + 30 < k → acc.length = i → spec_RowDo.l1 k V R own acc (i : Int) g a t s = some (doEnd V own (acc ++ (t.drop i).map fun x => atW x V R)) := by
 have hv3 := okB_len hV
 induction d with
 | zero =>
  intro k i acc hi hk hacc
  obtain ⟨k, rfl⟩ : ∃ m, k = m + 1 := ⟨k - 1, by omega⟩
  simp only [spec_RowDo.l1]
  rw [if_neg (by omega), List.drop_of_length_le (by omega), l2End_eq V own acc k (by omega) (by omega) (by omega) (by omega)]
  simp
 | succ d ih =>
  intro k i acc hi hk hacc
  obtain ⟨k, rfl⟩ : ∃ m, k = m + 1 := ⟨k - 1, by omega⟩
  have hlt : i < t.length := by omega
  have hx := allF_mem ht _ (List.getElem_mem hlt)
  simp only [spec_RowDo.l1]
  rw [if_pos (by omega), if_pos (by omega), show rd_T34 t (i : Int) = t[i] from getDG z34 t i hlt, atW_spec t[i] V R k (by omega) hx hV hR]
  simp only [Option.bind_some]
  rw [if_pos (by omega), show wrap64 ((i : Int) + 1) = ((i + 1 : Nat) : Int) from by rw [wrap_id (by omega) (by omega)]; omega, ih k (i + 1) _ (by omega) (by omega) (by simp [hacc]), List.drop_eq_getElem_cons hlt, List.map_cons, List.append_assoc]
  rfl
theorem do_l0 (g a t : List S34) (s : Bool) (V R : List Int) (hl : t.length ≤ 1048576) (ha : allF a = true) (ha3 : (a.length : Int) = 3) (ht : allF t = true) (hV : okB V 3 10000 = true) (hR : okB R 2 9 = true) (k : Nat) (hk : 1048700 < k) : spec_RowDo.l0 k V R V 0 g a t s = some (doEnd V (doOwn V (a.map fun x => atW x V R)) (t.map fun x => atW x V R)) := by
 obtain ⟨k, rfl⟩ : ∃ m, k = m + 4 := ⟨k - 4, by omega⟩
 have w1 : wrap64 (0 + 1) = 1 := by unfold wrap64; omega
 have w2 : wrap64 (1 + 1) = 2 := by unfold wrap64; omega
 have w3 : wrap64 (2 + 1) = 3 := by unfold wrap64; omega
 have hm := allF_mem ha
 match a, ha3, hm with
 | [x, y, z], _, hm =>
  have e0 := fun (j : Nat) (hj : 8 ≤ j) => atW_spec x V R j hj (hm x (by simp)) hV hR
  have e1 := fun (j : Nat) (hj : 8 ≤ j) => atW_spec y V R j hj (hm y (by simp)) hV hR
  have e2 := fun (j : Nat) (hj : 8 ≤ j) => atW_spec z V R j hj (hm z (by simp)) hV hR
  have hEnd := fun (own : List Int) (ho : own.length = 3) => do_l1 g [x, y, z] t s V R own hl ht hV hR ho t.length k 0 [] (by omega) (by omega) rfl
  generalize hx : atW x V R = p at e0
  generalize hy : atW y V R = q at e1
  generalize hz : atW z V R = r at e2
  simp only [List.map_cons, List.map_nil, hx, hy, hz]
  obtain ⟨v0, v1, v2, rfl⟩ := len3 (okB_len hV)
  simp only [spec_RowDo.l0, w1, w2, w3]
  rw [if_pos (by decide), if_pos (by decide), if_pos (by simp), if_pos (by simp), show rd_T34 [x, y, z] 0 = x from rfl, e0 _ (by omega)]; simp only [Option.bind_some]
  rw [if_pos (by decide), if_pos (by decide), if_pos (by simp), if_pos (by simp), show rd_T34 [x, y, z] 1 = y from rfl, e1 _ (by omega)]; simp only [Option.bind_some]
  rw [if_pos (by decide), if_pos (by decide), if_pos (by simp), if_pos (by simp), show rd_T34 [x, y, z] 2 = z from rfl, e2 _ (by omega)]; simp only [Option.bind_some]
  rw [if_neg (by decide)]
  refine (hEnd _ ?_).trans ?_
  ·simp
  ·simp [doOwn, rd]
theorem spec_Do_eq (g a t : List S34) (s : Bool) (V R : List Int) (k : Nat) (hk : 2097200 < k) (hg : szdI g) (ha : szdI a) (ht : szdI t) (hV : V.length ≤ 1048576) (hR : R.length ≤ 1048576) : spec_RowDo.f k g a t s V R = some (doV g a t s V R) := by
 obtain ⟨q, rfl⟩ : ∃ m, k = m + 1 := ⟨k - 1, by omega⟩
 unfold spec_RowDo.f doV
 rw [spec_Row_eq g a t s _ (by omega) hg ha ht]; simp only [Option.bind_some]
 have no : ∀ b : Bool, b = true → spec_RowDo.j0 (q + 1) V R b g a t s = some (0, [], []) := by intro b hb; subst hb; simp [spec_RowDo.j0]
 cases h1 : rowV g a t s with
 | false => unfold preR; rw [h1, if_neg (by decide), no _ rfl]; rfl
 | true =>
  rw [if_pos rfl, spec_Val_eq V _ (by omega) (by omega)]; simp only [Option.bind_some]
  cases h2 : okB V 3 10000 with
  | false => unfold preR; rw [h1, h2, if_neg (by decide), no _ rfl]; rfl
  | true =>
   rw [if_pos rfl, spec_Arg_eq R _ (by omega) (by omega)]; simp only [Option.bind_some]
   cases h3 : okB R 2 9 with
   | false => unfold preR; rw [h1, h2, h3, no (!false) rfl]; rfl
   | true =>
    have hp : preR g a t s V R = true := by unfold preR; rw [h1, h2, h3]; rfl
    obtain ⟨f1, f2, f3, f4, f5, f6⟩ := preR_facts hp
    have hg1 := ht.1
    rw [hp, if_pos rfl]
    simp only [spec_RowDo.j0, Bool.not_true, Bool.false_eq_true, if_false, Option.bind_some, List.nil_append]
    cases s with
    | true => rw [if_pos rfl, if_pos (by simp; omega)]; rfl
    | false =>
     rw [if_neg (by decide), if_pos (by simp; omega), if_neg (by decide)]
     exact do_l0 g a t false V R (by omega) f2 (f6 rfl) f3 f4 f5 q (by omega)

theorem lineB_cases {a b c : Int} {C D : List Int} {K : Int} (h : lineB a b c C D K = true) : (a = 1 ∧ (1 ≤ c ∧ c ≤ 6) ∧ smallB C D K = true) ∨ (a = 2 ∧ (0 ≤ b ∧ b ≤ 2) ∧ smallB C D K = true) ∨ (a = 3 ∧ smallB C D K = true) ∨ a = 4 := by
 unfold lineB at h
 by_cases h1 : a = 1
 ·rw [if_pos h1] at h
  simp only [Bool.and_eq_true] at h
  exact .inl ⟨h1, ibB_iff.mp h.2.1, h.2.2⟩
 rw [if_neg h1] at h
 by_cases h2 : a = 2
 ·rw [if_pos h2] at h
  simp only [Bool.and_eq_true] at h
  exact .inr (.inl ⟨h2, ibB_iff.mp h.1, h.2.2⟩)
 rw [if_neg h2] at h
 by_cases h3 : a = 3
 ·rw [if_pos h3] at h
  simp only [Bool.and_eq_true] at h
  exact .inr (.inr (.inl ⟨h3, h.2.2⟩))
 rw [if_neg h3] at h
 by_cases h4 : a = 4
 ·exact .inr (.inr (.inr h4))
 rw [if_neg h4] at h
 exact absurd h (by decide)
theorem actG_all : ∀ (l : List S100) (t n : Int), actG l t n = true → n ≤ 6 ∧ ∀ x ∈ l, lnB x = true
 | [], t, n, h => by
  simp only [actG, Bool.and_eq_true, decide_eq_true_eq] at h
  exact ⟨h.1, by simp⟩
 | x :: xs, t, n, h => by
  simp only [actG, Bool.and_eq_true] at h
  obtain ⟨p, q⟩ := actG_all xs _ n h.2
  refine ⟨p, fun y hy => ?_⟩
  rcases List.mem_cons.mp hy with rfl | hy
  ·exact h.1
  ·exact q y hy

def smA (l : List S100) (m : Nat) : Prop := l.length ≤ m ∧ ∀ x ∈ l, x.f3.f0.length ≤ 4 ∧ x.f3.f1.length ≤ 4
theorem smA.push {l : List S100} {m : Nat} (h : smA l m) (x : S100) (hx : x.f3.f0.length ≤ 4 ∧ x.f3.f1.length ≤ 4) : smA (l ++ [x]) (m + 1) :=
 ⟨by rw [List.length_append]; have := h.1; simp; omega, fun y hy => by
  rcases List.mem_append.mp hy with hy | hy
  ·exact h.2 y hy
  ·simp only [List.mem_singleton] at hy; subst hy; exact hx⟩
theorem smA.mono {l : List S100} {m n : Nat} (h : smA l m) (hn : m ≤ n) : smA l n := ⟨Nat.le_trans h.1 hn, h.2⟩
theorem smA.sz {l : List S100} {m : Nat} (h : smA l m) : ∀ x ∈ l, (x.f3.f0.length : Int) ≤ 1048576 ∧ (x.f3.f1.length : Int) ≤ 1048576 := fun x hx => by have := h.2 x hx; omega
theorem line_eq (L : List Int) (hL : ∀ x ∈ L, (Lit.int .u8 x).wf = true) (hl : L.length ≤ 2000) (s : Int) (k : Nat) (hk : 20 ≤ k) (h0 : 0 ≤ s) (h1 : s ≤ 500000) :
  ∃ a b c C D K s', spec_l20Line.f k L s = some (a, b, c, C, D, K, s') ∧ s ≤ s' ∧ s' ≤ s + 20 ∧ C.length ≤ 4 ∧ D.length ≤ 4 := by
 unfold spec_l20Line.f
 obtain ⟨v, e1, v0, v1⟩ := pick_eq L hL hl s 7 k (by omega) h0 (by omega) (by omega)
 rw [e1]; simp only [Option.bind_some, if_true, bne_self_eq_false, Bool.false_eq_true, if_false]
 obtain ⟨k, rfl⟩ : ∃ m, k = m + 2 := ⟨k - 2, by omega⟩
 have j1 : ∀ b : Bool, ∃ a b' c C D K s', spec_l20Line.j1 (k + 1) v b L (s + 1) = some (a, b', c, C, D, K, s') ∧ s ≤ s' ∧ s' ≤ s + 20 ∧ C.length ≤ 4 ∧ D.length ≤ 4 := by
  intro b
  simp only [spec_l20Line.j1]
  obtain ⟨C, D, K, e2, hC, _, hD, _⟩ := small_eq L hL hl (s + 1) k (by omega) (by omega) (by omega)
  cases b with
  | true =>
   rw [if_pos rfl, e2]; simp only [Option.bind_some, if_true, bne_self_eq_false, Bool.false_eq_true, if_false]
   obtain ⟨p, e3, p0, p1⟩ := pick_eq L hL hl (s + 1 + 6) 3 k (by omega) (by omega) (by omega) (by omega)
   obtain ⟨q, e4, q0, q1⟩ := pick_eq L hL hl (s + 1 + 6 + 1) 3 k (by omega) (by omega) (by omega) (by omega)
   rw [e3]; simp only [Option.bind_some, if_true, bne_self_eq_false, Bool.false_eq_true, if_false]
   by_cases hp : p > 0
   ·rw [if_pos hp, e4]; simp only [Option.bind_some, if_true, bne_self_eq_false, Bool.false_eq_true, if_false]
    exact ⟨_, _, _, _, _, _, _, rfl, by omega, by omega, by simp, by omega⟩
   ·rw [if_neg hp, e4]; simp only [Option.bind_some, if_true, bne_self_eq_false, Bool.false_eq_true, if_false]
    exact ⟨_, _, _, _, _, _, _, rfl, by omega, by omega, by omega, by omega⟩
  | false =>
   rw [if_neg (by decide)]
   by_cases h5 : v = 5
   ·rw [if_pos h5, e2]; simp only [Option.bind_some, if_true, bne_self_eq_false, Bool.false_eq_true, if_false]
    exact ⟨_, _, _, _, _, _, _, rfl, by omega, by omega, by omega, by omega⟩
   ·rw [if_neg h5]
    exact ⟨_, _, _, _, _, _, _, rfl, by omega, by omega, by simp, by simp⟩
 have j0 : ∀ b : Bool, ∃ a b' c C D K s', spec_l20Line.j0 (k + 2) v b L (s + 1) = some (a, b', c, C, D, K, s') ∧ s ≤ s' ∧ s' ≤ s + 20 ∧ C.length ≤ 4 ∧ D.length ≤ 4 := by
  intro b
  simp only [spec_l20Line.j0]
  cases b with
  | true =>
   obtain ⟨p, e3, p0, p1⟩ := pick_eq L hL hl (s + 1) 3 (k + 1) (by omega) (by omega) (by omega) (by omega)
   obtain ⟨C, D, K, e2, hC, _, hD, _⟩ := small_eq L hL hl (s + 1 + 1) (k + 1) (by omega) (by omega) (by omega)
   rw [if_pos rfl, e3]; simp only [Option.bind_some, if_true, bne_self_eq_false, Bool.false_eq_true, if_false]
   rw [e2]; simp only [Option.bind_some, if_true, bne_self_eq_false, Bool.false_eq_true, if_false]
   exact ⟨_, _, _, _, _, _, _, rfl, by omega, by omega, by omega, by omega⟩
  | false =>
   rw [if_neg (by decide)]
   by_cases h2 : v = 2
   ·rw [if_pos h2]; exact j1 _
   ·rw [if_neg h2]
    by_cases h3 : v = 3
    ·rw [if_pos h3]; exact j1 _
    ·rw [if_neg h3]; exact j1 _
 by_cases hv : v = 0
 ·rw [if_pos hv]; exact j0 _
 ·rw [if_neg hv]; exact j0 _
theorem num_eq (a b c : Int) : spec_l20Num.f a b c = some ([0, 0, 0], [a, b], c) := by
 unfold spec_l20Num.f
 rw [spec_Zero_eq]; rfl
def fm (m : Int) (x : S34) : Prop := ∃ c0 c1 c2 d0 d1 K, x = ⟨[c0, c1, c2], [d0, d1], K⟩ ∧ (-m ≤ c0 ∧ c0 ≤ m) ∧ (-m ≤ c1 ∧ c1 ≤ m) ∧ (-m ≤ c2 ∧ c2 ≤ m) ∧ (-m ≤ d0 ∧ d0 ≤ m) ∧ (-m ≤ d1 ∧ d1 ≤ m) ∧ (-m ≤ K ∧ K ≤ m)
theorem fm.mono {m n : Int} {x : S34} (h : fm m x) (hn : m ≤ n) : fm n x := by
 obtain ⟨c0, c1, c2, d0, d1, K, e, h0, h1, h2, h3, h4, h5⟩ := h
 exact ⟨c0, c1, c2, d0, d1, K, e, by omega, by omega, by omega, by omega, by omega, by omega⟩
theorem fm.len {m : Int} {x : S34} (h : fm m x) : x.f0.length = 3 ∧ x.f1.length = 2 := by
 obtain ⟨c0, c1, c2, d0, d1, K, rfl, _⟩ := h
 exact ⟨rfl, rfl⟩
theorem sum_fm (a b : S34) (t m n q : Int) (k : Nat) (hk : 7 ≤ k) (ha : fm m a) (hb : fm n b) (ht : ∀ y, -n ≤ y → y ≤ n → -q ≤ t * y ∧ t * y ≤ q) (hm : m ≤ 1000000000) (hq : q ≤ 1000000000) :
  ∃ X Y Z, spec_l1Sum.f k a.f0 a.f1 a.f2 b.f0 b.f1 b.f2 t = some (X, Y, Z) ∧ fm (m + q) ⟨X, Y, Z⟩ := by
 obtain ⟨k, rfl⟩ : ∃ m, k = m + 7 := ⟨k - 7, by omega⟩
 obtain ⟨a0, a1, a2, e0, e1, K, rfl, u0, u1, u2, u3, u4, u5⟩ := ha
 obtain ⟨c0, c1, c2, d0, d1, G, rfl, v0, v1, v2, v3, v4, v5⟩ := hb
 have p0 := ht c0 v0.1 v0.2
 have p1 := ht c1 v1.1 v1.2
 have p2 := ht c2 v2.1 v2.2
 have p3 := ht d0 v3.1 v3.2
 have p4 := ht d1 v4.1 v4.2
 have p5 := ht G v5.1 v5.2
 refine ⟨_, _, _, l1Sum_eq a0 a1 a2 e0 e1 K c0 c1 c2 d0 d1 G t k, ?_⟩
 generalize t * c0 = z0 at p0 ⊢
 generalize t * c1 = z1 at p1 ⊢
 generalize t * c2 = z2 at p2 ⊢
 generalize t * d0 = z3 at p3 ⊢
 generalize t * d1 = z4 at p4 ⊢
 generalize t * G = z5 at p5 ⊢
 have w : ∀ x z : Int, (-m ≤ x ∧ x ≤ m) → (-q ≤ z ∧ z ≤ q) → wrap64 (x + wrap64 z) = x + z ∧ (-(m + q) ≤ x + z ∧ x + z ≤ m + q) := fun x z h h' => by
  rw [wrap_id (x := z) (by omega) (by omega), wrap_id (by omega) (by omega)]
  omega
 refine ⟨_, _, _, _, _, _, rfl, ?_, ?_, ?_, ?_, ?_, ?_⟩
 ·rw [(w a0 z0 u0 p0).1]; exact (w a0 z0 u0 p0).2
 ·rw [(w a1 z1 u1 p1).1]; exact (w a1 z1 u1 p1).2
 ·rw [(w a2 z2 u2 p2).1]; exact (w a2 z2 u2 p2).2
 ·rw [(w e0 z3 u3 p3).1]; exact (w e0 z3 u3 p3).2
 ·rw [(w e1 z4 u4 p4).1]; exact (w e1 z4 u4 p4).2
 ·rw [(w K z5 u5 p5).1]; exact (w K z5 u5 p5).2
theorem t_one (n : Int) : ∀ y, -n ≤ y → y ≤ n → -n ≤ 1 * y ∧ 1 * y ≤ n := fun y h0 h1 => by rw [Int.one_mul]; exact ⟨h0, h1⟩
theorem t_neg (n : Int) : ∀ y, -n ≤ y → y ≤ n → -n ≤ (-1) * y ∧ (-1) * y ≤ n := fun y h0 h1 => by omega
theorem t_two (n t : Int) (h0 : -2 ≤ t) (h1 : t ≤ 2) : ∀ y, -n ≤ y → y ≤ n → -(2 * n) ≤ t * y ∧ t * y ≤ 2 * n := fun y g0 g1 => by
 obtain rfl | rfl | rfl | rfl | rfl : t = -2 ∨ t = -1 ∨ t = 0 ∨ t = 1 ∨ t = 2 := by omega
 all_goals omega
theorem fm_zero : fm 0 (⟨[0, 0, 0], [0, 0], 0⟩ : S34) := ⟨0, 0, 0, 0, 0, 0, rfl, by omega, by omega, by omega, by omega, by omega, by omega⟩
theorem mem_rdF (l : List S34) (i : Int) (h0 : 0 ≤ i) (h1 : i < (l.length : Int)) : rd_T34 l i ∈ l := by
 obtain ⟨n, rfl⟩ := Int.eq_ofNat_of_zero_le h0
 have hn : n < l.length := by omega
 rw [show rd_T34 l (n : Int) = l[n] from getDG z34 l n hn]
 exact List.getElem_mem hn
def fms (n : Nat) (m : Int) (l : List S34) : Prop := l.length ≤ n ∧ ∀ x ∈ l, fm m x
theorem fms.push {n : Nat} {m : Int} {l : List S34} {x : S34} (h : fms n m l) (hx : fm m x) : fms (n + 1) m (l ++ [x]) :=
 ⟨by rw [List.length_append]; have := h.1; simp; omega, fun y hy => by
  rcases List.mem_append.mp hy with hy | hy
  ·exact h.2 y hy
  ·simp only [List.mem_singleton] at hy; subst hy; exact hx⟩
theorem fms.mono {n n' : Nat} {m m' : Int} {l : List S34} (h : fms n m l) (hn : n ≤ n') (hm : m ≤ m') : fms n' m' l := ⟨Nat.le_trans h.1 hn, fun x hx => (h.2 x hx).mono hm⟩

theorem copy_loop (l : List S34) (m : Int) (hm : m ≤ 100000000) (hl : l.length ≤ 1000) (hf : ∀ x ∈ l, fm m x) (d : Nat) : ∀ (k i : Nat) (out : List S34), i + d = l.length → d + 8 ≤ k → fms i m out → out.length = i →
  ∃ l', spec_l3Copy.l0 k l out (i : Int) = some l' ∧ fms l.length m l' ∧ l'.length = l.length := by
 induction d with
 | zero =>
  intro k i out hi hk ho hn
  obtain ⟨k, rfl⟩ : ∃ m, k = m + 1 := ⟨k - 1, by omega⟩
  simp only [spec_l3Copy.l0]
  rw [if_neg (by omega)]
  exact ⟨out, rfl, ho.mono (by omega) (by omega), by omega⟩
 | succ d ih =>
  intro k i out hi hk ho hn
  obtain ⟨k, rfl⟩ : ∃ m, k = m + 1 := ⟨k - 1, by omega⟩
  simp only [spec_l3Copy.l0]
  rw [if_pos (by omega), spec_Zero_eq]; simp only [Option.bind_some]
  rw [if_pos (by omega)]
  obtain ⟨X, Y, Z, e, h⟩ := sum_fm ⟨[0, 0, 0], [0, 0], 0⟩ (rd_T34 l (i : Int)) 1 0 m m k (by omega) fm_zero (hf _ (mem_rdF l i (by omega) (by omega))) (t_one m) (by omega) (by omega)
  rw [e]; simp only [Option.bind_some]
  rw [if_pos (by omega), show wrap64 ((i : Int) + 1) = ((i + 1 : Nat) : Int) from by rw [wrap_id (by omega) (by omega)]; omega]
  exact ih k (i + 1) _ (by omega) (by omega) (ho.push (h.mono (by omega))) (by simp; omega)
theorem copy_eq (l : List S34) (n : Nat) (m : Int) (k : Nat) (hm : m ≤ 100000000) (hn : n ≤ 1000) (hf : fms n m l) (hk : n + 8 ≤ k) : ∃ l', spec_l3Copy.f k l = some l' ∧ fms n m l' ∧ l'.length = l.length := by
 unfold spec_l3Copy.f
 have hl := hf.1
 obtain ⟨l', e, h, h2⟩ := copy_loop l m hm (by omega) hf.2 l.length k 0 [] (by omega) (by omega) ⟨by simp, by simp⟩ rfl
 exact ⟨l', e, h.mono hl (by omega), h2⟩

theorem row_pots (p q r : S34) (m : Int) (hm : m ≤ 100000000) (hp : fm m p) (hq : fm m q) (hr : fm m r) (x0 x2 : List S34) (k : Nat) (hk : 20 ≤ k) :
  ∃ l', spec_l3Row.l0 k [p, q, r] 0 x0 [] x2 false = some (x0, l', x2, false) ∧ l'.length = 3 ∧ ∀ x ∈ l', fm (m + 1) x := by
 obtain ⟨k, rfl⟩ : ∃ m, k = m + 4 := ⟨k - 4, by omega⟩
 have w1 : wrap64 (0 + 1) = 1 := by unfold wrap64; omega
 have w2 : wrap64 (1 + 1) = 2 := by unfold wrap64; omega
 have w3 : wrap64 (2 + 1) = 3 := by unfold wrap64; omega
 have g0 : fm 1 (⟨[1, 0, 0], [0, 0], 0⟩ : S34) := ⟨1, 0, 0, 0, 0, 0, rfl, by omega, by omega, by omega, by omega, by omega, by omega⟩
 have g1 : fm 1 (⟨[0, 1, 0], [0, 0], 0⟩ : S34) := ⟨0, 1, 0, 0, 0, 0, rfl, by omega, by omega, by omega, by omega, by omega, by omega⟩
 have g2 : fm 1 (⟨[0, 0, 1], [0, 0], 0⟩ : S34) := ⟨0, 0, 1, 0, 0, 0, rfl, by omega, by omega, by omega, by omega, by omega, by omega⟩
 have l3 : (([p, q, r] : List S34).length : Int) = 3 := rfl
 obtain ⟨A0, B0, C0, e0, h0⟩ := sum_fm p _ (-1) m 1 1 (k + 3) (by omega) hp g0 (t_neg 1) (by omega) (by omega)
 obtain ⟨A1, B1, C1, e1, h1⟩ := sum_fm q _ (-1) m 1 1 (k + 2) (by omega) hq g1 (t_neg 1) (by omega) (by omega)
 obtain ⟨A2, B2, C2, e2, h2⟩ := sum_fm r _ (-1) m 1 1 (k + 1) (by omega) hr g2 (t_neg 1) (by omega) (by omega)
 have f0 : spec_FrmPot.f 0 = some ([1, 0, 0], [0, 0], 0) := spec_Pot_eq 0
 have f1 : spec_FrmPot.f 1 = some ([0, 1, 0], [0, 0], 0) := spec_Pot_eq 1
 have f2 : spec_FrmPot.f 2 = some ([0, 0, 1], [0, 0], 0) := spec_Pot_eq 2
 have r0 : rd_T34 [p, q, r] 0 = p := rfl
 have r1 : rd_T34 [p, q, r] 1 = q := rfl
 have r2 : rd_T34 [p, q, r] 2 = r := rfl
 refine ⟨[⟨A0, B0, C0⟩, ⟨A1, B1, C1⟩, ⟨A2, B2, C2⟩], ?_, rfl, ?_⟩
 ·simp only [spec_l3Row.l0, l3, f0, f1, f2, r0, r1, r2, Option.bind_some, w1, w2, w3]
  rw [if_pos (by decide), if_pos (by decide), if_pos (by decide), e0]; simp only [Option.bind_some]
  rw [if_pos (by simp), if_pos (by decide), if_pos (by decide), if_pos (by decide), e1]; simp only [Option.bind_some]
  rw [if_pos (by simp), if_pos (by decide), if_pos (by decide), if_pos (by decide), e2]; simp only [Option.bind_some]
  rw [if_pos (by simp), if_neg (by decide)]
  rfl
 ·intro x hx
  simp only [List.mem_cons, List.not_mem_nil, or_false] at hx
  rcases hx with rfl | rfl | rfl
  ·exact h0
  ·exact h1
  ·exact h2
theorem l3G {α : Type} {l : List α} (h : l.length = 3) : ∃ a b c, l = [a, b, c] := by
 match l, h with
 | [a, b, c], _ => exact ⟨a, b, c, rfl⟩
theorem row_eq (P G T : List S34) (n : Nat) (m : Int) (k : Nat) (hm : m ≤ 100000000) (hn : n ≤ 1000) (hp : fms 3 m P) (hp3 : P.length = 3) (hg : fms n m G) (ht : fms n m T) (hk : n + 20 ≤ k) :
  ∃ x0 x1 x2, spec_l3Row.f k P G T = some (x0, x1, x2, false) ∧ fms n m x0 ∧ (fms 3 (m + 1) x1 ∧ x1.length = 3) ∧ fms n m x2 := by
 obtain ⟨p, q, r, rfl⟩ := l3G hp3
 obtain ⟨x0, e0, h0, _⟩ := copy_eq G n m k hm hn hg (by omega)
 obtain ⟨x2, e2, h2, _⟩ := copy_eq T n m k hm hn ht (by omega)
 obtain ⟨x1, e1, h1, h3⟩ := row_pots p q r m hm (hp.2 p (by simp)) (hp.2 q (by simp)) (hp.2 r (by simp)) x0 x2 k (by omega)
 refine ⟨x0, x1, x2, ?_, h0, ⟨⟨by omega, h3⟩, h1⟩, h2⟩
 unfold spec_l3Row.f
 rw [e0]; simp only [Option.bind_some]
 rw [e2]; simp only [Option.bind_some]
 exact e1

theorem fm_frmB {m : Int} {x : S34} (h : fm m x) (hm : m ≤ 10000000) : frmB x.f0 x.f1 x.f2 = true := by
 obtain ⟨c0, c1, c2, d0, d1, K, rfl, h0, h1, h2, h3, h4, h5⟩ := h
 have w : wrap64 (-10000000) = -10000000 := wrap_id (by decide) (by decide)
 have f : ∀ y : Int, (-m ≤ y ∧ y ≤ m) → ibB y (wrap64 (-10000000)) 10000000 = true := fun y hy => ibB_iff.mpr (by rw [w]; omega)
 unfold frmB okB
 simp only [List.all_cons, List.all_nil, f c0 h0, f c1 h1, f c2 h2, f d0 h3, f d1 h4, Bool.and_true]
 rw [show ibB K (-10000000) 10000000 = true from ibB_iff.mpr (by omega)]
 rfl
theorem smallB_fm {C D : List Int} {K : Int} (h : smallB C D K = true) : ∃ c0 c1 c2 d0 d1, C = [c0, c1, c2] ∧ D = [d0, d1] ∧ (-2 ≤ c0 ∧ c0 ≤ 2) ∧ (-2 ≤ c1 ∧ c1 ≤ 2) ∧ (-2 ≤ c2 ∧ c2 ≤ 2) ∧ (-2 ≤ d0 ∧ d0 ≤ 2) ∧ (-2 ≤ d1 ∧ d1 ≤ 2) ∧ (-20 ≤ K ∧ K ≤ 20) := by
 unfold smallB at h
 simp only [Bool.and_eq_true] at h
 obtain ⟨h1, h2, h3⟩ := h
 obtain ⟨a1, a2⟩ := okB_iff.mp h1
 obtain ⟨b1, b2⟩ := okB_iff.mp h2
 have k3 := ibB_iff.mp h3
 obtain ⟨c0, c1, c2, rfl⟩ := len3 a1
 obtain ⟨d0, d1, rfl⟩ := len2 b1
 rw [show wrap64 (-2) = -2 from wrap_id (by decide) (by decide)] at a2 b2
 exact ⟨c0, c1, c2, d0, d1, rfl, rfl, a2 c0 (by simp), a2 c1 (by simp), a2 c2 (by simp), b2 d0 (by simp), b2 d1 (by simp), k3⟩
theorem intoS_eq (C D : List Int) (K : Int) (P : List S34) (m : Int) (k : Nat) (hm0 : 0 ≤ m) (hm : m ≤ 1000000) (hk : 20 ≤ k) (hs : smallB C D K = true) (hp : fms 3 m P) (hp3 : P.length = 3) :
  ∃ X Y Z, spec_FrmInto.f k C D K P = some (X, Y, Z) ∧ fm (20 + 6 * m) ⟨X, Y, Z⟩ := by
 obtain ⟨k, rfl⟩ : ∃ m, k = m + 5 := ⟨k - 5, by omega⟩
 obtain ⟨p, q, r, rfl⟩ : ∃ a b c, P = [a, b, c] := by
  match P, hp3 with
  | [a, b, c], _ => exact ⟨a, b, c, rfl⟩
 obtain ⟨c0, c1, c2, d0, d1, rfl, rfl, b0, b1, b2, b3, b4, b5⟩ := smallB_fm hs
 have hF : fm 20 (⟨[c0, c1, c2], [d0, d1], K⟩ : S34) := ⟨c0, c1, c2, d0, d1, K, rfl, by omega, by omega, by omega, by omega, by omega, by omega⟩
 have hO : fm 20 (⟨[0, 0, 0], [d0, d1], K⟩ : S34) := ⟨0, 0, 0, d0, d1, K, rfl, by omega, by omega, by omega, by omega, by omega, by omega⟩
 have hp := fun x (hx : x ∈ [p, q, r]) => hp.2 x hx
 have p0 := hp p (by simp)
 have p1 := hp q (by simp)
 have p2 := hp r (by simp)
 have ok : ∀ (j : Nat) (x : S34) (n : Int), fm n x → n ≤ 10000000 → 3 < j → spec_FrmOk.f j x.f0 x.f1 x.f2 = some true := fun j x n hx hn hj => by
  rw [spec_Frm_eq _ _ _ _ (by have := hx.len; omega) (by have := hx.len; omega) (by have := hx.len; omega) (by have := hx.len; omega), fm_frmB hx hn]
 obtain ⟨X0, Y0, Z0, e0, h0⟩ := sum_fm _ p c0 20 m (2 * m) (k + 3) (by omega) hO p0 (t_two m c0 b0.1 b0.2) (by omega) (by omega)
 obtain ⟨X1, Y1, Z1, e1, h1⟩ := sum_fm _ q c1 _ m (2 * m) (k + 2) (by omega) h0 p1 (t_two m c1 b1.1 b1.2) (by omega) (by omega)
 obtain ⟨X2, Y2, Z2, e2, h2⟩ := sum_fm _ r c2 _ m (2 * m) (k + 1) (by omega) h1 p2 (t_two m c2 b2.1 b2.2) (by omega) (by omega)
 have w1 : wrap64 (0 + 1) = 1 := by unfold wrap64; omega
 have w2 : wrap64 (1 + 1) = 2 := by unfold wrap64; omega
 have w3 : wrap64 (2 + 1) = 3 := by unfold wrap64; omega
 have l3 : (([p, q, r] : List S34).length : Int) = 3 := rfl
 have lc : (([c0, c1, c2] : List Int).length : Int) = 3 := rfl
 have r0 : rd_T34 [p, q, r] 0 = p := rfl
 have r1 : rd_T34 [p, q, r] 1 = q := rfl
 have r2 : rd_T34 [p, q, r] 2 = r := rfl
 have y0 : rd [c0, c1, c2] 0 = c0 := rfl
 have y1 : rd [c0, c1, c2] 1 = c1 := rfl
 have y2 : rd [c0, c1, c2] 2 = c2 := rfl
 refine ⟨X2, Y2, Z2, ?_, h2.mono (by omega)⟩
 have f0 : spec_FrmOk.f (k + 5) [c0, c1, c2] [d0, d1] K = some true := ok (k + 5) _ 20 hF (by omega) (by omega)
 have f9 : spec_FrmOk.f k X2 Y2 Z2 = some true := ok k ⟨X2, Y2, Z2⟩ _ h2 (by omega) (by omega)
 unfold spec_FrmInto.f
 rw [f0]; simp only [Option.bind_some, l3, r0, r1, r2, ok (k + 5) p m p0 (by omega) (by omega), ok (k + 5) q m p1 (by omega) (by omega), ok (k + 5) r m p2 (by omega) (by omega)]
 simp only [if_true, show ((0 : Int) < 3) from by decide, show ((1 : Int) < 3) from by decide, show ((2 : Int) < 3) from by decide, Bool.not_true]
 simp only [spec_FrmInto.j0, Bool.false_eq_true, if_false, Option.bind_some, List.nil_append]
 rw [if_pos (by simp)]
 simp only [spec_FrmInto.l0, l3, lc, r0, r1, r2, y0, y1, y2, w1, w2, w3]
 rw [if_pos (by decide), if_pos (by decide), if_pos (by decide), if_pos (by decide), e0]; simp only [Option.bind_some]
 rw [if_pos (by decide), if_pos (by decide), if_pos (by decide), if_pos (by decide), e1]; simp only [Option.bind_some]
 rw [if_pos (by decide), if_pos (by decide), if_pos (by decide), if_pos (by decide), e2]; simp only [Option.bind_some]
 rw [if_neg (by decide), f9]
 rfl

theorem minus_eq (x : S34) (m : Int) (k : Nat) (hm : m ≤ 100000000) (hx : fm m x) (hk : 7 ≤ k) : ∃ X Y Z, spec_l3Minus.f k x.f0 x.f1 x.f2 = some (X, Y, Z) ∧ fm (m + 1) ⟨X, Y, Z⟩ := by
 obtain ⟨X, Y, Z, e, h⟩ := sum_fm ⟨[0, 0, 0], [0, 0], 0⟩ x (-1) 0 m m k hk fm_zero hx (t_neg m) (by omega) (by omega)
 unfold spec_l3Minus.f
 rw [spec_Zero_eq]; simp only [Option.bind_some]
 rw [e]; simp only [Option.bind_some]
 obtain ⟨c0, c1, c2, d0, d1, K, e9, h0, h1, h2, h3, h4, h5⟩ := h
 obtain ⟨rfl, rfl, rfl⟩ : X = [c0, c1, c2] ∧ Y = [d0, d1] ∧ Z = K := by injection e9 with a b c; exact ⟨a, b, c⟩
 exact ⟨_, _, _, rfl, c0, c1, c2, d0, d1, _, rfl, by omega, by omega, by omega, by omega, by omega, by rw [wrap_id (by omega) (by omega)]; omega⟩

def bnd : Nat → Int
 | 0 => 1
 | i + 1 => 7 * bnd i + 20
theorem bnd_le : ∀ j : Nat, j ≤ 6 → 1 ≤ bnd j ∧ bnd j ≤ 509809 := by
 intro j hj
 obtain rfl | rfl | rfl | rfl | rfl | rfl | rfl : j = 0 ∨ j = 1 ∨ j = 2 ∨ j = 3 ∨ j = 4 ∨ j = 5 ∨ j = 6 := by omega
 all_goals decide
def wayP (r : S25) : Prop := fms 6 9000001 r.f0 ∧ fms 3 9000001 r.f1 ∧ fms 6 9000001 r.f2
theorem mem_rdA (l : List S100) (i : Int) (h0 : 0 ≤ i) (h1 : i < (l.length : Int)) : rd_T100 l i ∈ l := by
 obtain ⟨n, rfl⟩ := Int.eq_ofNat_of_zero_le h0
 have hn : n < l.length := by omega
 rw [show rd_T100 l (n : Int) = l[n] from getDG z100 l n hn]
 exact List.getElem_mem hn
theorem walk_end (A : List S100) (k : Nat) (at_ : Int) (P G T : List S34) (j : Nat) (h1 : (A.length : Int) ≤ at_) (hk : 60 < k) (hj : j ≤ 6) (hp : fms 3 (bnd j) P) (hp3 : P.length = 3) (hg : fms 6 9000000 G) (ht : fms 6 9000000 T) :
  ∃ R, spec_l3Walk.l0 k A P G T at_ = some R ∧ 0 < R.length ∧ R.length ≤ 1 ∧ ∀ r ∈ R, wayP r := by
 obtain ⟨k, rfl⟩ : ∃ m, k = m + 1 := ⟨k - 1, by omega⟩
 have hb := bnd_le j hj
 obtain ⟨x0, x1, x2, e, g0, g1, g2⟩ := row_eq P G T 6 9000000 k (by omega) (by omega) (hp.mono (by omega) (by omega)) hp3 hg ht (by omega)
 refine ⟨[⟨x0, x1, x2, false⟩], ?_, by simp, by simp, ?_⟩
 ·simp only [spec_l3Walk.l0]
  rw [if_neg (by omega), e]; rfl
 ·intro r hr
  simp only [List.mem_singleton] at hr
  subst hr
  exact ⟨g0.mono (by omega) (by omega), g1.1.mono (by omega) (by omega), g2.mono (by omega) (by omega)⟩
theorem walk_eq (A : List S100) (hA : ∀ x ∈ A, lnB x = true) (hl : A.length ≤ 6) (d : Nat) : ∀ (k : Nat) (at_ : Int) (P G T : List S34) (j : Nat), (A.length : Int) - at_ ≤ (d : Int) → 0 ≤ at_ → at_ ≤ 20 → 3 * d + 100 < k → j + d ≤ 6 → fms 3 (bnd j) P → P.length = 3 → fms j 9000000 G → fms j 9000000 T →
  ∃ R, spec_l3Walk.l0 k A P G T at_ = some R ∧ 0 < R.length ∧ R.length ≤ 2 ^ d ∧ ∀ r ∈ R, wayP r := by
 induction d with
 | zero =>
  intro k at_ P G T j hd h0 h1 hk hj hp hp3 hg ht
  exact walk_end A k at_ P G T j (by omega) (by omega) (by omega) hp hp3 (hg.mono (by omega) (by omega)) (ht.mono (by omega) (by omega))
 | succ d ih =>
  intro k at_ P G T j hd h0 h1 hk hj hp hp3 hg ht
  have one : 1 ≤ 2 ^ (d + 1) := Nat.one_le_two_pow
  have two : 2 ^ (d + 1) = 2 ^ d + 2 ^ d := by rw [Nat.pow_succ]; omega
  by_cases hat : at_ < (A.length : Int)
  ·obtain ⟨k, rfl⟩ : ∃ m, k = m + 2 := ⟨k - 2, by omega⟩
   have hx := hA _ (mem_rdA A at_ h0 hat)
   generalize hX : rd_T100 A at_ = X at hx
   obtain ⟨a, b, c, ⟨C, D, K⟩⟩ := X
   have hb := bnd_le j (by omega)
   have hb2 := bnd_le (j + 1) (by omega)
   have hbe : bnd (j + 1) = 7 * bnd j + 20 := rfl
   have wi : wrap64 (at_ + 1) = at_ + 1 := wrap_id (by omega) (by omega)
   simp only [spec_l3Walk.l0, hX, wi]
   rw [if_pos hat, if_pos h0]
   by_cases h4 : a = 4
   ·obtain ⟨x0, e, g, _⟩ := copy_eq G 6 9000000 (k + 1) (by omega) (by omega) (hg.mono (by omega) (by omega)) (by omega)
    rw [if_pos h4, e]; simp only [Option.bind_some]
    refine ⟨_, rfl, by simp, by simp; omega, fun r hr => ?_⟩
    simp only [List.mem_singleton] at hr
    subst hr
    exact ⟨g.mono (by omega) (by omega), ⟨by simp, by simp⟩, ⟨by simp, by simp⟩⟩
   ·rw [if_neg h4]
    have hs : smallB C D K = true ∧ (a = 1 → 1 ≤ c ∧ c ≤ 6) ∧ (a = 2 → 0 ≤ b ∧ b ≤ 2) := by
     have hx' : lineB a b c C D K = true := hx
     rcases lineB_cases hx' with ⟨e, q, s⟩ | ⟨e, q, s⟩ | ⟨e, s⟩ | e
     ·exact ⟨s, fun _ => q, fun h => absurd h (by omega)⟩
     ·exact ⟨s, fun h => absurd h (by omega), fun _ => q⟩
     ·exact ⟨s, fun h => absurd h (by omega), fun h => absurd h (by omega)⟩
     ·exact absurd e h4
    obtain ⟨hs, hs1, hs2⟩ := hs
    obtain ⟨X, Y, Z, eF, hF⟩ := intoS_eq C D K P (bnd j) (k + 1) (by omega) (by omega) (by omega) hs hp hp3
    have hF' : fm 9000000 (⟨X, Y, Z⟩ : S34) := hF.mono (by omega)
    rw [eF]; simp only [Option.bind_some]
    by_cases h1' : a = 1
    ·have hc := hs1 h1'
     obtain ⟨P1, eP, gP, nP⟩ := copy_eq P 3 (bnd j) (k + 1) (by omega) (by omega) hp (by omega)
     obtain ⟨G1, eG, gG, nG⟩ := copy_eq G j 9000000 (k + 1) (by omega) (by omega) hg (by omega)
     obtain ⟨T1, eT, gT, nT⟩ := copy_eq T j 9000000 (k + 1) (by omega) (by omega) ht (by omega)
     have hj2 : bnd j ≤ bnd (j + 1) := by omega
     have hlG := gG.1
     obtain ⟨X', Y', Z', eM, hM⟩ := minus_eq ⟨X, Y, Z⟩ (20 + 6 * bnd j) (k + 1) (by omega) hF (by omega)
     obtain ⟨R1, eR1, p1, q1, w1⟩ := ih k (at_ + 1) P1 (G1 ++ [⟨X, Y, Z⟩]) T1 (j + 1) (by omega) (by omega) (by omega) (by omega) (by omega) (gP.mono (by omega) hj2) (by omega) (gG.push hF') (gT.mono (by omega) (by omega))
     obtain ⟨R2, eR2, p2, q2, w2⟩ := ih k (at_ + 1 + c) P1 (G1 ++ [⟨X', Y', Z'⟩]) T1 (j + 1) (by omega) (by omega) (by omega) (by omega) (by omega) (gP.mono (by omega) hj2) (by omega) (gG.push (hM.mono (by omega))) (gT.mono (by omega) (by omega))
     have h64 : 2 ^ d ≤ 64 := Nat.le_trans (Nat.pow_le_pow_right (by omega) (by omega : d ≤ 6)) (by decide)
     rw [if_pos h1', eP, eG, eT]; simp only [Option.bind_some, spec_l3Walk.f]
     rw [if_pos (by simp; omega), eR1]; simp only [Option.bind_some]
     rw [eM]; simp only [Option.bind_some]
     rw [if_pos (by simp; omega), wrap_id (x := at_ + 1 + c) (by omega) (by omega), eR2]; simp only [Option.bind_some]
     rw [if_pos (by omega)]
     refine ⟨R1 ++ R2, rfl, by rw [List.length_append]; omega, by rw [List.length_append]; omega, fun r hr => ?_⟩
     rcases List.mem_append.mp hr with hr | hr
     ·exact w1 r hr
     ·exact w2 r hr
    ·rw [if_neg h1']
     have le2 : 2 ^ d ≤ 2 ^ (d + 1) := by omega
     by_cases h2' : a = 2
     ·have hc := hs2 h2'
      obtain ⟨P1, eP, gP, nP⟩ := copy_eq P 3 (bnd j) (k + 1) (by omega) (by omega) hp (by omega)
      obtain ⟨X', Y', Z', eS, hS⟩ := sum_fm (rd_T34 P1 b) ⟨X, Y, Z⟩ 1 (bnd j) (20 + 6 * bnd j) (20 + 6 * bnd j) (k + 1) (by omega) (gP.2 _ (mem_rdF P1 b hc.1 (by omega))) hF (t_one _) (by omega) (by omega)
      rw [if_pos h2', eP]; simp only [Option.bind_some]
      rw [if_pos hc.1, if_pos (by omega), eS]; simp only [Option.bind_some]
      have hpp : fms 3 (bnd (j + 1)) (P1.set b.toNat ⟨X', Y', Z'⟩) := ⟨by rw [List.length_set]; omega, fun y hy => by
       rcases List.mem_or_eq_of_mem_set hy with hy | rfl
       ·exact (gP.2 y hy).mono (by omega)
       ·exact hS.mono (by omega)⟩
      obtain ⟨R, eR, p, q, w⟩ := ih (k + 1) (at_ + 1) (P1.set b.toNat ⟨X', Y', Z'⟩) G T (j + 1) (by omega) (by omega) (by omega) (by omega) (by omega) hpp (by rw [List.length_set]; omega) (hg.mono (by omega) (by omega)) (ht.mono (by omega) (by omega))
      exact ⟨R, eR, p, by omega, w⟩
     ·obtain ⟨T1, eT, gT, nT⟩ := copy_eq T j 9000000 (k + 1) (by omega) (by omega) ht (by omega)
      have hlT := gT.1
      rw [if_neg h2', eT]; simp only [Option.bind_some]
      rw [if_pos (by simp; omega)]
      obtain ⟨R, eR, p, q, w⟩ := ih (k + 1) (at_ + 1) P G (T1 ++ [⟨X, Y, Z⟩]) (j + 1) (by omega) (by omega) (by omega) (by omega) (by omega) (hp.mono (by omega) (by omega)) hp3 (hg.mono (by omega) (by omega)) (gT.push hF')
      exact ⟨R, eR, p, by omega, w⟩
  ·obtain ⟨R, e, p, q, w⟩ := walk_end A k at_ P G T j (by omega) (by omega) (by omega) hp hp3 (hg.mono (by omega) (by omega)) (ht.mono (by omega) (by omega))
   exact ⟨R, e, p, by omega, w⟩

theorem rowsOf_eq (A : List S100) (k : Nat) (hk : 2097154 < k) (hl : (A.length : Int) ≤ 1048576) (hw : ∀ x ∈ A, (x.f3.f0.length : Int) ≤ 1048576 ∧ (x.f3.f1.length : Int) ≤ 1048576) :
  ∃ R, spec_RowsOf.f k A = some R ∧ (actB A = true → 0 < R.length) ∧ R.length ≤ 64 ∧ ∀ r ∈ R, wayP r := by
 unfold spec_RowsOf.f
 rw [spec_Act_eq A k hk hl hw]; simp only [Option.bind_some]
 cases hA : actB A with
 | false => exact ⟨[], rfl, fun h => absurd h (by decide), by simp, by simp⟩
 | true =>
  rw [if_pos rfl, spec_Pot_eq, spec_Pot_eq, spec_Pot_eq]; simp only [Option.bind_some]
  obtain ⟨h6, hall⟩ := actG_all A 0 _ hA
  have g0 : fm 1 (⟨[1, 0, 0], [0, 0], 0⟩ : S34) := ⟨1, 0, 0, 0, 0, 0, rfl, by omega, by omega, by omega, by omega, by omega, by omega⟩
  have g1 : fm 1 (⟨[0, 1, 0], [0, 0], 0⟩ : S34) := ⟨0, 1, 0, 0, 0, 0, rfl, by omega, by omega, by omega, by omega, by omega, by omega⟩
  have g2 : fm 1 (⟨[0, 0, 1], [0, 0], 0⟩ : S34) := ⟨0, 0, 1, 0, 0, 0, rfl, by omega, by omega, by omega, by omega, by omega, by omega⟩
  obtain ⟨k, rfl⟩ : ∃ m, k = m + 1 := ⟨k - 1, by omega⟩
  obtain ⟨R, e, p, q, w⟩ := walk_eq A hall (by omega) 6 k 0 [⟨[1, 0, 0], [0, 0], 0⟩, ⟨[0, 1, 0], [0, 0], 0⟩, ⟨[0, 0, 1], [0, 0], 0⟩] [] [] 0 (by omega) (by omega) (by omega) (by omega) (by omega) ⟨by simp, fun x hx => by
   simp only [List.mem_cons, List.not_mem_nil, or_false] at hx
   rcases hx with rfl | rfl | rfl
   ·exact g0
   ·exact g1
   ·exact g2⟩ rfl ⟨by simp, by simp⟩ ⟨by simp, by simp⟩
  refine ⟨R, ?_, fun _ => p, q, w⟩
  show (spec_l3Walk.f (k + 1) A 0 [⟨[1, 0, 0], [0, 0], 0⟩, ⟨[0, 1, 0], [0, 0], 0⟩, ⟨[0, 0, 1], [0, 0], 0⟩] [] []).bind _ = _
  simp only [spec_l3Walk.f]
  rw [e]; rfl

theorem with_at (C D : List Int) (K v n : Int) (h0 : 0 ≤ v) (h1 : v < (C.length : Int)) : spec_l20With.f C D K v n = some (C.set v.toNat n, D, K) := by
 unfold spec_l20With.f
 rw [if_pos h0, if_pos h1]
theorem act_loopB (L : List Int) (hL : ∀ x ∈ L, (Lit.int .u8 x).wf = true) (hl : L.length ≤ 2000) (d : Nat) : ∀ (k : Nat) (acc : List S100) (s : Int), d ≤ 5 → d + 2097300 < k → smA acc (6 - d) → actB acc = true → 0 ≤ s → s ≤ 1000 + 20 * (6 - (d : Int)) →
  ∃ l s', spec_l20Act.l0 k acc (d : Int) L s = some (l, s') ∧ s ≤ s' ∧ s' ≤ s + 20 * (d : Int) ∧ smA l 6 ∧ actB l = true := by
 induction d with
 | zero =>
  intro k acc s hd hk ha hb h0 h1
  obtain ⟨k, rfl⟩ : ∃ m, k = m + 1 := ⟨k - 1, by omega⟩
  refine ⟨acc, s, ?_, by omega, by omega, ha, hb⟩
  simp only [spec_l20Act.l0]
  rw [if_neg (by omega)]
 | succ d ih =>
  intro k acc s hd hk ha hb h0 h1
  obtain ⟨k, rfl⟩ : ∃ m, k = m + 1 := ⟨k - 1, by omega⟩
  obtain ⟨a, b, c, C, D, K, s1, e1, a1, b1, hC, hD⟩ := line_eq L hL hl s k (by omega) h0 (by omega)
  have hn := ha.1
  have hw : wrap64 (((d + 1 : Nat) : Int) - 1) = (d : Int) := by rw [wrap_id (by omega) (by omega)]; omega
  have hx : (⟨a, b, c, ⟨C, D, K⟩⟩ : S100).f3.f0.length ≤ 4 ∧ (⟨a, b, c, ⟨C, D, K⟩⟩ : S100).f3.f1.length ≤ 4 := ⟨hC, hD⟩
  have hp : smA (acc ++ [⟨a, b, c, ⟨C, D, K⟩⟩]) (6 - d) := (ha.push _ hx).mono (by omega)
  simp only [spec_l20Act.l0]
  rw [if_pos (by omega), e1]; simp only [Option.bind_some]
  rw [if_pos (by simp; omega)]; simp only [List.nil_append]
  rw [if_pos (by simp; omega), spec_Act_eq _ k (by omega) (by have := hp.1; omega) hp.sz]; simp only [Option.bind_some]
  cases hq : actB (acc ++ [⟨a, b, c, ⟨C, D, K⟩⟩]) with
  | true =>
   simp only [if_true]
   rw [if_pos (by simp; omega), hw]
   obtain ⟨l, s2, e2, a2, b2, hr⟩ := ih k (acc ++ [⟨a, b, c, ⟨C, D, K⟩⟩]) s1 (by omega) (by omega) hp hq (by omega) (by omega)
   exact ⟨l, s2, e2, by omega, by omega, hr⟩
  | false =>
   simp only [Bool.false_eq_true, if_false]
   rw [hw]
   obtain ⟨l, s2, e2, a2, b2, hr⟩ := ih k acc s1 (by omega) (by omega) (ha.mono (by omega)) hb (by omega) (by omega)
   exact ⟨l, s2, e2, by omega, by omega, hr⟩
theorem act_ok (L : List Int) (hL : ∀ x ∈ L, (Lit.int .u8 x).wf = true) (hl : L.length ≤ 2000) (s : Int) (k : Nat) (hk : 2097400 < k) (h0 : 0 ≤ s) (h1 : s ≤ 900) :
  ∃ l s', spec_l20Act.f k L s = some (l, s') ∧ s ≤ s' ∧ s' ≤ s + 110 ∧ smA l 6 ∧ actB l = true := by
 have m2 : wrap64 (-2) = -2 := wrap_id (by decide) (by decide)
 have w1 : wrap64 (0 + 1) = 1 := by unfold wrap64; omega
 have w2 : wrap64 (1 + 1) = 2 := by unfold wrap64; omega
 have w3 : wrap64 (1 - 0) = 1 := by unfold wrap64; omega
 have w4 : wrap64 (1 - 1) = 0 := by unfold wrap64; omega
 have w5 : wrap64 1 = 1 := wrap_id (by decide) (by decide)
 have w6 : wrap64 2 = 2 := wrap_id (by decide) (by decide)
 have w7 : wrap64 0 = 0 := wrap_id (by decide) (by decide)
 unfold spec_l20Act.f
 obtain ⟨v, e1, v0, v1⟩ := pick_eq L hL hl s 2 k (by omega) h0 (by omega) (by omega)
 rw [e1]; simp only [Option.bind_some]
 obtain ⟨u, e2, u0, u1⟩ := pick_eq L hL hl (s + 1) 8 k (by omega) (by omega) (by omega) (by omega)
 rw [e2]; simp only [Option.bind_some]
 obtain ⟨k, rfl⟩ : ∃ m, k = m + 1 := ⟨k - 1, by omega⟩
 have z3 : (([0, 0, 0] : List Int).length : Int) = 3 := rfl
 have j0 : ∀ b : Bool, ∃ l s', spec_l20Act.j0 (k + 1) v u b L (s + 1 + 1) = some (l, s') ∧ s ≤ s' ∧ s' ≤ s + 110 ∧ smA l 6 ∧ actB l = true := by
  intro b
  have ev : v = 0 ∨ v = 1 := by omega
  simp only [spec_l20Act.j0, num_eq, Option.bind_some]
  cases b with
  | true =>
   rw [if_pos rfl, with_at [0, 0, 0] [-1, 0] 0 v 1 v0 (by omega)]; simp only [Option.bind_some]
   refine ⟨_, _, rfl, by omega, by omega, ⟨by simp, fun x hx => by
    simp only [List.mem_cons, List.not_mem_nil, or_false] at hx
    rcases hx with rfl | rfl | rfl | rfl | rfl <;> simp⟩, ?_⟩
   rcases ev with rfl | rfl <;> simp [actB, actG, lnB, lineB, smallB, okB, ibB, m2, w1, w2, w5, w6]
  | false =>
   rw [if_neg (by decide)]
   by_cases h2 : u = 2
   ·rw [if_pos h2]
    refine ⟨_, _, rfl, by omega, by omega, ⟨by simp, fun x hx => by
     simp only [List.mem_cons, List.not_mem_nil, or_false] at hx
     subst hx; simp⟩, ?_⟩
    rcases ev with rfl | rfl <;> simp [actB, actG, lnB, lineB, smallB, okB, ibB, m2, w1, w2, w5, w6]
   rw [if_neg h2]
   by_cases h3 : u = 3
   ·rw [if_pos h3, with_at [0, 0, 0] [-1, 0] 0 v 1 v0 (by omega)]; simp only [Option.bind_some]
    refine ⟨_, _, rfl, by omega, by omega, ⟨by simp, fun x hx => by
     simp only [List.mem_cons, List.not_mem_nil, or_false] at hx
     rcases hx with rfl | rfl | rfl <;> simp⟩, ?_⟩
    rcases ev with rfl | rfl <;> simp [actB, actG, lnB, lineB, smallB, okB, ibB, m2, w1, w2, w3, w4, w5, w6, w7]
   rw [if_neg h3]
   by_cases h4 : u = 4
   ·rw [if_pos h4, with_at [0, 0, 0] [0, 0] 0 2 1 (by omega) (by omega)]; simp only [Option.bind_some]
    refine ⟨_, _, rfl, by omega, by omega, ⟨by simp, fun x hx => by
     simp only [List.mem_cons, List.not_mem_nil, or_false] at hx
     subst hx; simp⟩, ?_⟩
    simp [actB, actG, lnB, lineB, smallB, okB, ibB, m2, w1, w2, w5, w6]
   rw [if_neg h4]
   by_cases h5 : u = 5
   ·rw [if_pos h5, with_at [0, 0, 0] [0, 1] 5 0 1 (by omega) (by omega)]; simp only [Option.bind_some]
    rw [with_at _ [0, 1] 5 1 (-1) (by omega) (by simp)]; simp only [Option.bind_some]
    refine ⟨_, _, rfl, by omega, by omega, ⟨by simp, fun x hx => by
     simp only [List.mem_cons, List.not_mem_nil, or_false] at hx
     rcases hx with rfl | rfl <;> simp⟩, ?_⟩
    simp [actB, actG, lnB, lineB, smallB, okB, ibB, m2, w1, w2, w5, w6]
   rw [if_neg h5]
   obtain ⟨q, e3, q0, q1⟩ := pick_eq L hL hl (s + 1 + 1) 5 k (by omega) (by omega) (by omega) (by omega)
   rw [e3]; simp only [Option.bind_some]
   obtain ⟨l, s2, e4, a4, b4, hq⟩ := act_loopB L hL hl (q.toNat + 1) k [] (s + 1 + 1 + 1) (by omega) (by omega) ⟨by simp, by simp⟩ (by simp [actB, actG]) (by omega) (by omega)
   rw [show wrap64 (1 + q) = ((q.toNat + 1 : Nat) : Int) from by rw [wrap_id (by omega) (by omega)]; omega, e4]
   exact ⟨l, s2, rfl, by omega, by omega, hq⟩
 by_cases hu : u = 0
 ·rw [if_pos hu]; exact j0 _
 ·rw [if_neg hu]; exact j0 _

theorem fms_sz {n : Nat} {m : Int} {l : List S34} (h : fms n m l) (hn : n ≤ 100) : szdI l ∧ l.length ≤ 100 :=
 ⟨⟨by have := h.1; omega, fun x hx => by have := (h.2 x hx).len; omega⟩, by have := h.1; omega⟩
theorem sz_push {l : List S34} (h : szdI l ∧ l.length ≤ 100) (x : S34) (hx : x.f0.length ≤ 3 ∧ x.f1.length ≤ 3) : szdI (l ++ [x]) ∧ (l ++ [x]).length ≤ 101 :=
 ⟨⟨by rw [List.length_append]; have := h.2; simp; omega, fun y hy => by
  rcases List.mem_append.mp hy with hy | hy
  ·exact h.1.2 y hy
  ·simp only [List.mem_singleton] at hy; subst hy; omega⟩, by rw [List.length_append]; have := h.2; simp; omega⟩
theorem row_draw (L : List Int) (hL : ∀ x ∈ L, (Lit.int .u8 x).wf = true) (hl : L.length ≤ 2000) (s n : Int) (k : Nat) (hk : 2097500 < k) (h0 : 0 ≤ s) (h1 : s ≤ 800) (hn : 1 ≤ n) :
  ∃ g a t b s', spec_l20Row.f k L s n = some (g, a, t, b, s') ∧ s ≤ s' ∧ s' ≤ s + 300 ∧ (szdI g ∧ g.length ≤ 101) ∧ (szdI a ∧ a.length ≤ 101) ∧ (szdI t ∧ t.length ≤ 101) := by
 unfold spec_l20Row.f
 obtain ⟨A, s1, e1, p1, q1, hA, hB⟩ := act_ok L hL hl s k (by omega) h0 (by omega)
 rw [e1]; simp only [Option.bind_some]
 obtain ⟨R, e2, r0, r1, hw⟩ := rowsOf_eq A k (by omega) (by have := hA.1; omega) hA.sz
 rw [e2]; simp only [Option.bind_some]
 have hr := r0 hB
 obtain ⟨v, e3, a3, b3⟩ := pick_eq L hL hl s1 (R.length : Int) k (by omega) (by omega) (by omega) (by omega)
 rw [e3]; simp only [Option.bind_some, spec_l20Pick.f]
 rw [if_pos a3, if_pos b3]; simp only [Option.bind_some]
 have hm : rd_T25 R v ∈ R := by
  obtain ⟨i, rfl⟩ := Int.eq_ofNat_of_zero_le a3
  have hi : i < R.length := by omega
  rw [show rd_T25 R (i : Int) = R[i] from getDG z25 R i hi]
  exact List.getElem_mem hi
 obtain ⟨w0, w1, w2⟩ := hw _ hm
 generalize rd_T25 R v = x at w0 w1 w2 ⊢
 have g0 := fms_sz w0 (by omega)
 have g1 := fms_sz w1 (by omega)
 have g2 := fms_sz w2 (by omega)
 have up : ∀ {l : List S34}, szdI l ∧ l.length ≤ 100 → szdI l ∧ l.length ≤ 101 := fun h => ⟨h.1, by have := h.2; omega⟩
 obtain ⟨u, e4, a4, b4⟩ := pick_eq L hL hl (s1 + 1) n k (by omega) (by omega) (by omega) hn
 rw [e4]; simp only [Option.bind_some]
 by_cases c1 : u > 0
 ·rw [if_pos c1]
  exact ⟨_, _, _, _, _, rfl, by omega, by omega, up g0, up g1, up g2⟩
 rw [if_neg c1]
 obtain ⟨y, e5, a5, b5⟩ := pick_eq L hL hl (s1 + 1 + 1) 4 k (by omega) (by omega) (by omega) (by omega)
 rw [e5]; simp only [Option.bind_some]
 by_cases c2 : y = 0
 ·rw [if_pos c2]
  exact ⟨_, _, _, _, _, rfl, by omega, by omega, up g0, up g1, up g2⟩
 rw [if_neg c2]
 obtain ⟨C, D, K, s2, e6, p6, q6, hF⟩ := form_eq L hL hl (s1 + 1 + 1 + 1) 2 k (by omega) (by omega) (by omega) (by omega)
 have hx : (⟨C, D, K⟩ : S34).f0.length ≤ 3 ∧ (⟨C, D, K⟩ : S34).f1.length ≤ 3 := ⟨hF.1.1, hF.2.1.1⟩
 have l0 := g0.2
 have l1 := g1.2
 have l2 := g2.2
 by_cases c3 : y = 1
 ·rw [if_pos c3, e6]; simp only [Option.bind_some]
  rw [if_pos (by omega)]
  exact ⟨_, _, _, _, _, rfl, by omega, by omega, up g0, sz_push g1 _ hx, up g2⟩
 rw [if_neg c3]
 by_cases c4 : y = 2
 ·rw [if_pos c4, e6]; simp only [Option.bind_some]
  rw [if_pos (by omega)]
  exact ⟨_, _, _, _, _, rfl, by omega, by omega, sz_push g0 _ hx, up g1, up g2⟩
 ·rw [if_neg c4, e6]; simp only [Option.bind_some]
  rw [if_pos (by omega)]
  exact ⟨_, _, _, _, _, rfl, by omega, by omega, up g0, up g1, sz_push g2 _ hx⟩

theorem drawFits_eq (L : List Int) (hL : ∀ x ∈ L, (Lit.int .u8 x).wf = true) (k : Nat) (hk : 2097500 < k) :
  ∃ g a t b V R, spec_DrawRowFits.f k L = some (g, a, t, b, V, R) ∧ (szdI g ∧ g.length ≤ 101) ∧ (szdI a ∧ a.length ≤ 101) ∧ (szdI t ∧ t.length ≤ 101) ∧ V.length ≤ 4 ∧ R.length ≤ 4 := by
 unfold spec_DrawRowFits.f
 obtain ⟨M, e0, hM, hl⟩ := open_eq L hL
 rw [e0]; simp only [Option.bind_some]
 obtain ⟨g, a, t, b, s1, e1, p1, q1, hg, ha, ht⟩ := row_draw M hM hl 0 12 k (by omega) (by omega) (by omega) (by omega)
 rw [e1]; simp only [Option.bind_some]
 obtain ⟨V, s2, e2, p2, q2, hV⟩ := vals_eq M hM hl s1 16 k (by omega) (by omega) (by omega) (by omega)
 rw [e2]; simp only [Option.bind_some]
 obtain ⟨R, s3, e3, p3, q3, hR⟩ := args_eq M hM hl s2 16 k (by omega) (by omega) (by omega) (by omega)
 rw [e3]
 exact ⟨_, _, _, _, _, _, rfl, hg, ha, ht, hV.1, Nat.le_trans hR.1 (by omega)⟩

theorem drawDo_eq (L : List Int) (hL : ∀ x ∈ L, (Lit.int .u8 x).wf = true) (k : Nat) (hk : 2097500 < k) :
  ∃ g a t b V R, spec_DrawRowDo.f k L = some (g, a, t, b, V, R) ∧ (szdI g ∧ g.length ≤ 101) ∧ (szdI a ∧ a.length ≤ 101) ∧ (szdI t ∧ t.length ≤ 101) ∧ V.length ≤ 4 ∧ R.length ≤ 4 := by
 obtain ⟨g, a, t, b, V, R, e, h⟩ := drawFits_eq L hL k hk
 refine ⟨g, a, t, b, V, R, ?_, h⟩
 unfold spec_DrawRowDo.f
 rw [e]; rfl

theorem frmAt_w (x : S34) (V R : List Int) (k : Nat) (hk : 4 ≤ k) (hx : frmB x.f0 x.f1 x.f2 = true) (hV : okB V 3 10000 = true) (hR : okB R 2 9 = true) : impl_FrmAt.f k x.f0 x.f1 x.f2 V R = some (atW x V R, true) :=
 impl_FrmAt_yes x.f0 x.f1 x.f2 V R k _ hx hV hR (atW_impl x V R k hk hx hV hR)
theorem law_l1 (g a t : List S34) (s : Bool) (V R X : List Int) (ht : allF t = true) (hl : t.length ≤ 1000) (hV : okB V 3 10000 = true) (hR : okB R 2 9 = true) (hX : okB X 3 10000 = true) (c : Int) (d : Nat) : ∀ (k i : Nat), i + d = t.length → d + 10 < k →
  laws_FnRowDo.l1 k V R X (i : Int) g a t s c (t.map fun x => atW x V R) = some true := by
 induction d with
 | zero =>
  intro k i hi hk
  obtain ⟨k, rfl⟩ : ∃ m, k = m + 1 := ⟨k - 1, by omega⟩
  rw [laws_FnRowDo.l1]
  rw [if_neg (by omega), if_pos (by rw [List.length_map]), impl_Val_eq, hX]
  rfl
 | succ d ih =>
  intro k i hi hk
  obtain ⟨k, rfl⟩ : ∃ m, k = m + 1 := ⟨k - 1, by omega⟩
  have hlt : i < t.length := by omega
  have hf := allF_mem ht _ (List.getElem_mem hlt)
  rw [laws_FnRowDo.l1]
  rw [if_pos (by omega), if_pos (by omega), show rd_T34 t (i : Int) = t[i] from getDG z34 t i hlt, frmAt_w t[i] V R k (by omega) hf hV hR]; simp only [Option.bind_some]
  rw [if_pos (by rw [List.length_map]; omega), if_pos (by rw [getD_at _ i (by rw [List.length_map]; exact hlt), List.getElem_map]), show wrap64 ((i : Int) + 1) = ((i + 1 : Nat) : Int) from by rw [wrap_id (by omega) (by omega)]; omega]
  exact ih k (i + 1) (by omega) (by omega)
theorem law_l0 (g t : List S34) (p q r : S34) (s : Bool) (v0 v1 v2 : Int) (R : List Int) (hp : frmB p.f0 p.f1 p.f2 = true) (hq : frmB q.f0 q.f1 q.f2 = true) (hr : frmB r.f0 r.f1 r.f2 = true) (ht : allF t = true) (hl : t.length ≤ 1000) (hV : okB [v0, v1, v2] 3 10000 = true) (hR : okB R 2 9 = true)
  (hX : okB [wrap64 (v0 + atW p [v0, v1, v2] R), wrap64 (v1 + atW q [v0, v1, v2] R), wrap64 (v2 + atW r [v0, v1, v2] R)] 3 10000 = true) (c : Int) (k : Nat) (hk : 2000 < k) :
  laws_FnRowDo.l0 k [v0, v1, v2] R [wrap64 (v0 + atW p [v0, v1, v2] R), wrap64 (v1 + atW q [v0, v1, v2] R), wrap64 (v2 + atW r [v0, v1, v2] R)] 0 g [p, q, r] t s c (t.map fun x => atW x [v0, v1, v2] R) = some true := by
 have w1 : wrap64 (0 + 1) = 1 := by unfold wrap64; omega
 have w2 : wrap64 (1 + 1) = 2 := by unfold wrap64; omega
 have w3 : wrap64 (2 + 1) = 3 := by unfold wrap64; omega
 have la : (([p, q, r] : List S34).length : Int) = 3 := rfl
 have lv : (([v0, v1, v2] : List Int).length : Int) = 3 := rfl
 have r0 : rd_T34 [p, q, r] 0 = p := rfl
 have r1 : rd_T34 [p, q, r] 1 = q := rfl
 have r2 : rd_T34 [p, q, r] 2 = r := rfl
 have u0 : rd [v0, v1, v2] 0 = v0 := rfl
 have u1 : rd [v0, v1, v2] 1 = v1 := rfl
 have u2 : rd [v0, v1, v2] 2 = v2 := rfl
 generalize hN : [wrap64 (v0 + atW p [v0, v1, v2] R), wrap64 (v1 + atW q [v0, v1, v2] R), wrap64 (v2 + atW r [v0, v1, v2] R)] = X at hX
 have lx : (X.length : Int) = 3 := by rw [← hN]; rfl
 have x0 : rd X 0 = wrap64 (v0 + atW p [v0, v1, v2] R) := by rw [← hN]; rfl
 have x1 : rd X 1 = wrap64 (v1 + atW q [v0, v1, v2] R) := by rw [← hN]; rfl
 have x2 : rd X 2 = wrap64 (v2 + atW r [v0, v1, v2] R) := by rw [← hN]; rfl
 clear hN
 generalize hA : ([p, q, r] : List S34) = A at la r0 r1 r2 ⊢
 clear hA
 obtain ⟨k, rfl⟩ : ∃ m, k = m + 1 := ⟨k - 1, by omega⟩
 rw [laws_FnRowDo.l0]
 rw [if_pos (by decide), if_pos (by decide), la, if_pos (by decide), r0, frmAt_w p _ R k (by omega) hp hV hR]; simp only [Option.bind_some]
 rw [lx, lv, if_pos (by decide), if_pos (by decide), x0, u0, if_pos rfl, w1]
 obtain ⟨k, rfl⟩ : ∃ m, k = m + 1 := ⟨k - 1, by omega⟩
 rw [laws_FnRowDo.l0]
 rw [if_pos (by decide), if_pos (by decide), la, if_pos (by decide), r1, frmAt_w q _ R k (by omega) hq hV hR]; simp only [Option.bind_some]
 rw [lx, lv, if_pos (by decide), if_pos (by decide), x1, u1, if_pos rfl, w2]
 obtain ⟨k, rfl⟩ : ∃ m, k = m + 1 := ⟨k - 1, by omega⟩
 rw [laws_FnRowDo.l0]
 rw [if_pos (by decide), if_pos (by decide), la, if_pos (by decide), r2, frmAt_w r _ R k (by omega) hr hV hR]; simp only [Option.bind_some]
 rw [lx, lv, if_pos (by decide), if_pos (by decide), x2, u2, if_pos rfl, w3]
 obtain ⟨k, rfl⟩ : ∃ m, k = m + 1 := ⟨k - 1, by omega⟩
 rw [laws_FnRowDo.l0]
 rw [if_neg (by decide)]
 exact law_l1 g A t s [v0, v1, v2] R X ht hl hV hR hX c t.length k 0 (by omega) (by omega)
theorem FnRowDo : laws_FnRowDo.Pure := by
 intro L hL
 obtain ⟨k, hk⟩ : ∃ k : Nat, 6000000 < k := ⟨6000001, by omega⟩
 refine ⟨k + 1, ?_⟩
 unfold laws_FnRowDo.f
 by_cases h0 : (L.length : Int) > 1048576
 ·rw [if_pos h0]
 rw [if_neg h0]
 obtain ⟨g, a, t, b, V, R, e, hg, ha, ht, hV, hR⟩ := drawDo_eq L hL.2 (k + 1) (by omega)
 have g1 := hg.2
 have a1 := ha.2
 have t1 := ht.2
 obtain ⟨l1, l2⟩ := doV_len g a t b V R (by omega) (by omega)
 rw [e]; simp only [Option.bind_some]
 rw [impl_Do_eq g a t b V R (k + 1) (by omega) hg.1 ha.1 ht.1 (by omega)]; simp only [Option.bind_some]
 rw [spec_Do_eq g a t b V R (k + 1) (by omega) hg.1 ha.1 ht.1 (by omega) (by omega)]; simp only [Option.bind_some]
 unfold laws_coRes.f
 rw [if_pos rfl, co_eq _ _ (k + 1) (by omega) l1]; simp only [Option.bind_some]
 rw [if_pos (by simp), co_eq _ _ (k + 1) (by omega) l2]; simp only [Option.bind_some]
 simp only [decide_true, Bool.not_true]
 rw [laws_FnRowDo.j0]
 rw [if_neg (by decide)]
 unfold doV doEnd
 by_cases hp : preR g a t b V R = true
 ·obtain ⟨f1, f2, f3, f4, f5, f6⟩ := preR_facts hp
  rw [if_pos hp]
  by_cases hb : b = true
  ·rw [if_pos hb, if_neg (show ¬ ((2 : Int) = 1) by decide), if_neg (show ¬ ((2 : Int) = 0) by decide), co_eq V V k (by omega) (by omega), coHolds_eq]
   simp
  ·rw [if_neg hb]
   have hbf : b = false := by simpa using hb
   obtain ⟨p, q, r, rfl⟩ := l3G (by have := f6 hbf; omega : a.length = 3)
   obtain ⟨v0, v1, v2, rfl⟩ := len3 (okB_len f4)
   have ho : doOwn [v0, v1, v2] ([p, q, r].map fun x => atW x [v0, v1, v2] R) = [wrap64 (v0 + atW p [v0, v1, v2] R), wrap64 (v1 + atW q [v0, v1, v2] R), wrap64 (v2 + atW r [v0, v1, v2] R)] := rfl
   rw [ho]
   by_cases hX : okB [wrap64 (v0 + atW p [v0, v1, v2] R), wrap64 (v1 + atW q [v0, v1, v2] R), wrap64 (v2 + atW r [v0, v1, v2] R)] 3 10000 = true
   ·rw [if_pos hX, if_pos rfl]
    exact law_l0 g t p q r b v0 v1 v2 R (allF_mem f2 p (by simp)) (allF_mem f2 q (by simp)) (allF_mem f2 r (by simp)) f3 (by omega) f4 f5 hX 1 k (by omega)
   ·rw [if_neg hX, if_neg (show ¬ ((3 : Int) = 1) by decide), if_neg (show ¬ ((3 : Int) = 0) by decide), co_eq _ _ k (by simp; omega) (by simp), coHolds_eq]
    simp
 ·rw [if_neg hp, if_neg (by decide), if_pos rfl, coHolds_eq]
  rfl

end Go.Proofs.Ytcpaplcnebdocaa.Pure
