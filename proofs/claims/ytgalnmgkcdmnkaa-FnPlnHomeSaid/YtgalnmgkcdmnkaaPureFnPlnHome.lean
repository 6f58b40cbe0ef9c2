/- The plain law FnPlnHome: what the printed functions compute answers as the statement says. -/
import Derived.Test.YtgalnmgkcdmnkaaQFnPlnHomex15
import Derived.OpenShut
set_option linter.unusedVariables false
set_option linter.unusedSimpArgs false
namespace Go.Proofs.Ytgalnmgkcdmnkaa.Pure
open Go.RowKit Go.Proofs.Ytgalnmgkcdmnkaa.QFnPlnHome Go.Proofs.YtgalnmgkcdmnkaaW.PrintWords Go.Proofs.YtgalnmgkcdmnkaaW.PrintLast Go.Proofs.Ytgalnmgkcdmnkaa.HWords

theorem wrap_id {x : Int} (h0 : -9223372036854775808 ≤ x) (h1 : x ≤ 9223372036854775807) : wrap64 x = x := by unfold wrap64; omega
theorem getD_at (l : List Int) (i : Nat) (h : i < l.length) : rd l (i : Int) = l[i] := by
 unfold rd
 rw [show ((i : Int)).toNat = i from by omega, List.getD_eq_getElem?_getD, List.getElem?_eq_getElem h]
 rfl
def ibB (n lo hi : Int) : Bool := decide (lo ≤ n) && decide (n ≤ hi)
def okB (l : List Int) (n m : Int) : Bool := decide ((l.length : Int) = n) && l.all (fun x => ibB x (wrap64 (-m)) m)
theorem ibB_iff {n lo hi : Int} : ibB n lo hi = true ↔ lo ≤ n ∧ n ≤ hi := by unfold ibB; simp
theorem okB_iff {l : List Int} {n m : Int} : okB l n m = true ↔ (l.length : Int) = n ∧ ∀ x ∈ l, wrap64 (-m) ≤ x ∧ x ≤ m := by
 unfold okB ibB; simp

theorem l1In_eq (n lo hi : Int) : spec_l1In.f n lo hi = some (ibB n lo hi) := by
 unfold spec_l1In.f ibB
 by_cases h : n ≥ lo
 ·rw [if_pos h]; simp [h]
 ·rw [if_neg h]; simp [h]

theorem in_eq (n lo hi : Int) : impl_in.f n lo hi = some (ibB n lo hi) := by
 unfold impl_in.f ibB
 by_cases h : n ≥ lo
 ·rw [if_pos h]; simp [h]
 ·rw [if_neg h]; simp [h]

theorem within_eq (l : List Int) (n m : Int) : impl_within.f l n m = some (okB l n m) := by
 unfold impl_within.f okB
 rw [List.all_eq_not_any_not]
 rfl

theorem all_loop (l : List Int) (m : Int) (hl : l.length ≤ 1048576) (d : Nat) : ∀ (k i : Nat), i + d = l.length → d < k → spec_l1All.l0 k l m (i : Int) = some ((l.drop i).all fun x => ibB x (wrap64 (-m)) m) := by
 induction d with
 | zero =>
  intro k i hi hk
  obtain ⟨k, rfl⟩ : ∃ m, k = m + 1 := ⟨k - 1, by omega⟩
  simp only [spec_l1All.l0]
  rw [if_neg (by omega), List.drop_of_length_le (by omega)]
  rfl
 | succ d ih =>
  intro k i hi hk
  obtain ⟨k, rfl⟩ : ∃ m, k = m + 1 := ⟨k - 1, by omega⟩
  have hlt : i < l.length := by omega
  simp only [spec_l1All.l0]
  rw [if_pos (by omega), if_pos (by omega), l1In_eq, getD_at l i hlt, List.drop_eq_getElem_cons hlt, List.all_cons]
  simp only [Option.bind_some, if_true, bne_self_eq_false, Bool.false_eq_true, if_false]
  cases ibB l[i] (wrap64 (-m)) m with
  | false => rfl
  | true =>
   rw [if_pos rfl, wrap_id (by omega) (by omega), show (i : Int) + 1 = ((i + 1 : Nat) : Int) from by omega, ih k (i + 1) (by omega) (by omega)]
   rfl
theorem l1All_eq (l : List Int) (n m : Int) (k : Nat) (hk : l.length < k) (hl : l.length ≤ 1048576) : spec_l1All.f k l n m = some (okB l n m) := by
 unfold spec_l1All.f okB
 by_cases h : (l.length : Int) = n
 ·rw [if_pos h, decide_eq_true h, Bool.true_and]
  have := all_loop l m hl l.length k 0 (by omega) hk
  simpa using this
 ·rw [if_neg h, decide_eq_false h, Bool.false_and]

theorem spec_Val_eq (l : List Int) (k : Nat) (hk : l.length < k) (hl : l.length ≤ 1048576) : spec_ValOk.f k l = some (okB l 3 10000) := by
 unfold spec_ValOk.f
 rw [l1All_eq l _ _ k hk hl]; rfl

def frmB (C D : List Int) (K : Int) : Bool := okB C 3 10000000 && (okB D 2 10000000 && ibB K (-10000000) 10000000)

theorem impl_Frm_eq (C D : List Int) (K : Int) : impl_FrmOk.f C D K = some (frmB C D K) := by
 unfold impl_FrmOk.f frmB
 rw [within_eq]; simp only [Option.bind_some, if_true, bne_self_eq_false, Bool.false_eq_true, if_false]
 cases okB C 3 10000000 with
 | false => rfl
 | true =>
  rw [if_pos rfl, within_eq]; simp only [Option.bind_some, if_true, bne_self_eq_false, Bool.false_eq_true, if_false]
  cases okB D 2 10000000 with
  | false => rfl
  | true => rw [if_pos rfl, in_eq]; rfl

theorem spec_Zero_eq : spec_FrmZero.f = some ([0, 0, 0], [0, 0], 0) := rfl

theorem impl_Zero_eq : impl_FrmZero.f = some ([0, 0, 0], [0, 0], 0) := rfl

theorem inB_ib (n lo hi : Int) : inB n lo hi = ibB n lo hi := rfl

theorem withinB_ok (l : List Int) (n m : Int) : withinB l n m = okB l n m := by
 unfold withinB okB
 rw [List.all_eq_not_any_not]
 rfl

theorem getDG {α : Type} (z : α) (l : List α) (i : Nat) (h : i < l.length) : l.getD ((i : Int)).toNat z = l[i] := by
 rw [show ((i : Int)).toNat = i from by omega, List.getD_eq_getElem?_getD, List.getElem?_eq_getElem h]
 rfl

def trtB (B G : List Int) : Bool := okB B 3 10000 && (ibB (G.length : Int) 1 3 && G.all fun x => ibB x 0 50)

theorem impl_TrtOk_eq (B G : List Int) : impl_TrtOk.f B G = some (trtB B G) := by
 unfold impl_TrtOk.f trtB
 rw [withinB_ok, List.all_eq_not_any_not]
 rfl

theorem trtok_loop (B l : List Int) (hl : l.length ≤ 1048576) (d : Nat) : ∀ (k i : Nat), i + d = l.length → d < k → spec_TrtOk.l0 k (i : Int) B l = some ((l.drop i).all fun x => ibB x 0 50) := by
 induction d with
 | zero =>
  intro k i hi hk
  obtain ⟨k, rfl⟩ : ∃ m, k = m + 1 := ⟨k - 1, by omega⟩
  simp only [spec_TrtOk.l0]
  rw [if_neg (by omega), List.drop_of_length_le (by omega)]
  rfl
 | succ d ih =>
  intro k i hi hk
  obtain ⟨k, rfl⟩ : ∃ m, k = m + 1 := ⟨k - 1, by omega⟩
  have hlt : i < l.length := by omega
  simp only [spec_TrtOk.l0]
  rw [if_pos (by omega), if_pos (by omega), l1In_eq, getD_at l i hlt, List.drop_eq_getElem_cons hlt, List.all_cons]
  simp only [Option.bind_some]
  cases ibB l[i] 0 50 with
  | false => rfl
  | true =>
   rw [if_pos rfl, show wrap64 ((i : Int) + 1) = ((i + 1 : Nat) : Int) from by rw [wrap_id (by omega) (by omega)]; omega, ih k (i + 1) (by omega) (by omega)]
   rfl
theorem spec_TrtOk_eq (B G : List Int) (k : Nat) (hB : B.length < k) (hG : G.length < k) (hB2 : B.length ≤ 1048576) (hG2 : G.length ≤ 1048576) : spec_TrtOk.f (k + 1) B G = some (trtB B G) := by
 unfold spec_TrtOk.f trtB
 rw [spec_Val_eq B (k + 1) (by omega) hB2, l1In_eq]; simp only [Option.bind_some]
 have hl := trtok_loop B G hG2 G.length k 0 (by omega) hG
 rw [List.drop_zero] at hl
 cases okB B 3 10000 with
 | false => rfl
 | true =>
  rw [if_pos rfl]
  cases ibB (G.length : Int) 1 3 with
  | false => rfl
  | true =>
   simp only [spec_TrtOk.j0]
   exact hl

def smallB (C D : List Int) (K : Int) : Bool := okB C 3 2 && (okB D 2 2 && ibB K (-20) 20)
def lineB (a b c : Int) (C D : List Int) (K : Int) : Bool :=
 if a = 1 then decide (b = 0) && (ibB c 1 6 && smallB C D K)
 else if a = 2 then ibB b 0 2 && (decide (c = 0) && smallB C D K)
 else if a = 3 then decide (b = 0) && (decide (c = 0) && smallB C D K)
 else if a = 4 then decide (b = 0) && (decide (c = 0) && (decide (C = []) && (decide (D = []) && decide (K = 0))))
 else false

theorem impl_small_eq (C D : List Int) (K : Int) : impl_FrmForm_small.f C D K = some (smallB C D K) := by
 unfold impl_FrmForm_small.f smallB
 rw [within_eq]; simp only [Option.bind_some, if_true, bne_self_eq_false, Bool.false_eq_true, if_false]
 cases okB C 3 2 with
 | false => rfl
 | true =>
  rw [if_pos rfl, within_eq]; simp only [Option.bind_some, if_true, bne_self_eq_false, Bool.false_eq_true, if_false]
  cases okB D 2 2 with
  | false => rfl
  | true => rw [if_pos rfl, in_eq]; rfl
theorem equal_nil (C : List Int) (k : Nat) : slices_Equal_int_int.f (k + 1) C [] = some (decide (C = [])) := by
 unfold slices_Equal_int_int.f
 cases C with
 | nil => rw [if_pos rfl]; simp [slices_Equal_int_int.l0]
 | cons x xs => rw [if_neg (by simp; omega)]; simp
theorem impl_line_eq (a b c : Int) (C D : List Int) (K : Int) (k : Nat) (hk : 0 < k) : impl_ActLine_ok.f k a b c C D K = some (lineB a b c C D K) := by
 obtain ⟨k, rfl⟩ : ∃ m, k = m + 1 := ⟨k - 1, by omega⟩
 unfold impl_ActLine_ok.f lineB
 simp only [impl_small_eq, in_eq, Option.bind_some]
 by_cases h1 : a = 1
 ·rw [if_pos h1, if_pos h1]
  by_cases hb : b = 0
  ·rw [if_pos hb, decide_eq_true hb, Bool.true_and]; cases ibB c 1 6 <;> rfl
  ·rw [if_neg hb, decide_eq_false hb, Bool.false_and]; cases ibB c 1 6 <;> rfl
 rw [if_neg h1, if_neg h1]
 by_cases h2 : a = 2
 ·rw [if_pos h2, if_pos h2]
  by_cases hb : c = 0
  ·rw [if_pos hb, decide_eq_true hb, Bool.true_and]; cases ibB b 0 2 <;> rfl
  ·rw [if_neg hb, decide_eq_false hb, Bool.false_and]; cases ibB b 0 2 <;> rfl
 rw [if_neg h2, if_neg h2]
 by_cases h3 : a = 3
 ·rw [if_pos h3, if_pos h3]
  by_cases hb : b = 0
  ·rw [if_pos hb, decide_eq_true hb, Bool.true_and]
   by_cases hc : c = 0
   ·rw [if_pos hc, decide_eq_true hc, Bool.true_and]
   ·rw [if_neg hc, decide_eq_false hc, Bool.false_and]
  ·rw [if_neg hb, decide_eq_false hb, Bool.false_and]
 rw [if_neg h3, if_neg h3]
 by_cases h4 : a = 4
 ·rw [if_pos h4, if_pos h4]
  by_cases hb : b = 0
  ·rw [if_pos hb, decide_eq_true hb, Bool.true_and]
   by_cases hc : c = 0
   ·rw [if_pos hc, decide_eq_true hc, Bool.true_and]
    unfold impl_FrmForm_same.f
    rw [equal_nil, equal_nil]
    by_cases hK : K = 0
    ·rw [if_pos hK, decide_eq_true hK]; by_cases hC : C = [] <;> by_cases hD : D = [] <;> simp [hC, hD]
    ·rw [if_neg hK, decide_eq_false hK]; by_cases hC : C = [] <;> by_cases hD : D = [] <;> simp [hC, hD]
   ·rw [if_neg hc, decide_eq_false hc, Bool.false_and]
  ·rw [if_neg hb, decide_eq_false hb, Bool.false_and]
 rw [if_neg h4, if_neg h4]

theorem spec_small_eq (C D : List Int) (K : Int) (k : Nat) (hc : C.length < k) (hd : D.length < k) (hc2 : C.length ≤ 1048576) (hd2 : D.length ≤ 1048576) : spec_l2Small.f k C D K = some (smallB C D K) := by
 unfold spec_l2Small.f smallB
 rw [l1All_eq C _ _ k hc hc2]; simp only [Option.bind_some, if_true, bne_self_eq_false, Bool.false_eq_true, if_false]
 cases okB C 3 2 with
 | false => rfl
 | true =>
  rw [if_pos rfl, l1All_eq D _ _ k hd hd2]; simp only [Option.bind_some, if_true, bne_self_eq_false, Bool.false_eq_true, if_false]
  cases okB D 2 2 with
  | false => rfl
  | true => rw [if_pos rfl, l1In_eq]; rfl
theorem spec_line_eq (a b c : Int) (C D : List Int) (K : Int) (k : Nat) (hc : C.length < k) (hd : D.length < k) (hc2 : C.length ≤ 1048576) (hd2 : D.length ≤ 1048576) : spec_l2Line.f k a b c C D K = some (lineB a b c C D K) := by
 unfold spec_l2Line.f lineB
 simp only [spec_small_eq C D K k hc hd hc2 hd2, l1In_eq, Option.bind_some]
 by_cases h1 : a = 1
 ·rw [if_pos h1, if_pos h1]
  by_cases hb : b = 0
  ·rw [if_pos hb, decide_eq_true hb, Bool.true_and]; cases ibB c 1 6 <;> rfl
  ·rw [if_neg hb, decide_eq_false hb, Bool.false_and]
 rw [if_neg h1, if_neg h1]
 by_cases h2 : a = 2
 ·rw [if_pos h2, if_pos h2]
  by_cases hb : c = 0
  ·rw [if_pos hb, decide_eq_true hb, Bool.true_and]; cases ibB b 0 2 <;> rfl
  ·rw [if_neg hb, decide_eq_false hb, Bool.false_and]; cases ibB b 0 2 <;> rfl
 rw [if_neg h2, if_neg h2]
 by_cases h3 : a = 3
 ·rw [if_pos h3, if_pos h3]
  by_cases hb : b = 0
  ·rw [if_pos hb, decide_eq_true hb, Bool.true_and]
   by_cases hc : c = 0
   ·rw [if_pos hc, decide_eq_true hc, Bool.true_and]
   ·rw [if_neg hc, decide_eq_false hc, Bool.false_and]
  ·rw [if_neg hb, decide_eq_false hb, Bool.false_and]
 rw [if_neg h3, if_neg h3]
 by_cases h4 : a = 4
 ·rw [if_pos h4, if_pos h4]
  by_cases hb : b = 0
  ·rw [if_pos hb, decide_eq_true hb, Bool.true_and]
   by_cases hc : c = 0
   ·rw [if_pos hc, decide_eq_true hc, Bool.true_and, wrap_id (by omega) (by omega)]
    by_cases hC : C = []
    ·by_cases hD : D = []
     ·subst hC; subst hD; rw [if_pos (by rfl)]; by_cases hK : K = 0 <;> simp [hK]
     ·have : 0 < D.length := List.length_pos_iff.mpr hD
      rw [if_neg (by omega)]; simp [hD]
    ·have : 0 < C.length := List.length_pos_iff.mpr hC
     rw [if_neg (by omega)]; simp [hC]
   ·rw [if_neg hc, decide_eq_false hc, Bool.false_and]
  ·rw [if_neg hb, decide_eq_false hb, Bool.false_and]
 rw [if_neg h4, if_neg h4]

def lnB (x : S45) : Bool := lineB x.f0 x.f1 x.f2 x.f3.f0 x.f3.f1 x.f3.f2
def actG : List S45 → Int → Int → Bool
 | [], t, n => decide (n ≤ 6) && decide (t ≤ 3)
 | x :: xs, t, n => lnB x && actG xs (if x.f0 = 1 then wrap64 (t + 1) else t) n
def actB (l : List S45) : Bool := actG l 0 (l.length : Int)

theorem spec_act_loop (l : List S45) (hl : l.length ≤ 1048576) (hw : ∀ x ∈ l, (x.f3.f0.length : Int) ≤ 1048576 ∧ (x.f3.f1.length : Int) ≤ 1048576) (d : Nat) : ∀ (k i : Nat) (t : Int), i + d = l.length → d + 1048577 < k →
  spec_ActOk.l0 k l t (i : Int) = some (actG (l.drop i) t (l.length : Int)) := by
 induction d with
 | zero =>
  intro k i t hi hk
  obtain ⟨k, rfl⟩ : ∃ m, k = m + 1 := ⟨k - 1, by omega⟩
  simp only [spec_ActOk.l0]
  rw [if_neg (by omega), List.drop_of_length_le (by omega)]
  by_cases h : (l.length : Int) ≤ 6
  ·rw [if_pos h]; simp only [actG]; rw [decide_eq_true h, Bool.true_and]
  ·rw [if_neg h]; simp only [actG]; rw [decide_eq_false h, Bool.false_and]
 | succ d ih =>
  intro k i t hi hk
  obtain ⟨k, rfl⟩ : ∃ m, k = m + 1 := ⟨k - 1, by omega⟩
  have hlt : i < l.length := by omega
  have hx := hw _ (List.getElem_mem hlt)
  simp only [spec_ActOk.l0]
  rw [if_pos (by omega), if_pos (by omega), show rd_T45 l (i : Int) = l[i] from getDG z45 l i hlt, spec_line_eq l[i].f0 l[i].f1 l[i].f2 l[i].f3.f0 l[i].f3.f1 l[i].f3.f2 k (by omega) (by omega) (by omega) (by omega), List.drop_eq_getElem_cons hlt]
  simp only [Option.bind_some, actG]
  show _ = some (lineB l[i].f0 l[i].f1 l[i].f2 l[i].f3.f0 l[i].f3.f1 l[i].f3.f2 && _)
  cases lineB l[i].f0 l[i].f1 l[i].f2 l[i].f3.f0 l[i].f3.f1 l[i].f3.f2 with
  | false => rfl
  | true =>
   rw [if_pos rfl, Bool.true_and, show wrap64 ((i : Int) + 1) = ((i + 1 : Nat) : Int) from by rw [wrap_id (by omega) (by omega)]; omega]
   by_cases h1 : l[i].f0 = 1
   ·rw [if_pos h1, if_pos h1]; exact ih k (i + 1) _ (by omega) (by omega)
   ·rw [if_neg h1, if_neg h1]; exact ih k (i + 1) _ (by omega) (by omega)
theorem spec_Act_eq (l : List S45) (k : Nat) (hk : 2097154 < k) (hl : (l.length : Int) ≤ 1048576) (hw : ∀ x ∈ l, (x.f3.f0.length : Int) ≤ 1048576 ∧ (x.f3.f1.length : Int) ≤ 1048576) : spec_ActOk.f k l = some (actB l) := by
 unfold spec_ActOk.f actB
 have := spec_act_loop l (by omega) hw l.length k 0 0 (by omega) (by omega)
 simpa using this

theorem impl_act_loop (l : List S45) (hl : l.length ≤ 1048576) (d : Nat) : ∀ (k i : Nat) (t : Int), i + d = l.length → d + 1 < k →
  impl_ActOk.l0 k l t l (l.length : Int) (i : Int) = some (actG (l.drop i) t (l.length : Int)) := by
 induction d with
 | zero =>
  intro k i t hi hk
  obtain ⟨k, rfl⟩ : ∃ m, k = m + 1 := ⟨k - 1, by omega⟩
  simp only [impl_ActOk.l0]
  rw [if_neg (by omega), List.drop_of_length_le (by omega)]
  by_cases h : (l.length : Int) ≤ 6
  ·rw [if_pos h]; simp only [actG]; rw [decide_eq_true h, Bool.true_and]
  ·rw [if_neg h]; simp only [actG]; rw [decide_eq_false h, Bool.false_and]
 | succ d ih =>
  intro k i t hi hk
  obtain ⟨k, rfl⟩ : ∃ m, k = m + 1 := ⟨k - 1, by omega⟩
  have hlt : i < l.length := by omega
  simp only [impl_ActOk.l0]
  rw [if_pos (by omega), if_pos (by omega), if_pos (by omega), show rd_T45 l (i : Int) = l[i] from getDG z45 l i hlt, impl_line_eq l[i].f0 l[i].f1 l[i].f2 l[i].f3.f0 l[i].f3.f1 l[i].f3.f2 k (by omega), List.drop_eq_getElem_cons hlt]
  simp only [Option.bind_some, actG]
  show _ = some (lineB l[i].f0 l[i].f1 l[i].f2 l[i].f3.f0 l[i].f3.f1 l[i].f3.f2 && _)
  cases lineB l[i].f0 l[i].f1 l[i].f2 l[i].f3.f0 l[i].f3.f1 l[i].f3.f2 with
  | false => rfl
  | true =>
   rw [if_pos rfl, Bool.true_and, show wrap64 ((i : Int) + 1) = ((i + 1 : Nat) : Int) from by rw [wrap_id (by omega) (by omega)]; omega]
   by_cases h1 : l[i].f0 = 1
   ·rw [if_pos h1, if_pos h1]; exact ih k (i + 1) _ (by omega) (by omega)
   ·rw [if_neg h1, if_neg h1]; exact ih k (i + 1) _ (by omega) (by omega)
theorem impl_Act_eq (l : List S45) (k : Nat) (hk : (l.length : Int) + 1 < k) (hl : (l.length : Int) ≤ 1048576) : impl_ActOk.f k l = some (actB l) := by
 unfold impl_ActOk.f actB
 have := impl_act_loop l (by omega) l.length k 0 0 (by omega) (by omega)
 simpa using this

def catB (l : List (List S45)) : Bool := ibB (l.length : Int) 1 4 && l.all actB

theorem actO_eq (x : List S45) (h : (x.length : Int) ≤ 1048576) : actO x = some (actB x) := by
 unfold actO
 exact impl_Act_eq x _ (by omega) h
theorem impl_Cat_eq (l : List (List S45)) (hw : ∀ y ∈ l, (y.length : Int) ≤ 1048576) : impl_CatOk.f l = some (catB l) := by
 unfold impl_CatOk.f catB
 have h1 : l.all (fun x => (actO x).isSome) = true := List.all_eq_true.mpr fun x hx => by rw [actO_eq x (hw x hx)]; rfl
 have h2 : ∀ (m : List (List S45)), (∀ y ∈ m, (y.length : Int) ≤ 1048576) → (!(m.any fun x => !(actO x).getD false)) = m.all actB := by
  intro m
  induction m with
  | nil => intro _; rfl
  | cons x xs ih =>
   intro h
   rw [List.any_cons, List.all_cons, ← ih (fun y hy => h y (List.mem_cons_of_mem _ hy)), actO_eq x (h x (List.mem_cons_self ..))]
   cases actB x <;> simp
 rw [if_pos h1, h2 l hw, inB_ib]

theorem spec_cat_loop (l : List (List S45)) (hl : l.length ≤ 1048576) (hw : ∀ y ∈ l, (y.length : Int) ≤ 1048576 ∧ ∀ x ∈ y, (x.f3.f0.length : Int) ≤ 1048576 ∧ (x.f3.f1.length : Int) ≤ 1048576) (d : Nat) : ∀ (k i : Nat), i + d = l.length → d + 2097155 < k →
  spec_CatOk.l0 k l (i : Int) = some ((l.drop i).all actB) := by
 induction d with
 | zero =>
  intro k i hi hk
  obtain ⟨k, rfl⟩ : ∃ m, k = m + 1 := ⟨k - 1, by omega⟩
  simp only [spec_CatOk.l0]
  rw [if_neg (by omega), List.drop_of_length_le (by omega)]
  rfl
 | succ d ih =>
  intro k i hi hk
  obtain ⟨k, rfl⟩ : ∃ m, k = m + 1 := ⟨k - 1, by omega⟩
  have hlt : i < l.length := by omega
  have hx := hw _ (List.getElem_mem hlt)
  simp only [spec_CatOk.l0]
  rw [if_pos (by omega), if_pos (by omega), show rd_L5 l (i : Int) = l[i] from getDG [] l i hlt, spec_Act_eq l[i] k (by omega) hx.1 hx.2, List.drop_eq_getElem_cons hlt, List.all_cons]
  simp only [Option.bind_some]
  cases actB l[i] with
  | false => rfl
  | true =>
   rw [if_pos rfl, show wrap64 ((i : Int) + 1) = ((i + 1 : Nat) : Int) from by rw [wrap_id (by omega) (by omega)]; omega, ih k (i + 1) (by omega) (by omega)]
   rfl
theorem spec_Cat_eq (l : List (List S45)) (k : Nat) (hk : 3145732 < k) (hl : (l.length : Int) ≤ 1048576) (hw : ∀ y ∈ l, (y.length : Int) ≤ 1048576 ∧ ∀ x ∈ y, (x.f3.f0.length : Int) ≤ 1048576 ∧ (x.f3.f1.length : Int) ≤ 1048576) : spec_CatOk.f k l = some (catB l) := by
 unfold spec_CatOk.f catB
 rw [l1In_eq]; simp only [Option.bind_some]
 cases ibB (l.length : Int) 1 4 with
 | false => rfl
 | true =>
  rw [if_pos rfl, Bool.true_and]
  have := spec_cat_loop l (by omega) hw l.length k 0 (by omega) (by omega)
  simpa using this

def plnB (a : Int) (l : List (List S45)) (G S : List Int) : Bool := ibB a 1 4 && (catB l && (okB S 3 1000 && trtB S G))

theorem impl_Pln_eq (a : Int) (l : List (List S45)) (G S : List Int) (hw : ∀ y ∈ l, (y.length : Int) ≤ 1048576) : impl_PlnOk.f a l G S = some (plnB a l G S) := by
 unfold impl_PlnOk.f plnB
 rw [impl_Cat_eq l hw]; simp only [Option.bind_some, if_true, bne_self_eq_false, Bool.false_eq_true, if_false]
 rw [impl_TrtOk_eq]; simp only [Option.bind_some, if_true, bne_self_eq_false, Bool.false_eq_true, if_false]
 rw [inB_ib, withinB_ok]

theorem spec_Pln_eq (a : Int) (l : List (List S45)) (G S : List Int) (k : Nat) (hk : 3145732 < k) (hl : (l.length : Int) ≤ 1048576) (hG : (G.length : Int) ≤ 1048576) (hS : (S.length : Int) ≤ 1048576) (hw : ∀ y ∈ l, (y.length : Int) ≤ 1048576 ∧ ∀ x ∈ y, (x.f3.f0.length : Int) ≤ 1048576 ∧ (x.f3.f1.length : Int) ≤ 1048576) : spec_PlnOk.f k a l G S = some (plnB a l G S) := by
 obtain ⟨k, rfl⟩ : ∃ m, k = m + 1 := ⟨k - 1, by omega⟩
 unfold spec_PlnOk.f plnB
 rw [l1In_eq]; simp only [Option.bind_some, if_true, bne_self_eq_false, Bool.false_eq_true, if_false]
 cases ibB a 1 4 with
 | false => rfl
 | true =>
  rw [if_pos rfl, spec_Cat_eq l (k + 1) hk hl hw]; simp only [Option.bind_some, if_true, bne_self_eq_false, Bool.false_eq_true, if_false]
  cases catB l with
  | false => rfl
  | true =>
   rw [if_pos rfl, l1All_eq S _ _ (k + 1) (by omega) (by omega)]; simp only [Option.bind_some, if_true, bne_self_eq_false, Bool.false_eq_true, if_false]
   cases okB S 3 1000 with
   | false => rfl
   | true => rw [if_pos rfl, spec_TrtOk_eq S G k (by omega) (by omega) (by omega) (by omega)]; rfl

def homeF (a : Int) (l : List (List S45)) (G S : List Int) (c : Int) : Int := if plnB a l G S = true then (if ibB c 0 (wrap64 (a - 1)) = true then Int.tmod c (G.length : Int) else -1) else -1
theorem plnB_ne {a : Int} {l : List (List S45)} {G S : List Int} (h : plnB a l G S = true) : ¬ ((G.length : Int) = 0) := by
 unfold plnB trtB at h
 simp only [Bool.and_eq_true] at h
 have := ibB_iff.mp h.2.2.2.2.1
 omega
theorem impl_Home_eq (a : Int) (l : List (List S45)) (G S : List Int) (c : Int) (hw : ∀ y ∈ l, (y.length : Int) ≤ 1048576) : impl_PlnHome.f a l G S c = some (homeF a l G S c) := by
 unfold impl_PlnHome.f homeF
 rw [impl_Pln_eq a l G S hw]; simp only [Option.bind_some]
 cases h : plnB a l G S with
 | false => rfl
 | true =>
  rw [if_pos rfl, if_pos rfl]
  unfold impl_PlnPlan_isClient.f
  rw [in_eq]; simp only [Option.bind_some]
  cases ibB c 0 (wrap64 (a - 1)) with
  | false => rfl
  | true => rw [if_pos rfl, if_pos rfl, if_neg (plnB_ne h)]
theorem spec_Home_eq (a : Int) (l : List (List S45)) (G S : List Int) (c : Int) (k : Nat) (hk : 3145732 < k) (hl : (l.length : Int) ≤ 1048576) (hG : (G.length : Int) ≤ 1048576) (hS : (S.length : Int) ≤ 1048576) (hw : ∀ y ∈ l, (y.length : Int) ≤ 1048576 ∧ ∀ x ∈ y, (x.f3.f0.length : Int) ≤ 1048576 ∧ (x.f3.f1.length : Int) ≤ 1048576) : spec_PlnHome.f k a l G S c = some (homeF a l G S c) := by
 unfold spec_PlnHome.f homeF
 rw [spec_Pln_eq a l G S k hk hl hG hS hw]; simp only [Option.bind_some]
 cases h : plnB a l G S with
 | false => rfl
 | true =>
  rw [if_pos rfl, if_pos rfl, l1In_eq]; simp only [Option.bind_some]
  cases ibB c 0 (wrap64 (a - 1)) with
  | false => rfl
  | true => rw [if_pos rfl, if_pos rfl, if_neg (plnB_ne h)]

theorem bd8 {x : Int} (h : (Lit.int .u8 x).wf = true) : 0 ≤ x ∧ x ≤ 255 := bounds_u8 h
theorem rd8 (L : List Int) (hL : ∀ x ∈ L, (Lit.int .u8 x).wf = true) (i : Int) (h0 : 0 ≤ i) (h1 : i < (L.length : Int)) : 0 ≤ rd L i ∧ rd L i ≤ 255 := by
 obtain ⟨n, rfl⟩ := Int.eq_ofNat_of_zero_le h0
 have hn : n < L.length := by omega
 rw [getD_at L n hn]
 exact bd8 (hL _ (List.getElem_mem hn))
theorem xor_nonneg (x y : Int) (h0 : 0 ≤ x) (h1 : x < 4611686018427387904) (h2 : 0 ≤ y) (h3 : y < 4611686018427387904) : 0 ≤ Go.bits .xor .i64 x y := by
 obtain ⟨a, rfl⟩ := Int.eq_ofNat_of_zero_le h0
 obtain ⟨b, rfl⟩ := Int.eq_ofNat_of_zero_le h2
 have ha : a < 2 ^ 62 := by omega
 have hb : b < 2 ^ 62 := by omega
 have hx := Nat.xor_lt_two_pow ha hb
 have ha' : a % 2 ^ IntKind.i64.bits = a := Nat.mod_eq_of_lt (Nat.lt_of_lt_of_le ha (by decide))
 have hb' : b % 2 ^ IntKind.i64.bits = b := Nat.mod_eq_of_lt (Nat.lt_of_lt_of_le hb (by decide))
 simp only [Go.bits, BitVec.ofInt_natCast, BitVec.toNat_xor, BitVec.toNat_ofNat, ha', hb']
 rw [IntKind.wrap_i64]
 omega
theorem pick_eq (L : List Int) (hL : ∀ x ∈ L, (Lit.int .u8 x).wf = true) (hl : L.length ≤ 2000) (s n : Int) (k : Nat) (hk : 1 ≤ k) (h0 : 0 ≤ s) (h1 : s ≤ 1000000) (hn : 1 ≤ n) : ∃ v, spec_l20Rd_pick.f k L s n = some (v, s + 1) ∧ 0 ≤ v ∧ v < n := by
 obtain ⟨k, rfl⟩ : ∃ m, k = m + 1 := ⟨k - 1, by omega⟩
 have e1 : wrap64 (s + 1) = s + 1 := wrap_id (by omega) (by omega)
 have e2 : wrap64 (s + 1 - 1) = s := by rw [wrap_id (by omega) (by omega)]; omega
 unfold spec_l20Rd_pick.f
 rw [if_neg (by omega)]
 simp only [spec_l20Rd_pick.j0, e1, e2]
 by_cases hz : (L.length : Int) = 0
 ·rw [if_pos (beq_iff_eq.mpr hz)]
  exact ⟨0, rfl, by omega, by omega⟩
 rw [if_neg (by rw [beq_eq_false_iff_ne.mpr hz]; decide)]
 have hp : 0 < (L.length : Int) := by omega
 by_cases hs : s < (L.length : Int)
 ·have := rd8 L hL s h0 hs
  rw [if_pos hs, if_pos h0, if_neg (by omega), wrap_id (by omega) (by omega)]
  exact ⟨_, rfl, Int.tmod_nonneg _ this.1, Int.tmod_lt_of_pos _ (by omega)⟩
 ·rw [if_neg hs, if_neg hz]
  have i1 : 0 ≤ Int.tmod s (L.length : Int) := Int.tmod_nonneg _ h0
  have i2 : Int.tmod s (L.length : Int) < (L.length : Int) := Int.tmod_lt_of_pos _ hp
  have e3 : wrap64 (wrap64 (s * 7) + 3) = s * 7 + 3 := by rw [wrap_id (x := s * 7) (by omega) (by omega), wrap_id (by omega) (by omega)]
  rw [e3]
  have j1 : 0 ≤ Int.tmod (s * 7 + 3) (L.length : Int) := Int.tmod_nonneg _ (by omega)
  have j2 : Int.tmod (s * 7 + 3) (L.length : Int) < (L.length : Int) := Int.tmod_lt_of_pos _ hp
  have ra := rd8 L hL _ i1 i2
  have rb := rd8 L hL _ j1 j2
  have q1 : 0 ≤ Int.tdiv s (L.length : Int) := Int.tdiv_nonneg h0 (by omega)
  have q2 : Int.tdiv s (L.length : Int) ≤ s := Int.tdiv_le_self _ h0
  rw [if_pos i1, if_pos i2, if_pos j1, if_pos j2, if_neg (by omega)]
  generalize rd L (Int.tmod s (L.length : Int)) = a at ra ⊢
  generalize rd L (Int.tmod (s * 7 + 3) (L.length : Int)) = b at rb ⊢
  generalize Int.tdiv s (L.length : Int) = q at q1 q2 ⊢
  have ex : wrap64 (wrap64 (wrap64 (wrap64 (wrap64 a * 131) + wrap64 (wrap64 b * 1117)) + wrap64 (s * 29)) + wrap64 (wrap64 q * 53)) = a * 131 + b * 1117 + s * 29 + q * 53 := by
   rw [wrap_id (x := a) (by omega) (by omega), wrap_id (x := b) (by omega) (by omega), wrap_id (x := q) (by omega) (by omega), wrap_id (x := a * 131) (by omega) (by omega), wrap_id (x := b * 1117) (by omega) (by omega), wrap_id (x := s * 29) (by omega) (by omega), wrap_id (x := q * 53) (by omega) (by omega),
    wrap_id (x := a * 131 + b * 1117) (by omega) (by omega), wrap_id (x := a * 131 + b * 1117 + s * 29) (by omega) (by omega), wrap_id (by omega) (by omega)]
  rw [ex]
  generalize hX : a * 131 + b * 1117 + s * 29 + q * 53 = X
  have x1 : 0 ≤ X := by omega
  have x2 : X ≤ 1000000000 := by omega
  have y1 : 0 ≤ Int.tdiv X 64 := Int.tdiv_nonneg x1 (by omega)
  have y2 : Int.tdiv X 64 ≤ X := Int.tdiv_le_self _ x1
  rw [wrap_id (x := Int.tdiv X 64) (by omega) (by omega)]
  exact ⟨_, rfl, Int.tmod_nonneg _ (xor_nonneg _ _ x1 (by omega) y1 (by omega)), Int.tmod_lt_of_pos _ (by omega)⟩

theorem open_eq (L : List Int) (hL : ∀ x ∈ L, (Lit.int .u8 x).wf = true) : ∃ M, spec_l20Open.f L = some (M, 0) ∧ (∀ x ∈ M, (Lit.int .u8 x).wf = true) ∧ M.length ≤ 2000 := by
 unfold spec_l20Open.f
 by_cases h : (L.length : Int) > 2000
 ·rw [if_pos h, if_pos (by omega)]
  exact ⟨_, rfl, fun x hx => hL x (List.mem_of_mem_take hx), by rw [List.length_take]; omega⟩
 ·rw [if_neg h]
  exact ⟨_, rfl, hL, by omega⟩

def smallL (l : List Int) (m : Nat) (b : Int) : Prop := l.length ≤ m ∧ ∀ x ∈ l, -b ≤ x ∧ x ≤ b
theorem rd_mem (l : List Int) (i : Int) (h0 : 0 ≤ i) (h1 : i < (l.length : Int)) : rd l i ∈ l := by
 obtain ⟨n, rfl⟩ := Int.eq_ofNat_of_zero_le h0
 have hn : n < l.length := by omega
 rw [getD_at l n hn]
 exact List.getElem_mem hn
theorem smallL.push {l : List Int} {m : Nat} {b x : Int} (h : smallL l m b) (h0 : -b ≤ x) (h1 : x ≤ b) : smallL (l ++ [x]) (m + 1) b :=
 ⟨by rw [List.length_append]; have := h.1; simp; omega, fun y hy => by rcases List.mem_append.mp hy with hy | hy; exact h.2 y hy; rw [List.mem_singleton.mp hy]; exact ⟨h0, h1⟩⟩
theorem smallL.set {l : List Int} {m : Nat} {b x : Int} {i : Nat} (h : smallL l m b) (h0 : -b ≤ x) (h1 : x ≤ b) : smallL (l.set i x) m b :=
 ⟨by rw [List.length_set]; exact h.1, fun y hy => by rcases List.mem_or_eq_of_mem_set hy with hy | rfl; exact h.2 y hy; exact ⟨h0, h1⟩⟩
theorem smallL.take {l : List Int} {m : Nat} {b : Int} {i : Nat} (h : smallL l m b) : smallL (l.take i) m b :=
 ⟨by rw [List.length_take]; have := h.1; omega, fun y hy => h.2 y (List.mem_of_mem_take hy)⟩
theorem smallL.mono {l : List Int} {m n : Nat} {b c : Int} (h : smallL l m b) (h1 : m ≤ n) (h2 : b ≤ c) : smallL l n c := ⟨Nat.le_trans h.1 h1, fun x hx => by have := h.2 x hx; omega⟩
theorem smallL.rd {l : List Int} {m : Nat} {b : Int} (h : smallL l m b) (i : Int) (h0 : 0 ≤ i) (h1 : i < (l.length : Int)) : -b ≤ rd l i ∧ rd l i ≤ b := h.2 _ (rd_mem l i h0 h1)

theorem small_l1 (L : List Int) (hL : ∀ x ∈ L, (Lit.int .u8 x).wf = true) (hl : L.length ≤ 2000) (C : List Int) (K : Int) (d : Nat) : ∀ (k i : Nat) (D : List Int) (s : Int), i + d = 2 → d + 3 < k → 0 ≤ s → s ≤ 800000 - d → D.length = 2 → smallL D 2 20 →
  ∃ D' K', spec_l20Small.l1 k (i : Int) L s C D K = some (C, D', K', s + d + 1) ∧ D'.length = 2 ∧ smallL D' 2 20 ∧ -20 ≤ K' ∧ K' ≤ 20 := by
 induction d with
 | zero =>
  intro k i D s hi hk h0 h1 hd hs
  obtain ⟨k, rfl⟩ : ∃ m, k = m + 1 := ⟨k - 1, by omega⟩
  simp only [spec_l20Small.l1]
  rw [if_neg (by omega)]; simp only [Option.bind_some, if_true, bne_self_eq_false, Bool.false_eq_true, if_false]
  obtain ⟨v, e, a, b⟩ := pick_eq L hL hl s 8 k (by omega) h0 (by omega) (by omega)
  rw [e]; simp only [Option.bind_some, if_true, bne_self_eq_false, Bool.false_eq_true, if_false]
  have hq : smallL [0, 0, 1, -1, 5, -5, 20, -20] 8 20 := ⟨by simp, by simp⟩
  have hq2 := hq.rd v a (by simpa using b)
  rw [if_pos a, if_pos (by simpa using b)]
  exact ⟨_, _, by rw [show s + ((0 : Nat) : Int) + 1 = s + 1 from by omega], hd, hs, hq2.1, hq2.2⟩
 | succ d ih =>
  intro k i D s hi hk h0 h1 hd hs
  obtain ⟨k, rfl⟩ : ∃ m, k = m + 1 := ⟨k - 1, by omega⟩
  simp only [spec_l20Small.l1]
  rw [if_pos (by omega)]; simp only [Option.bind_some, if_true, bne_self_eq_false, Bool.false_eq_true, if_false]
  obtain ⟨v, e, a, b⟩ := pick_eq L hL hl s 5 k (by omega) h0 (by omega) (by omega)
  rw [e]; simp only [Option.bind_some, if_true, bne_self_eq_false, Bool.false_eq_true, if_false]
  have hq : smallL [0, 0, 1, -1, 2] 5 20 := ⟨by simp, by simp⟩
  have hq2 := hq.rd v a (by simpa using b)
  rw [if_pos a, if_pos (by simpa using b), if_pos (by omega), if_pos (by omega), show wrap64 ((i : Int) + 1) = ((i + 1 : Nat) : Int) from by rw [wrap_id (by omega) (by omega)]; omega]
  obtain ⟨D', K', e2, x1, x2, x3, x4⟩ := ih k (i + 1) _ (s + 1) (by omega) (by omega) (by omega) (by omega) (by rw [List.length_set]; exact hd) (hs.set (i := ((i : Int)).toNat) hq2.1 hq2.2)
  exact ⟨D', K', by rw [e2]; congr 4; omega, x1, x2, x3, x4⟩
theorem small_l0 (L : List Int) (hL : ∀ x ∈ L, (Lit.int .u8 x).wf = true) (hl : L.length ≤ 2000) (D : List Int) (K : Int) (hd2 : D.length = 2) (hD : smallL D 2 20) (d : Nat) : ∀ (k i : Nat) (C : List Int) (s : Int), i + d = 3 → d + 8 < k → 0 ≤ s → s ≤ 700000 - d → C.length = 3 → smallL C 3 20 →
  ∃ C' D' K', spec_l20Small.l0 k (i : Int) L s C D K = some (C', D', K', s + d + 3) ∧ C'.length = 3 ∧ smallL C' 3 20 ∧ D'.length = 2 ∧ smallL D' 2 20 ∧ -20 ≤ K' ∧ K' ≤ 20 := by
 induction d with
 | zero =>
  intro k i C s hi hk h0 h1 hd hs
  obtain ⟨k, rfl⟩ : ∃ m, k = m + 1 := ⟨k - 1, by omega⟩
  simp only [spec_l20Small.l0]
  rw [if_neg (by omega)]
  obtain ⟨D', K', e2, x1, x2, x3, x4⟩ := small_l1 L hL hl C K 2 k 0 D s (by omega) (by omega) h0 (by omega) hd2 hD
  exact ⟨C, D', K', by rw [show ((0 : Nat) : Int) = 0 from rfl] at e2; rw [e2]; congr 4; omega, hd, hs, x1, x2, x3, x4⟩
 | succ d ih =>
  intro k i C s hi hk h0 h1 hd hs
  obtain ⟨k, rfl⟩ : ∃ m, k = m + 1 := ⟨k - 1, by omega⟩
  simp only [spec_l20Small.l0]
  rw [if_pos (by omega)]; simp only [Option.bind_some, if_true, bne_self_eq_false, Bool.false_eq_true, if_false]
  obtain ⟨v, e, a, b⟩ := pick_eq L hL hl s 6 k (by omega) h0 (by omega) (by omega)
  rw [e]; simp only [Option.bind_some, if_true, bne_self_eq_false, Bool.false_eq_true, if_false]
  have hq : smallL [0, 0, 0, 1, -1, 2] 6 20 := ⟨by simp, by simp⟩
  have hq2 := hq.rd v a (by simpa using b)
  rw [if_pos a, if_pos (by simpa using b), if_pos (by omega), if_pos (by omega), show wrap64 ((i : Int) + 1) = ((i + 1 : Nat) : Int) from by rw [wrap_id (by omega) (by omega)]; omega]
  obtain ⟨C', D', K', e2, x1, x2, x3⟩ := ih k (i + 1) _ (s + 1) (by omega) (by omega) (by omega) (by omega) (by rw [List.length_set]; exact hd) (hs.set (i := ((i : Int)).toNat) hq2.1 hq2.2)
  exact ⟨C', D', K', by rw [e2]; congr 4; omega, x1, x2, x3⟩
theorem small_eq (L : List Int) (hL : ∀ x ∈ L, (Lit.int .u8 x).wf = true) (hl : L.length ≤ 2000) (s : Int) (k : Nat) (hk : 12 ≤ k) (h0 : 0 ≤ s) (h1 : s ≤ 600000) :
  ∃ C D K, spec_l20Small.f k L s = some (C, D, K, s + 6) ∧ C.length = 3 ∧ smallL C 3 20 ∧ D.length = 2 ∧ smallL D 2 20 ∧ -20 ≤ K ∧ K ≤ 20 := by
 unfold spec_l20Small.f
 rw [spec_Zero_eq]; simp only [Option.bind_some, if_true, bne_self_eq_false, Bool.false_eq_true, if_false]
 obtain ⟨C, D, K, e, x⟩ := small_l0 L hL hl [0, 0] 0 rfl ⟨by simp, by simp⟩ 3 k 0 [0, 0, 0] s (by omega) (by omega) h0 (by omega) rfl ⟨by simp, by simp⟩
 exact ⟨C, D, K, by rw [show ((0 : Nat) : Int) = 0 from rfl] at e; rw [e]; congr 4; omega, x⟩

def drawnF (C D : List Int) (K : Int) : Prop := smallL C 3 10000001 ∧ smallL D 3 10000001 ∧ -10000001 ≤ K ∧ K ≤ 10000001
theorem form_j0 (L : List Int) (hL : ∀ x ∈ L, (Lit.int .u8 x).wf = true) (hl : L.length ≤ 2000) (C D : List Int) (K : Int) (s n : Int) (k : Nat) (hk : 3 ≤ k) (h0 : 0 ≤ s) (h1 : s ≤ 700000) (hn : 1 ≤ n) (hc : C.length = 3) (hC : smallL C 3 10000001) (hd : D.length = 2) (hD : smallL D 2 10000001) (hK : -20 ≤ K ∧ K ≤ 20) :
  ∃ C' D' K' s', spec_l20Form.j0 k n L s C D K = some (C', D', K', s') ∧ s ≤ s' ∧ s' ≤ s + 5 ∧ drawnF C' D' K' := by
 obtain ⟨k, rfl⟩ : ∃ m, k = m + 1 := ⟨k - 1, by omega⟩
 have hD' : smallL D 3 10000001 := hD.mono (by omega) (by omega)
 simp only [spec_l20Form.j0]
 obtain ⟨v1, e1, a1, b1⟩ := pick_eq L hL hl s n k (by omega) h0 (by omega) hn
 rw [e1]; simp only [Option.bind_some, if_true, bne_self_eq_false, Bool.false_eq_true, if_false]
 by_cases c1 : v1 > 0
 ·rw [if_pos c1]
  exact ⟨_, _, _, _, rfl, by omega, by omega, hC, hD', by omega, by omega⟩
 rw [if_neg c1]
 obtain ⟨v2, e2, a2, b2⟩ := pick_eq L hL hl (s + 1) 4 k (by omega) (by omega) (by omega) (by omega)
 rw [e2]; simp only [Option.bind_some, if_true, bne_self_eq_false, Bool.false_eq_true, if_false]
 by_cases c2 : v2 = 0
 ·rw [if_pos c2, if_pos (by omega)]
  exact ⟨_, _, _, _, rfl, by omega, by omega, hC.take, hD', by omega, by omega⟩
 rw [if_neg c2]
 by_cases c3 : v2 = 1
 ·rw [if_pos c3, if_pos (by omega)]
  exact ⟨_, _, _, _, rfl, by omega, by omega, hC, hD.push (by omega) (by omega), by omega, by omega⟩
 rw [if_neg c3]
 by_cases c4 : v2 = 2
 ·rw [if_pos c4]
  obtain ⟨v3, e3, a3, b3⟩ := pick_eq L hL hl (s + 1 + 1) 3 k (by omega) (by omega) (by omega) (by omega)
  rw [e3]; simp only [Option.bind_some, if_true, bne_self_eq_false, Bool.false_eq_true, if_false]
  have hq : smallL [10000001, -10000001, 10000000] 3 10000001 := ⟨by simp, by simp⟩
  have hq2 := hq.rd v3 a3 (by simpa using b3)
  rw [if_pos a3, if_pos (by simpa using b3)]
  exact ⟨_, _, _, _, rfl, by omega, by omega, hC, hD', hq2.1, hq2.2⟩
 rw [if_neg c4]
 obtain ⟨v3, e3, a3, b3⟩ := pick_eq L hL hl (s + 1 + 1) 3 k (by omega) (by omega) (by omega) (by omega)
 rw [e3]; simp only [Option.bind_some, if_true, bne_self_eq_false, Bool.false_eq_true, if_false]
 obtain ⟨v4, e4, a4, b4⟩ := pick_eq L hL hl (s + 1 + 1 + 1) 2 k (by omega) (by omega) (by omega) (by omega)
 rw [e4]; simp only [Option.bind_some, if_true, bne_self_eq_false, Bool.false_eq_true, if_false]
 have hq : smallL [10000001, -10000001] 2 10000001 := ⟨by simp, by simp⟩
 have hq2 := hq.rd v4 a4 (by simpa using b4)
 rw [if_pos a4, if_pos (by simpa using b4), if_pos a3, if_pos (by omega)]
 exact ⟨_, _, _, _, rfl, by omega, by omega, hC.set hq2.1 hq2.2, hD', by omega, by omega⟩
theorem form_eq (L : List Int) (hL : ∀ x ∈ L, (Lit.int .u8 x).wf = true) (hl : L.length ≤ 2000) (s n : Int) (k : Nat) (hk : 12 ≤ k) (h0 : 0 ≤ s) (h1 : s ≤ 500000) (hn : 1 ≤ n) :
  ∃ C D K s', spec_l20Form.f k L s n = some (C, D, K, s') ∧ s ≤ s' ∧ s' ≤ s + 20 ∧ drawnF C D K := by
 unfold spec_l20Form.f
 obtain ⟨C, D, K, e, hc, hC, hd, hD, hK⟩ := small_eq L hL hl s k hk h0 (by omega)
 rw [e]; simp only [Option.bind_some, if_true, bne_self_eq_false, Bool.false_eq_true, if_false]
 obtain ⟨v1, e1, a1, b1⟩ := pick_eq L hL hl (s + 6) 4 k (by omega) (by omega) (by omega) (by omega)
 rw [e1]; simp only [Option.bind_some, if_true, bne_self_eq_false, Bool.false_eq_true, if_false]
 have hC' : smallL C 3 10000001 := hC.mono (by omega) (by omega)
 have hD' : smallL D 2 10000001 := hD.mono (by omega) (by omega)
 by_cases c1 : v1 = 0
 ·rw [if_pos c1]
  obtain ⟨v2, e2, a2, b2⟩ := pick_eq L hL hl (s + 6 + 1) 3 k (by omega) (by omega) (by omega) (by omega)
  rw [e2]; simp only [Option.bind_some, if_true, bne_self_eq_false, Bool.false_eq_true, if_false]
  obtain ⟨v3, e3, a3, b3⟩ := pick_eq L hL hl (s + 6 + 1 + 1) 4 k (by omega) (by omega) (by omega) (by omega)
  rw [e3]; simp only [Option.bind_some, if_true, bne_self_eq_false, Bool.false_eq_true, if_false]
  have hq : smallL [10000000, -10000000, 1000, 77] 4 10000001 := ⟨by simp, by simp⟩
  have hq2 := hq.rd v3 a3 (by simpa using b3)
  rw [if_pos a3, if_pos (by simpa using b3), if_pos a2, if_pos (by omega)]
  obtain ⟨C', D', K', s', e4, p, q, r⟩ := form_j0 L hL hl (C.set v2.toNat (rd [10000000, -10000000, 1000, 77] v3)) D K (s + 6 + 1 + 1 + 1) n k (by omega) (by omega) (by omega) hn (by rw [List.length_set]; exact hc) (hC'.set hq2.1 hq2.2) hd hD' hK
  exact ⟨C', D', K', s', e4, by omega, by omega, r⟩
 ·rw [if_neg c1]
  obtain ⟨C', D', K', s', e4, p, q, r⟩ := form_j0 L hL hl C D K (s + 6 + 1) n k (by omega) (by omega) (by omega) hn hc hC' hd hD' hK
  exact ⟨C', D', K', s', e4, by omega, by omega, r⟩

theorem frm_ok (x y z a b K : Int) (hx : -10000000 ≤ x ∧ x ≤ 10000000) (hy : -10000000 ≤ y ∧ y ≤ 10000000) (hz : -10000000 ≤ z ∧ z ≤ 10000000) (ha : -10000000 ≤ a ∧ a ≤ 10000000) (hb : -10000000 ≤ b ∧ b ≤ 10000000) (hK : -10000000 ≤ K ∧ K ≤ 10000000) : frmB [x, y, z] [a, b] K = true := by
 have w : wrap64 (-10000000) = -10000000 := wrap_id (by decide) (by decide)
 unfold frmB
 rw [okB_iff.mpr ⟨by simp, by rw [w]; simp; omega⟩, okB_iff.mpr ⟨by simp, by rw [w]; simp; omega⟩, ibB_iff.mpr hK]
 rfl
theorem coHolds_eq : laws_coHolds.f = some true := by
 unfold laws_coHolds.f
 rw [impl_Zero_eq]; simp only [Option.bind_some, if_true, bne_self_eq_false, Bool.false_eq_true, if_false]
 rw [impl_Frm_eq, frm_ok 0 0 0 0 0 0 (by decide) (by decide) (by decide) (by decide) (by decide) (by decide)]; rfl

def smA (l : List S45) (m : Nat) : Prop := l.length ≤ m ∧ ∀ x ∈ l, x.f3.f0.length ≤ 4 ∧ x.f3.f1.length ≤ 4
theorem smA.push {l : List S45} {m : Nat} (h : smA l m) (x : S45) (hx : x.f3.f0.length ≤ 4 ∧ x.f3.f1.length ≤ 4) : smA (l ++ [x]) (m + 1) :=
 ⟨by rw [List.length_append]; have := h.1; simp; omega, fun y hy => by
  rcases List.mem_append.mp hy with hy | hy
  ·exact h.2 y hy
  ·simp only [List.mem_singleton] at hy; subst hy; exact hx⟩
theorem smA.put {l : List S45} {m : Nat} (h : smA l m) (i : Nat) (x : S45) (hx : x.f3.f0.length ≤ 4 ∧ x.f3.f1.length ≤ 4) : smA (l.set i x) m :=
 ⟨by rw [List.length_set]; exact h.1, fun y hy => by
  rcases List.mem_or_eq_of_mem_set hy with hy | hy
  ·exact h.2 y hy
  ·subst hy; exact hx⟩
theorem smA.mono {l : List S45} {m n : Nat} (h : smA l m) (hn : m ≤ n) : smA l n := ⟨Nat.le_trans h.1 hn, h.2⟩
theorem rdA_mem (l : List S45) (i : Int) (h0 : 0 ≤ i) (h1 : i < (l.length : Int)) : rd_T45 l i ∈ l := mem_rd z45 l i h0 h1
theorem smA.sz {l : List S45} {m : Nat} (h : smA l m) : ∀ x ∈ l, (x.f3.f0.length : Int) ≤ 1048576 ∧ (x.f3.f1.length : Int) ≤ 1048576 := fun x hx => by have := h.2 x hx; omega
theorem line_eq (L : List Int) (hL : ∀ x ∈ L, (Lit.int .u8 x).wf = true) (hl : L.length ≤ 2000) (s : Int) (k : Nat) (hk : 20 ≤ k) (h0 : 0 ≤ s) (h1 : s ≤ 500000) :
  ∃ a b c C D K s', spec_l20Line.f k L s = some (a, b, c, C, D, K, s') ∧ s ≤ s' ∧ s' ≤ s + 20 ∧ C.length ≤ 4 ∧ D.length ≤ 4 := by
 unfold spec_l20Line.f
 obtain ⟨v, e1, v0, v1⟩ := pick_eq L hL hl s 7 k (by omega) h0 (by omega) (by omega)
 rw [e1]; simp only [Option.bind_some, if_true, bne_self_eq_false, Bool.false_eq_true, if_false]
 obtain ⟨k, rfl⟩ : ∃ m, k = m + 2 := ⟨k - 2, by omega⟩
 have j1 : ∀ b : Bool, ∃ a b' c C D K s', spec_l20Line.j1 (k + 1) v b L (s + 1) = some (a, b', c, C, D, K, s') ∧ s ≤ s' ∧ s' ≤ s + 20 ∧ C.length ≤ 4 ∧ D.length ≤ 4 := by
  intro b
  simp only [spec_l20Line.j1]
  obtain ⟨C, D, K, e2, hC, _, hD, _⟩ := small_eq L hL hl (s + 1) k (by omega) (by omega) (by omega)
  cases b with
  | true =>
   rw [if_pos rfl, e2]; simp only [Option.bind_some, if_true, bne_self_eq_false, Bool.false_eq_true, if_false]
   obtain ⟨p, e3, p0, p1⟩ := pick_eq L hL hl (s + 1 + 6) 3 k (by omega) (by omega) (by omega) (by omega)
   obtain ⟨q, e4, q0, q1⟩ := pick_eq L hL hl (s + 1 + 6 + 1) 3 k (by omega) (by omega) (by omega) (by omega)
   rw [e3]; simp only [Option.bind_some, if_true, bne_self_eq_false, Bool.false_eq_true, if_false]
   by_cases hp : p > 0
   ·rw [if_pos hp, e4]; simp only [Option.bind_some, if_true, bne_self_eq_false, Bool.false_eq_true, if_false]
    exact ⟨_, _, _, _, _, _, _, rfl, by omega, by omega, by simp, by omega⟩
   ·rw [if_neg hp, e4]; simp only [Option.bind_some, if_true, bne_self_eq_false, Bool.false_eq_true, if_false]
    exact ⟨_, _, _, _, _, _, _, rfl, by omega, by omega, by omega, by omega⟩
  | false =>
   rw [if_neg (by decide)]
   by_cases h5 : v = 5
   ·rw [if_pos h5, e2]; simp only [Option.bind_some, if_true, bne_self_eq_false, Bool.false_eq_true, if_false]
    exact ⟨_, _, _, _, _, _, _, rfl, by omega, by omega, by omega, by omega⟩
   ·rw [if_neg h5]
    exact ⟨_, _, _, _, _, _, _, rfl, by omega, by omega, by simp, by simp⟩
 have j0 : ∀ b : Bool, ∃ a b' c C D K s', spec_l20Line.j0 (k + 2) v b L (s + 1) = some (a, b', c, C, D, K, s') ∧ s ≤ s' ∧ s' ≤ s + 20 ∧ C.length ≤ 4 ∧ D.length ≤ 4 := by
  intro b
  simp only [spec_l20Line.j0]
  cases b with
  | true =>
   obtain ⟨p, e3, p0, p1⟩ := pick_eq L hL hl (s + 1) 3 (k + 1) (by omega) (by omega) (by omega) (by omega)
   obtain ⟨C, D, K, e2, hC, _, hD, _⟩ := small_eq L hL hl (s + 1 + 1) (k + 1) (by omega) (by omega) (by omega)
   rw [if_pos rfl, e3]; simp only [Option.bind_some, if_true, bne_self_eq_false, Bool.false_eq_true, if_false]
   rw [e2]; simp only [Option.bind_some, if_true, bne_self_eq_false, Bool.false_eq_true, if_false]
   exact ⟨_, _, _, _, _, _, _, rfl, by omega, by omega, by omega, by omega⟩
  | false =>
   rw [if_neg (by decide)]
   by_cases h2 : v = 2
   ·rw [if_pos h2]; exact j1 _
   ·rw [if_neg h2]
    by_cases h3 : v = 3
    ·rw [if_pos h3]; exact j1 _
    ·rw [if_neg h3]; exact j1 _
 by_cases hv : v = 0
 ·rw [if_pos hv]; exact j0 _
 ·rw [if_neg hv]; exact j0 _
theorem num_eq (a b c : Int) : spec_l20Num.f a b c = some ([0, 0, 0], [a, b], c) := by
 unfold spec_l20Num.f
 rw [spec_Zero_eq]; rfl
theorem with_eq (C D : List Int) (K v n : Int) (h0 : 0 ≤ v) (h1 : v < (C.length : Int)) : ∃ C', spec_l20With.f C D K v n = some (C', D, K) ∧ C'.length = C.length := by
 unfold spec_l20With.f
 rw [if_pos h0, if_pos h1]
 exact ⟨_, rfl, List.length_set⟩
theorem act_loop (L : List Int) (hL : ∀ x ∈ L, (Lit.int .u8 x).wf = true) (hl : L.length ≤ 2000) (d : Nat) : ∀ (k : Nat) (acc : List S45) (s : Int), d ≤ 5 → d + 2097300 < k → smA acc (6 - d) → 0 ≤ s → s ≤ 1000 + 20 * (6 - (d : Int)) →
  ∃ l s', spec_l20Act.l0 k acc (d : Int) L s = some (l, s') ∧ s ≤ s' ∧ s' ≤ s + 20 * (d : Int) ∧ smA l 6 := by
 induction d with
 | zero =>
  intro k acc s hd hk ha h0 h1
  obtain ⟨k, rfl⟩ : ∃ m, k = m + 1 := ⟨k - 1, by omega⟩
  refine ⟨acc, s, ?_, by omega, by omega, ha⟩
  simp only [spec_l20Act.l0]
  rw [if_neg (by omega)]
 | succ d ih =>
  intro k acc s hd hk ha h0 h1
  obtain ⟨k, rfl⟩ : ∃ m, k = m + 1 := ⟨k - 1, by omega⟩
  obtain ⟨a, b, c, C, D, K, s1, e1, a1, b1, hC, hD⟩ := line_eq L hL hl s k (by omega) h0 (by omega)
  have hn := ha.1
  have hw : wrap64 (((d + 1 : Nat) : Int) - 1) = (d : Int) := by rw [wrap_id (by omega) (by omega)]; omega
  have hx : (⟨a, b, c, ⟨C, D, K⟩⟩ : S45).f3.f0.length ≤ 4 ∧ (⟨a, b, c, ⟨C, D, K⟩⟩ : S45).f3.f1.length ≤ 4 := ⟨hC, hD⟩
  have hp : smA (acc ++ [⟨a, b, c, ⟨C, D, K⟩⟩]) (6 - d) := (ha.push _ hx).mono (by omega)
  simp only [spec_l20Act.l0]
  rw [if_pos (by omega), e1]; simp only [Option.bind_some, if_true, bne_self_eq_false, Bool.false_eq_true, if_false]
  rw [if_pos (by simp; omega)]; simp only [List.nil_append]
  rw [if_pos (by simp; omega), spec_Act_eq _ k (by omega) (by have := hp.1; omega) hp.sz]; simp only [Option.bind_some, if_true, bne_self_eq_false, Bool.false_eq_true, if_false]
  cases actB (acc ++ [⟨a, b, c, ⟨C, D, K⟩⟩]) with
  | true =>
   simp only [if_true]
   rw [if_pos (by simp; omega), hw]
   obtain ⟨l, s2, e2, a2, b2, hq⟩ := ih k (acc ++ [⟨a, b, c, ⟨C, D, K⟩⟩]) s1 (by omega) (by omega) hp (by omega) (by omega)
   exact ⟨l, s2, e2, by omega, by omega, hq⟩
  | false =>
   simp only [Bool.false_eq_true, if_false]
   rw [hw]
   obtain ⟨l, s2, e2, a2, b2, hq⟩ := ih k acc s1 (by omega) (by omega) (ha.mono (by omega)) (by omega) (by omega)
   exact ⟨l, s2, e2, by omega, by omega, hq⟩
theorem act_eq (L : List Int) (hL : ∀ x ∈ L, (Lit.int .u8 x).wf = true) (hl : L.length ≤ 2000) (s : Int) (k : Nat) (hk : 2097400 < k) (h0 : 0 ≤ s) (h1 : s ≤ 900) :
  ∃ l s', spec_l20Act.f k L s = some (l, s') ∧ s ≤ s' ∧ s' ≤ s + 110 ∧ smA l 6 := by
 unfold spec_l20Act.f
 obtain ⟨v, e1, v0, v1⟩ := pick_eq L hL hl s 2 k (by omega) h0 (by omega) (by omega)
 rw [e1]; simp only [Option.bind_some, if_true, bne_self_eq_false, Bool.false_eq_true, if_false]
 obtain ⟨u, e2, u0, u1⟩ := pick_eq L hL hl (s + 1) 8 k (by omega) (by omega) (by omega) (by omega)
 rw [e2]; simp only [Option.bind_some, if_true, bne_self_eq_false, Bool.false_eq_true, if_false]
 obtain ⟨k, rfl⟩ : ∃ m, k = m + 1 := ⟨k - 1, by omega⟩
 have z3 : (([0, 0, 0] : List Int).length : Int) = 3 := rfl
 have j0 : ∀ b : Bool, ∃ l s', spec_l20Act.j0 (k + 1) v u b L (s + 1 + 1) = some (l, s') ∧ s ≤ s' ∧ s' ≤ s + 110 ∧ smA l 6 := by
  intro b
  simp only [spec_l20Act.j0, num_eq, Option.bind_some]
  cases b with
  | true =>
   obtain ⟨C', e3, hC'⟩ := with_eq [0, 0, 0] [-1, 0] 0 v 1 v0 (by omega)
   rw [if_pos rfl, e3]; simp only [Option.bind_some, if_true, bne_self_eq_false, Bool.false_eq_true, if_false]
   exact ⟨_, _, rfl, by omega, by omega, ⟨by simp, fun x hx => by
    simp only [List.mem_cons, List.not_mem_nil, or_false] at hx
    have hc : C'.length = 3 := hC'
    rcases hx with rfl | rfl | rfl | rfl | rfl <;> simp [hc]⟩⟩
  | false =>
   rw [if_neg (by decide)]
   by_cases h2 : u = 2
   ·rw [if_pos h2]
    exact ⟨_, _, rfl, by omega, by omega, ⟨by simp, fun x hx => by
     simp only [List.mem_cons, List.not_mem_nil, or_false] at hx
     subst hx; simp⟩⟩
   rw [if_neg h2]
   by_cases h3 : u = 3
   ·obtain ⟨C', e3, hC'⟩ := with_eq [0, 0, 0] [-1, 0] 0 v 1 v0 (by omega)
    rw [if_pos h3, e3]; simp only [Option.bind_some, if_true, bne_self_eq_false, Bool.false_eq_true, if_false]
    exact ⟨_, _, rfl, by omega, by omega, ⟨by simp, fun x hx => by
     simp only [List.mem_cons, List.not_mem_nil, or_false] at hx
     have hc : C'.length = 3 := hC'
     rcases hx with rfl | rfl | rfl <;> simp [hc]⟩⟩
   rw [if_neg h3]
   by_cases h4 : u = 4
   ·obtain ⟨C', e3, hC'⟩ := with_eq [0, 0, 0] [0, 0] 0 2 1 (by omega) (by omega)
    rw [if_pos h4, e3]; simp only [Option.bind_some, if_true, bne_self_eq_false, Bool.false_eq_true, if_false]
    exact ⟨_, _, rfl, by omega, by omega, ⟨by simp, fun x hx => by
     simp only [List.mem_cons, List.not_mem_nil, or_false] at hx
     have hc : C'.length = 3 := hC'
     subst hx; simp [hc]⟩⟩
   rw [if_neg h4]
   by_cases h5 : u = 5
   ·obtain ⟨C', e3, hC'⟩ := with_eq [0, 0, 0] [0, 1] 5 0 1 (by omega) (by omega)
    have hc : C'.length = 3 := hC'
    obtain ⟨C2, e4, hC2⟩ := with_eq C' [0, 1] 5 1 (-1) (by omega) (by omega)
    rw [if_pos h5, e3]; simp only [Option.bind_some, if_true, bne_self_eq_false, Bool.false_eq_true, if_false]
    rw [e4]; simp only [Option.bind_some, if_true, bne_self_eq_false, Bool.false_eq_true, if_false]
    exact ⟨_, _, rfl, by omega, by omega, ⟨by simp, fun x hx => by
     simp only [List.mem_cons, List.not_mem_nil, or_false] at hx
     have hc2 : C2.length = 3 := by omega
     rcases hx with rfl | rfl <;> simp [hc2]⟩⟩
   rw [if_neg h5]
   obtain ⟨q, e3, q0, q1⟩ := pick_eq L hL hl (s + 1 + 1) 5 k (by omega) (by omega) (by omega) (by omega)
   rw [e3]; simp only [Option.bind_some, if_true, bne_self_eq_false, Bool.false_eq_true, if_false]
   obtain ⟨l, s2, e4, a4, b4, hq⟩ := act_loop L hL hl (q.toNat + 1) k [] (s + 1 + 1 + 1) (by omega) (by omega) ⟨by simp, by simp⟩ (by omega) (by omega)
   rw [show wrap64 (1 + q) = ((q.toNat + 1 : Nat) : Int) from by rw [wrap_id (by omega) (by omega)]; omega, e4]
   exact ⟨l, s2, rfl, by omega, by omega, hq⟩
 by_cases hu : u = 0
 ·rw [if_pos hu]; exact j0 _
 ·rw [if_neg hu]; exact j0 _
theorem any_loop (L : List Int) (i s : Int) (h0 : 0 ≤ i) (d : Nat) : ∀ (k : Nat) (l : List S45), l.length + d = 7 → d < k → i < (l.length : Int) → (∀ x ∈ l, x.f3.f0.length ≤ 4 ∧ x.f3.f1.length ≤ 4) → ∃ l', spec_l20AnyAct.l0 k l i L s = some (l', s) ∧ smA l' 7 := by
 induction d with
 | zero =>
  intro k l hd hk hi hx
  obtain ⟨k, rfl⟩ : ∃ m, k = m + 1 := ⟨k - 1, by omega⟩
  refine ⟨l, ?_, ⟨by omega, hx⟩⟩
  simp only [spec_l20AnyAct.l0]
  rw [if_neg (by omega)]
 | succ d ih =>
  intro k l hd hk hi hx
  obtain ⟨k, rfl⟩ : ∃ m, k = m + 1 := ⟨k - 1, by omega⟩
  have hm := hx _ (rdA_mem l i h0 hi)
  simp only [spec_l20AnyAct.l0]
  rw [if_pos (by omega), if_pos h0, if_pos hi, if_pos (by omega)]
  have hp : smA (l ++ [rd_T45 l i]) (l.length + 1) := smA.push ⟨Nat.le_refl _, hx⟩ _ hm
  exact ih k _ (by simp; omega) (by omega) (by simp; omega) hp.2
theorem any_eq (L : List Int) (hL : ∀ x ∈ L, (Lit.int .u8 x).wf = true) (hl : L.length ≤ 2000) (s n : Int) (k : Nat) (hk : 2097500 < k) (h0 : 0 ≤ s) (h1 : s ≤ 900) (hn : 1 ≤ n) :
  ∃ l s', spec_l20AnyAct.f k L s n = some (l, s') ∧ s ≤ s' ∧ s' ≤ s + 200 ∧ smA l 8 := by
 unfold spec_l20AnyAct.f
 obtain ⟨l, t, e1, t0, t1, hA⟩ := act_eq L hL hl s k (by omega) h0 h1
 rw [e1]; simp only [Option.bind_some, if_true, bne_self_eq_false, Bool.false_eq_true, if_false]
 obtain ⟨k, rfl⟩ : ∃ m, k = m + 1 := ⟨k - 1, by omega⟩
 by_cases hz : (l.length : Int) = 0
 ·rw [if_pos hz]
  simp only [spec_l20AnyAct.j0, if_true]
  exact ⟨l, t, rfl, by omega, by omega, hA.mono (by omega)⟩
 rw [if_neg hz]
 obtain ⟨p, e2, p0, p1⟩ := pick_eq L hL hl t n (k + 1) (by omega) (by omega) (by omega) hn
 rw [e2]; simp only [Option.bind_some, if_true, bne_self_eq_false, Bool.false_eq_true, if_false]
 simp only [spec_l20AnyAct.j0]
 by_cases hp : p > 0
 ·rw [decide_eq_true hp, if_pos rfl]
  exact ⟨l, t + 1, rfl, by omega, by omega, hA.mono (by omega)⟩
 rw [decide_eq_false hp, if_neg (by decide)]
 obtain ⟨i, e3, i0, i1⟩ := pick_eq L hL hl (t + 1) (l.length : Int) k (by omega) (by omega) (by omega) (by omega)
 rw [e3]; simp only [Option.bind_some, if_true, bne_self_eq_false, Bool.false_eq_true, if_false]
 obtain ⟨u, e4, u0, u1⟩ := pick_eq L hL hl (t + 1 + 1) 6 k (by omega) (by omega) (by omega) (by omega)
 rw [e4]; simp only [Option.bind_some, if_true, bne_self_eq_false, Bool.false_eq_true, if_false]
 have hm := hA.2 _ (rdA_mem l i i0 i1)
 have h8 := hA.mono (n := 8) (by omega)
 by_cases c0 : u = 0
 ·rw [if_pos c0]
  obtain ⟨q, e5, q0, q1⟩ := pick_eq L hL hl (t + 1 + 1 + 1) 4 k (by omega) (by omega) (by omega) (by omega)
  rw [e5]; simp only [Option.bind_some, if_true, bne_self_eq_false, Bool.false_eq_true, if_false]
  rw [if_pos q0, if_pos (show q < ((([0, 5, 4, 1] : List Int).length : Nat) : Int) from q1), if_pos i0, if_pos i1]
  exact ⟨_, _, rfl, by omega, by omega, h8.put _ _ hm⟩
 rw [if_neg c0]
 by_cases c1 : u = 1
 ·rw [if_pos c1]
  obtain ⟨q, e5, q0, q1⟩ := pick_eq L hL hl (t + 1 + 1 + 1) 3 k (by omega) (by omega) (by omega) (by omega)
  rw [e5]; simp only [Option.bind_some, if_true, bne_self_eq_false, Bool.false_eq_true, if_false]
  rw [if_pos q0, if_pos (show q < ((([-1, 3, 2] : List Int).length : Nat) : Int) from q1), if_pos i0, if_pos i1]
  exact ⟨_, _, rfl, by omega, by omega, h8.put _ _ hm⟩
 rw [if_neg c1]
 by_cases c2 : u = 2
 ·rw [if_pos c2]
  obtain ⟨q, e5, q0, q1⟩ := pick_eq L hL hl (t + 1 + 1 + 1) 4 k (by omega) (by omega) (by omega) (by omega)
  rw [e5]; simp only [Option.bind_some, if_true, bne_self_eq_false, Bool.false_eq_true, if_false]
  rw [if_pos q0, if_pos (show q < ((([0, -1, 7, 6] : List Int).length : Nat) : Int) from q1), if_pos i0, if_pos i1]
  exact ⟨_, _, rfl, by omega, by omega, h8.put _ _ hm⟩
 rw [if_neg c2]
 by_cases c3 : u = 3
 ·rw [if_pos c3]
  obtain ⟨C, D, K, s2, e5, a5, b5, hF⟩ := form_eq L hL hl (t + 1 + 1 + 1) 2 k (by omega) (by omega) (by omega) (by omega)
  have f1 := hF.1.1
  have f2 := hF.2.1.1
  rw [e5]; simp only [Option.bind_some, if_true, bne_self_eq_false, Bool.false_eq_true, if_false]
  rw [if_pos i0, if_pos i1]
  exact ⟨_, _, rfl, by omega, by omega, h8.put _ _ ⟨by show C.length ≤ 4; omega, by show D.length ≤ 4; omega⟩⟩
 rw [if_neg c3]
 have hlen := hA.1
 by_cases c4 : u = 4
 ·rw [if_pos c4]
  obtain ⟨l', e5, h5⟩ := any_loop L i (t + 1 + 1 + 1) i0 (7 - l.length) k l (by omega) (by omega) i1 hA.2
  rw [e5]
  exact ⟨_, _, rfl, by omega, by omega, h5.mono (by omega)⟩
 rw [if_neg c4]
 obtain ⟨C, D, K, e5, hC, _, hD, _⟩ := small_eq L hL hl (t + 1 + 1 + 1) k (by omega) (by omega) (by omega)
 rw [e5]; simp only [Option.bind_some, if_true, bne_self_eq_false, Bool.false_eq_true, if_false]
 obtain ⟨C2, D2, K2, e6, hC2, _, hD2, _⟩ := small_eq L hL hl (t + 1 + 1 + 1 + 6) k (by omega) (by omega) (by omega)
 rw [e6]; simp only [Option.bind_some, if_true, bne_self_eq_false, Bool.false_eq_true, if_false]
 rw [if_pos (by simp; omega)]
 refine ⟨_, _, rfl, by omega, by omega, ?_⟩
 have s1 := hA.push ⟨1, 0, 1, ⟨C, D, K⟩⟩ ⟨by show C.length ≤ 4; omega, by show D.length ≤ 4; omega⟩
 have s2 := s1.push ⟨1, 0, 1, ⟨C2, D2, K2⟩⟩ ⟨by show C2.length ≤ 4; omega, by show D2.length ≤ 4; omega⟩
 rw [List.append_assoc] at s2
 exact s2

def smP (l : List (List S45)) (m : Nat) : Prop := l.length ≤ m ∧ ∀ y ∈ l, smA y 8
theorem smP.push {l : List (List S45)} {m : Nat} (h : smP l m) (x : List S45) (hx : smA x 8) : smP (l ++ [x]) (m + 1) :=
 ⟨by rw [List.length_append]; have := h.1; simp; omega, fun y hy => by
  rcases List.mem_append.mp hy with hy | hy
  ·exact h.2 y hy
  ·simp only [List.mem_singleton] at hy; subst hy; exact hx⟩
theorem smP.put {l : List (List S45)} {m : Nat} (h : smP l m) (i : Nat) (x : List S45) (hx : smA x 8) : smP (l.set i x) m :=
 ⟨by rw [List.length_set]; exact h.1, fun y hy => by
  rcases List.mem_or_eq_of_mem_set hy with hy | hy
  ·exact h.2 y hy
  ·subst hy; exact hx⟩
theorem smP.mono {l : List (List S45)} {m n : Nat} (h : smP l m) (hn : m ≤ n) : smP l n := ⟨Nat.le_trans h.1 hn, h.2⟩
theorem acts_loop (L : List Int) (hL : ∀ x ∈ L, (Lit.int .u8 x).wf = true) (hl : L.length ≤ 2000) (d : Nat) : ∀ (k m : Nat) (acc : List (List S45)) (s : Int), d + 2097450 < k → 0 ≤ s → s + 110 * (d : Int) ≤ 1010 → d + m ≤ 4 → smP acc m →
  ∃ l s', spec_l20Acts.l0 k acc (d : Int) L s = some (l, s') ∧ s ≤ s' ∧ s' ≤ s + 110 * (d : Int) ∧ smP l 4 ∧ l.length = acc.length + d := by
 induction d with
 | zero =>
  intro k m acc s hk h0 h1 hm ha
  obtain ⟨k, rfl⟩ : ∃ m, k = m + 1 := ⟨k - 1, by omega⟩
  simp only [spec_l20Acts.l0]
  rw [if_neg (by omega)]
  exact ⟨acc, s, rfl, by omega, by omega, ha.mono (by omega), by omega⟩
 | succ d ih =>
  intro k m acc s hk h0 h1 hm ha
  obtain ⟨k, rfl⟩ : ∃ m, k = m + 1 := ⟨k - 1, by omega⟩
  simp only [spec_l20Acts.l0]
  rw [if_pos (by omega)]
  obtain ⟨x, t, e1, t0, t1, hA⟩ := act_eq L hL hl s k (by omega) h0 (by omega)
  rw [e1]; simp only [Option.bind_some, if_true, bne_self_eq_false, Bool.false_eq_true, if_false]
  have hl2 := ha.1
  rw [if_pos (by omega), show wrap64 (((d + 1 : Nat) : Int) - 1) = (d : Int) from by rw [wrap_id (by omega) (by omega)]; omega]
  obtain ⟨l', s', e, p, q, r, w⟩ := ih k (m + 1) _ t (by omega) (by omega) (by omega) (by omega) (ha.push x (hA.mono (by omega)))
  exact ⟨l', s', e, by omega, by omega, r, by rw [w, List.length_append]; simp; omega⟩
theorem acts_eq (L : List Int) (hL : ∀ x ∈ L, (Lit.int .u8 x).wf = true) (hl : L.length ≤ 2000) (s : Int) (k : Nat) (hk : 2097460 < k) (h0 : 0 ≤ s) (h1 : s ≤ 560) :
  ∃ l s', spec_l20Acts.f k L s = some (l, s') ∧ s ≤ s' ∧ s' ≤ s + 441 ∧ smP l 4 ∧ 0 < l.length := by
 unfold spec_l20Acts.f
 obtain ⟨v, e1, v0, v1⟩ := pick_eq L hL hl s 4 k (by omega) h0 (by omega) (by omega)
 rw [e1]; simp only [Option.bind_some, if_true, bne_self_eq_false, Bool.false_eq_true, if_false]
 obtain ⟨d, hd⟩ : ∃ d : Nat, wrap64 (1 + v) = (d : Int) := ⟨(1 + v).toNat, by rw [wrap_id (by omega) (by omega)]; omega⟩
 have hd2 : (d : Int) = 1 + v := by rw [← hd, wrap_id (by omega) (by omega)]
 rw [hd]
 obtain ⟨l, s', e, p, q, r, w⟩ := acts_loop L hL hl d k 0 [] (s + 1) (by omega) (by omega) (by omega) (by omega) ⟨by simp, by simp⟩
 exact ⟨l, s', e, by omega, by omega, r, by rw [w]; simp; omega⟩
theorem anyActs_loop (L : List Int) (s : Int) (d : Nat) : ∀ (k : Nat) (l : List (List S45)), l.length + d = 5 → d < k → 0 < l.length → (∀ y ∈ l, smA y 8) → ∃ l', spec_l20AnyActs.l0 k l L s = some (l', s) ∧ smP l' 5 := by
 induction d with
 | zero =>
  intro k l hd hk hi hx
  obtain ⟨k, rfl⟩ : ∃ m, k = m + 1 := ⟨k - 1, by omega⟩
  refine ⟨l, ?_, ⟨by omega, hx⟩⟩
  simp only [spec_l20AnyActs.l0]
  rw [if_neg (by omega)]
 | succ d ih =>
  intro k l hd hk hi hx
  obtain ⟨k, rfl⟩ : ∃ m, k = m + 1 := ⟨k - 1, by omega⟩
  have hm := hx _ (mem_rd [] l 0 (by omega) (by omega))
  simp only [spec_l20AnyActs.l0]
  rw [if_pos (by omega), if_pos (by omega), if_pos (by omega)]
  have hp : smP (l ++ [rd_L5 l 0]) (l.length + 1) := smP.push ⟨Nat.le_refl _, hx⟩ _ hm
  exact ih k _ (by simp; omega) (by omega) (by simp) hp.2
theorem anyActs_eq (L : List Int) (hL : ∀ x ∈ L, (Lit.int .u8 x).wf = true) (hl : L.length ≤ 2000) (s n : Int) (k : Nat) (hk : 2097600 < k) (h0 : 0 ≤ s) (h1 : s ≤ 455) (hn : 1 ≤ n) :
  ∃ l s', spec_l20AnyActs.f k L s n = some (l, s') ∧ s ≤ s' ∧ s' ≤ s + 700 ∧ smP l 5 := by
 unfold spec_l20AnyActs.f
 obtain ⟨l, t, e1, t0, t1, hA, hp⟩ := acts_eq L hL hl s k (by omega) h0 (by omega)
 rw [e1]; simp only [Option.bind_some, if_true, bne_self_eq_false, Bool.false_eq_true, if_false]
 obtain ⟨p, e2, p0, p1⟩ := pick_eq L hL hl t n k (by omega) (by omega) (by omega) hn
 rw [e2]; simp only [Option.bind_some, if_true, bne_self_eq_false, Bool.false_eq_true, if_false]
 by_cases c1 : p > 0
 ·rw [if_pos c1]; exact ⟨_, _, rfl, by omega, by omega, hA.mono (by omega)⟩
 rw [if_neg c1]
 obtain ⟨u, e3, u0, u1⟩ := pick_eq L hL hl (t + 1) 3 k (by omega) (by omega) (by omega) (by omega)
 rw [e3]; simp only [Option.bind_some, if_true, bne_self_eq_false, Bool.false_eq_true, if_false]
 by_cases c2 : u = 0
 ·rw [if_pos c2]
  obtain ⟨x, s3, e4, a3, b3, hx⟩ := any_eq L hL hl (t + 1 + 1) 1 k (by omega) (by omega) (by omega) (by omega)
  rw [e4]; simp only [Option.bind_some, if_true, bne_self_eq_false, Bool.false_eq_true, if_false]
  rw [if_pos (by omega)]
  exact ⟨_, _, rfl, by omega, by omega, (hA.put _ _ hx).mono (by omega)⟩
 rw [if_neg c2]
 by_cases c3 : u = 1
 ·rw [if_pos c3]; exact ⟨_, _, rfl, by omega, by omega, ⟨by simp, by simp⟩⟩
 rw [if_neg c3]
 have := hA.1
 obtain ⟨l', e5, h5⟩ := anyActs_loop L (t + 1 + 1) (5 - l.length) k l (by omega) (by omega) hp hA.2
 rw [e5]
 exact ⟨_, _, rfl, by omega, by omega, h5⟩
theorem plan_start (L : List Int) (hL : ∀ x ∈ L, (Lit.int .u8 x).wf = true) (hl : L.length ≤ 2000) (c : Int) (P : List (List S45)) (G : List Int) (d : Nat) : ∀ (k i : Nat) (St : List Int) (s : Int), d + 2 < k → 0 ≤ s → s + d ≤ 800000 → i + d = 3 → St.length = i →
  ∃ S' s', spec_l21Plan.l1 k (i : Int) L s c P G St = some (c, P, G, S', s') ∧ s ≤ s' ∧ s' ≤ s + d ∧ S'.length = 3 := by
 induction d with
 | zero =>
  intro k i St s hk h0 h1 hi hS
  obtain ⟨k, rfl⟩ : ∃ m, k = m + 1 := ⟨k - 1, by omega⟩
  simp only [spec_l21Plan.l1]
  rw [if_neg (by omega)]
  exact ⟨St, s, rfl, by omega, by omega, by omega⟩
 | succ d ih =>
  intro k i St s hk h0 h1 hi hS
  obtain ⟨k, rfl⟩ : ∃ m, k = m + 1 := ⟨k - 1, by omega⟩
  simp only [spec_l21Plan.l1]
  rw [if_pos (by omega)]; simp only [Option.bind_some, if_true, bne_self_eq_false, Bool.false_eq_true, if_false]
  obtain ⟨v1, e1, a1, b1⟩ := pick_eq L hL hl s 6 k (by omega) h0 (by omega) (by omega)
  rw [e1]; simp only [Option.bind_some, if_true, bne_self_eq_false, Bool.false_eq_true, if_false]
  rw [if_pos a1, if_pos (by simpa using b1), if_pos (by omega), show wrap64 ((i : Int) + 1) = ((i + 1 : Nat) : Int) from by rw [wrap_id (by omega) (by omega)]; omega]
  obtain ⟨S', s', e, p, q, r⟩ := ih k (i + 1) (St ++ [rd [0, 5, 20, 60, 200, -8] v1]) (s + 1) (by omega) (by omega) (by omega) (by omega) (by simp [hS])
  exact ⟨S', s', e, by omega, by omega, r⟩
theorem plan_gives (L : List Int) (hL : ∀ x ∈ L, (Lit.int .u8 x).wf = true) (hl : L.length ≤ 2000) (c : Int) (P : List (List S45)) (d : Nat) : ∀ (k m : Nat) (G : List Int) (s : Int), d + 10 < k → 0 ≤ s → s + d ≤ 700000 → d + m ≤ 3 → G.length ≤ m →
  ∃ G' S' s', spec_l21Plan.l0 k (d : Int) L s c P G = some (c, P, G', S', s') ∧ s ≤ s' ∧ s' ≤ s + d + 3 ∧ G'.length ≤ 3 ∧ S'.length = 3 := by
 induction d with
 | zero =>
  intro k m G s hk h0 h1 hm hG
  obtain ⟨k, rfl⟩ : ∃ m, k = m + 1 := ⟨k - 1, by omega⟩
  simp only [spec_l21Plan.l0]
  rw [if_neg (by omega)]
  obtain ⟨S', s', e, p, q, r⟩ := plan_start L hL hl c P G 3 k 0 [] s (by omega) h0 (by omega) (by omega) rfl
  exact ⟨G, S', s', e, by omega, by omega, by omega, r⟩
 | succ d ih =>
  intro k m G s hk h0 h1 hm hG
  obtain ⟨k, rfl⟩ : ∃ m, k = m + 1 := ⟨k - 1, by omega⟩
  simp only [spec_l21Plan.l0]
  rw [if_pos (by omega)]; simp only [Option.bind_some, if_true, bne_self_eq_false, Bool.false_eq_true, if_false]
  obtain ⟨v1, e1, a1, b1⟩ := pick_eq L hL hl s 5 k (by omega) h0 (by omega) (by omega)
  rw [e1]; simp only [Option.bind_some, if_true, bne_self_eq_false, Bool.false_eq_true, if_false]
  rw [if_pos a1, if_pos (by simpa using b1), if_pos (by omega), show wrap64 (((d + 1 : Nat) : Int) - 1) = (d : Int) from by rw [wrap_id (by omega) (by omega)]; omega]
  obtain ⟨G', S', s', e, p, q, r, w⟩ := ih k (m + 1) (G ++ [rd [0, 3, 9, 20, 50] v1]) (s + 1) (by omega) (by omega) (by omega) (by omega) (by simp; omega)
  exact ⟨G', S', s', e, by omega, by omega, r, w⟩
theorem plan_eq (L : List Int) (hL : ∀ x ∈ L, (Lit.int .u8 x).wf = true) (hl : L.length ≤ 2000) (s : Int) (k : Nat) (hk : 2097500 < k) (h0 : 0 ≤ s) (h1 : s ≤ 500) :
  ∃ c P G St s', spec_l21Plan.f k L s = some (c, P, G, St, s') ∧ s ≤ s' ∧ s' ≤ s + 449 ∧ smP P 4 ∧ G.length ≤ 3 ∧ St.length = 3 := by
 unfold spec_l21Plan.f
 obtain ⟨v, e1, v0, v1⟩ := pick_eq L hL hl s 4 k (by omega) h0 (by omega) (by omega)
 rw [e1]; simp only [Option.bind_some, if_true, bne_self_eq_false, Bool.false_eq_true, if_false]
 obtain ⟨P, t, e2, t0, t1, hP, hp⟩ := acts_eq L hL hl (s + 1) k (by omega) (by omega) (by omega)
 rw [e2]; simp only [Option.bind_some, if_true, bne_self_eq_false, Bool.false_eq_true, if_false]
 obtain ⟨u, e3, u0, u1⟩ := pick_eq L hL hl t 3 k (by omega) (by omega) (by omega) (by omega)
 rw [e3]; simp only [Option.bind_some, if_true, bne_self_eq_false, Bool.false_eq_true, if_false]
 obtain ⟨d, hd⟩ : ∃ d : Nat, wrap64 (1 + u) = (d : Int) := ⟨(1 + u).toNat, by rw [wrap_id (by omega) (by omega)]; omega⟩
 have hd2 : (d : Int) = 1 + u := by rw [← hd, wrap_id (by omega) (by omega)]
 rw [hd]
 obtain ⟨G, St, s', e, p, q, r, w⟩ := plan_gives L hL hl (wrap64 (1 + v)) P d k 0 [] (t + 1) (by omega) (by omega) (by omega) (by omega) (by simp)
 exact ⟨_, P, G, St, s', e, by omega, by omega, hP, r, w⟩
theorem anyPlan_eq (L : List Int) (hL : ∀ x ∈ L, (Lit.int .u8 x).wf = true) (hl : L.length ≤ 2000) (n : Int) (k : Nat) (hk : 2097700 < k) (hn : 1 ≤ n) :
  ∃ c P G St s', spec_l21AnyPlan.f k L 0 n = some (c, P, G, St, s') ∧ 0 ≤ s' ∧ s' ≤ 2000 ∧ smP P 5 ∧ G.length ≤ 6 ∧ St.length ≤ 3 := by
 unfold spec_l21AnyPlan.f
 obtain ⟨c, P, G, St, t, e1, t0, t1, hP, hG, hS⟩ := plan_eq L hL hl 0 k (by omega) (by omega) (by omega)
 rw [e1]; simp only [Option.bind_some, if_true, bne_self_eq_false, Bool.false_eq_true, if_false]
 obtain ⟨p, e2, p0, p1⟩ := pick_eq L hL hl t n k (by omega) (by omega) (by omega) hn
 rw [e2]; simp only [Option.bind_some, if_true, bne_self_eq_false, Bool.false_eq_true, if_false]
 by_cases c1 : p > 0
 ·rw [if_pos c1]; exact ⟨_, _, _, _, _, rfl, by omega, by omega, hP.mono (by omega), by omega, by omega⟩
 rw [if_neg c1]
 obtain ⟨u, e3, u0, u1⟩ := pick_eq L hL hl (t + 1) 5 k (by omega) (by omega) (by omega) (by omega)
 rw [e3]; simp only [Option.bind_some, if_true, bne_self_eq_false, Bool.false_eq_true, if_false]
 by_cases c2 : u = 0
 ·rw [if_pos c2]
  obtain ⟨v, e4, a1, b1⟩ := pick_eq L hL hl (t + 1 + 1) 3 k (by omega) (by omega) (by omega) (by omega)
  rw [e4]; simp only [Option.bind_some, if_true, bne_self_eq_false, Bool.false_eq_true, if_false]
  rw [if_pos a1, if_pos (by simpa using b1)]
  exact ⟨_, _, _, _, _, rfl, by omega, by omega, hP.mono (by omega), by omega, by omega⟩
 rw [if_neg c2]
 by_cases c3 : u = 1
 ·rw [if_pos c3]
  obtain ⟨Q, s3, e4, a3, b3, hQ⟩ := anyActs_eq L hL hl (t + 1 + 1) 1 k (by omega) (by omega) (by omega) (by omega)
  rw [e4]; simp only [Option.bind_some, if_true, bne_self_eq_false, Bool.false_eq_true, if_false]
  exact ⟨_, _, _, _, _, rfl, by omega, by omega, hQ, by omega, by omega⟩
 rw [if_neg c3]
 by_cases c4 : u = 2
 ·rw [if_pos c4]
  obtain ⟨v, e4, a1, b1⟩ := pick_eq L hL hl (t + 1 + 1) 4 k (by omega) (by omega) (by omega) (by omega)
  rw [e4]; simp only [Option.bind_some, if_true, bne_self_eq_false, Bool.false_eq_true, if_false]
  rw [if_pos a1, if_pos (by simpa using b1), if_pos (by simp; omega)]
  exact ⟨_, _, _, _, _, rfl, by omega, by omega, hP.mono (by omega), by simp; omega, by omega⟩
 rw [if_neg c4]
 by_cases c5 : u = 3
 ·rw [if_pos c5]
  obtain ⟨v, e4, a1, b1⟩ := pick_eq L hL hl (t + 1 + 1) 3 k (by omega) (by omega) (by omega) (by omega)
  rw [e4]; simp only [Option.bind_some, if_true, bne_self_eq_false, Bool.false_eq_true, if_false]
  rw [if_pos a1, if_pos (by simpa using b1), if_pos (by omega)]
  exact ⟨_, _, _, _, _, rfl, by omega, by omega, hP.mono (by omega), by omega, by rw [List.length_set]; omega⟩
 rw [if_neg c5, if_pos (by omega)]
 exact ⟨_, _, _, _, _, rfl, by omega, by omega, hP.mono (by omega), by omega, by rw [List.length_take]; omega⟩

theorem drawHome_eq (L : List Int) (hL : ∀ x ∈ L, (Lit.int .u8 x).wf = true) (k : Nat) (hk : 2097800 < k) : ∃ c P G St x, spec_DrawPlnHome.f k L = some (c, P, G, St, x) ∧ smP P 5 ∧ G.length ≤ 6 ∧ St.length ≤ 3 ∧ -1 ≤ x ∧ x ≤ 4 := by
 unfold spec_DrawPlnHome.f
 obtain ⟨M, e1, hM, hl⟩ := open_eq L hL
 rw [e1]; simp only [Option.bind_some, if_true, bne_self_eq_false, Bool.false_eq_true, if_false]
 obtain ⟨c, P, G, St, s1, e2, a, b, hP, hG, hS⟩ := anyPlan_eq M hM hl 8 k (by omega) (by omega)
 rw [e2]; simp only [Option.bind_some, if_true, bne_self_eq_false, Bool.false_eq_true, if_false]
 obtain ⟨v, e3, v0, v1⟩ := pick_eq M hM hl s1 6 k (by omega) (by omega) (by omega) (by omega)
 rw [e3]; simp only [Option.bind_some, if_true, bne_self_eq_false, Bool.false_eq_true, if_false]
 exact ⟨_, _, _, _, _, rfl, hP, hG, hS, by rw [wrap_id (by omega) (by omega)]; omega, by rw [wrap_id (by omega) (by omega)]; omega⟩

theorem FnPlnHome : laws_FnPlnHome.Pure := by
 intro L hL
 obtain ⟨k, hk⟩ : ∃ k : Nat, 4000000 < k := ⟨4000001, by omega⟩
 refine ⟨k + 2, ?_⟩
 unfold laws_FnPlnHome.f
 by_cases h1 : (L.length : Int) > 1048576
 ·rw [if_pos h1]
 rw [if_neg h1]
 obtain ⟨c, P, G, St, x, e, hP, hG, hS, x0, x1⟩ := drawHome_eq L hL.2 (k + 2) (by omega)
 rw [e]; simp only [Option.bind_some, if_true, bne_self_eq_false, Bool.false_eq_true, if_false]
 have hp1 := hP.1
 have hw : ∀ y ∈ P, (y.length : Int) ≤ 1048576 ∧ ∀ z ∈ y, (z.f3.f0.length : Int) ≤ 1048576 ∧ (z.f3.f1.length : Int) ≤ 1048576 := fun y hy => ⟨by have := (hP.2 y hy).1; omega, (hP.2 y hy).sz⟩
 have hw1 := fun y hy => (hw y hy).1
 have pq : ∀ m, 3145732 < m → spec_PlnOk.f m c P G St = some (plnB c P G St) := fun m hm => spec_Pln_eq c P G St m hm (by omega) (by omega) (by omega) hw
 rw [impl_Home_eq c P G St x hw1]; simp only [Option.bind_some, if_true, bne_self_eq_false, Bool.false_eq_true, if_false]
 rw [spec_Home_eq c P G St x (k + 2) (by omega) (by omega) (by omega) (by omega) hw]; simp only [Option.bind_some, if_true, bne_self_eq_false, Bool.false_eq_true, if_false]
 rw [impl_Pln_eq c P G St hw1]; simp only [Option.bind_some, if_true, bne_self_eq_false, Bool.false_eq_true, if_false]
 rw [pq (k + 2) (by omega)]; simp only [Option.bind_some, if_true, bne_self_eq_false, Bool.false_eq_true, if_false]
 simp only [laws_FnPlnHome.j0, bne_self_eq_false, Bool.false_eq_true, if_false]
 rw [pq (k + 1) (by omega)]; simp only [Option.bind_some, if_true, bne_self_eq_false, Bool.false_eq_true, if_false]
 have bad : homeF c P G St x = -1 → laws_FnPlnHome.j1 (k + 1) x (homeF c P G St x) true c P G St = some true := fun h => by
  simp only [laws_FnPlnHome.j1, if_true]
  rw [if_pos h, coHolds_eq]; rfl
 cases hB : plnB c P G St with
 | false =>
  simp only [Bool.false_eq_true, if_false]
  exact bad (by unfold homeF; rw [hB]; rfl)
 | true =>
  simp only [if_true]
  have ha : 1 ≤ c ∧ c ≤ 4 := by
   unfold plnB at hB
   simp only [Bool.and_eq_true] at hB
   exact ibB_iff.mp hB.1
  have hg : 0 < (G.length : Int) := by have := plnB_ne hB; omega
  have ew : wrap64 (c - 1) = c - 1 := wrap_id (by omega) (by omega)
  by_cases hx : x < 0
  ·rw [if_pos hx]
   exact bad (by unfold homeF; rw [if_pos hB, if_neg (by rw [ibB_iff]; omega)])
  rw [if_neg hx]
  by_cases hy : x ≥ c
  ·rw [decide_eq_true hy]
   exact bad (by unfold homeF; rw [if_pos hB, if_neg (by rw [ibB_iff, ew]; omega)])
  rw [decide_eq_false hy]
  have hn : ∀ y : Int, 0 ≤ y → y < c → homeF c P G St y = Int.tmod y (G.length : Int) := fun y a b => by
   unfold homeF
   rw [if_pos hB, if_pos (ibB_iff.mpr (by rw [ew]; omega))]
  rw [hn x (by omega) (by omega)]
  simp only [laws_FnPlnHome.j1, Bool.false_eq_true, if_false]
  have m0 := Int.tmod_nonneg (G.length : Int) (show 0 ≤ x by omega)
  have m1 := Int.tmod_lt_of_pos x hg
  rw [if_pos m0, if_pos m1]
  by_cases hz : x = 0
  ·subst hz
   rw [if_pos rfl, if_pos (by simp)]
  rw [if_neg hz, if_pos (by omega), show wrap64 (x - 1) = x - 1 from wrap_id (by omega) (by omega), impl_Home_eq c P G St (x - 1) hw1]; simp only [Option.bind_some, if_true, bne_self_eq_false, Bool.false_eq_true, if_false]
  rw [hn (x - 1) (by omega) (by omega), if_neg (by omega)]
  have n0 := Int.tmod_nonneg (G.length : Int) (show 0 ≤ x - 1 by omega)
  have n1 := Int.tmod_lt_of_pos (x - 1) hg
  have key : Int.tmod (wrap64 (Int.tmod (x - 1) (G.length : Int) + 1)) (G.length : Int) = Int.tmod x (G.length : Int) := by
   rw [wrap_id (by omega) (by omega), Int.tmod_eq_emod_of_nonneg (by omega), Int.tmod_eq_emod_of_nonneg (by omega), Int.tmod_eq_emod_of_nonneg (by omega), Int.emod_add_emod]
   congr 1
   omega
  rw [key]
  simp

end Go.Proofs.Ytgalnmgkcdmnkaa.Pure
