/- The plain law FnTrtKeeps: what the printed functions compute answers as the statement says. -/
import Derived.Test.YtcpaplcnebdocaaQFnTrtKeepsx20
import Derived.OpenShut
set_option linter.unusedVariables false
set_option linter.unusedSimpArgs false
namespace Go.Proofs.Ytcpaplcnebdocaa.Pure
open Go.RowKit Go.Proofs.Ytcpaplcnebdocaa.QFnTrtKeeps Go.Proofs.YtcpaplcnebdocaaW.PrintWords Go.Proofs.YtcpaplcnebdocaaW.PrintLast Go.Proofs.Ytcpaplcnebdocaa.HWords

theorem wrap_id {x : Int} (h0 : -9223372036854775808 ≤ x) (h1 : x ≤ 9223372036854775807) : wrap64 x = x := by unfold wrap64; omega
theorem wrap_l (x y : Int) : wrap64 (wrap64 x + y) = wrap64 (x + y) := by unfold wrap64; omega
theorem wrap_r (x y : Int) : wrap64 (x + wrap64 y) = wrap64 (x + y) := by unfold wrap64; omega
theorem getD_at (l : List Int) (i : Nat) (h : i < l.length) : rd l (i : Int) = l[i] := by
 unfold rd
 rw [show ((i : Int)).toNat = i from by omega, List.getD_eq_getElem?_getD, List.getElem?_eq_getElem h]
 rfl
def ibB (n lo hi : Int) : Bool := decide (lo ≤ n) && decide (n ≤ hi)
def okB (l : List Int) (n m : Int) : Bool := decide ((l.length : Int) = n) && l.all (fun x => ibB x (wrap64 (-m)) m)
theorem ibB_iff {n lo hi : Int} : ibB n lo hi = true ↔ lo ≤ n ∧ n ≤ hi := by unfold ibB; simp
theorem okB_iff {l : List Int} {n m : Int} : okB l n m = true ↔ (l.length : Int) = n ∧ ∀ x ∈ l, wrap64 (-m) ≤ x ∧ x ≤ m := by
 unfold okB ibB; simp

theorem l1In_eq (n lo hi : Int) : spec_l1In.f n lo hi = some (ibB n lo hi) := by
 unfold spec_l1In.f ibB
 by_cases h : n ≥ lo
 ·rw [if_pos h]; simp [h]
 ·rw [if_neg h]; simp [h]

theorem in_eq (n lo hi : Int) : impl_in.f n lo hi = some (ibB n lo hi) := by
 unfold impl_in.f ibB
 by_cases h : n ≥ lo
 ·rw [if_pos h]; simp [h]
 ·rw [if_neg h]; simp [h]

theorem within_eq (l : List Int) (n m : Int) : impl_within.f l n m = some (okB l n m) := by
 unfold impl_within.f okB
 rw [List.all_eq_not_any_not]
 rfl

theorem all_loop (l : List Int) (m : Int) (hl : l.length ≤ 1048576) (d : Nat) : ∀ (k i : Nat), i + d = l.length → d < k → spec_l1All.l0 k l m (i : Int) = some ((l.drop i).all fun x => ibB x (wrap64 (-m)) m) := by
 induction d with
 | zero =>
  intro k i hi hk
  obtain ⟨k, rfl⟩ : ∃ m, k = m + 1 := ⟨k - 1, by omega⟩
  simp only [spec_l1All.l0]
  rw [if_neg (by omega), List.drop_of_length_le (by omega)]
  rfl
 | succ d ih =>
  intro k i hi hk
  obtain ⟨k, rfl⟩ : ∃ m, k = m + 1 := ⟨k - 1, by omega⟩
  have hlt : i < l.length := by omega
  simp only [spec_l1All.l0]
  rw [if_pos (by omega), if_pos (by omega), l1In_eq, getD_at l i hlt, List.drop_eq_getElem_cons hlt, List.all_cons]
  simp only [Option.bind_some, if_true, bne_self_eq_false, Bool.false_eq_true, if_false]
  cases ibB l[i] (wrap64 (-m)) m with
  | false => rfl
  | true =>
   rw [if_pos rfl, wrap_id (by omega) (by omega), show (i : Int) + 1 = ((i + 1 : Nat) : Int) from by omega, ih k (i + 1) (by omega) (by omega)]
   rfl
theorem l1All_eq (l : List Int) (n m : Int) (k : Nat) (hk : l.length < k) (hl : l.length ≤ 1048576) : spec_l1All.f k l n m = some (okB l n m) := by
 unfold spec_l1All.f okB
 by_cases h : (l.length : Int) = n
 ·rw [if_pos h, decide_eq_true h, Bool.true_and]
  have := all_loop l m hl l.length k 0 (by omega) hk
  simpa using this
 ·rw [if_neg h, decide_eq_false h, Bool.false_and]

theorem spec_Val_eq (l : List Int) (k : Nat) (hk : l.length < k) (hl : l.length ≤ 1048576) : spec_ValOk.f k l = some (okB l 3 10000) := by
 unfold spec_ValOk.f
 rw [l1All_eq l _ _ k hk hl]; rfl

def frmB (C D : List Int) (K : Int) : Bool := okB C 3 10000000 && (okB D 2 10000000 && ibB K (-10000000) 10000000)

theorem spec_Frm_eq (C D : List Int) (K : Int) (k : Nat) (hc : C.length < k) (hd : D.length < k) (hc2 : C.length ≤ 1048576) (hd2 : D.length ≤ 1048576) : spec_FrmOk.f k C D K = some (frmB C D K) := by
 unfold spec_FrmOk.f frmB
 rw [l1All_eq C _ _ k hc hc2]; simp only [Option.bind_some, if_true, bne_self_eq_false, Bool.false_eq_true, if_false]
 cases okB C 3 10000000 with
 | false => rfl
 | true =>
  rw [if_pos rfl, l1All_eq D _ _ k hd hd2]; simp only [Option.bind_some, if_true, bne_self_eq_false, Bool.false_eq_true, if_false]
  cases okB D 2 10000000 with
  | false => rfl
  | true => rw [if_pos rfl, l1In_eq]; rfl

theorem spec_Zero_eq : spec_FrmZero.f = some ([0, 0, 0], [0, 0], 0) := rfl

def potF (v : Int) : List Int × List Int × Int := if v = 0 then ([1, 0, 0], [0, 0], 0) else if v = 1 then ([0, 1, 0], [0, 0], 0) else if v = 2 then ([0, 0, 1], [0, 0], 0) else ([], [], 0)
theorem spec_Pot_eq (v : Int) : spec_FrmPot.f v = some (potF v) := by
 unfold spec_FrmPot.f
 rw [l1In_eq]; simp only [Option.bind_some]
 by_cases h : ibB v 0 2 = true
 ·obtain ⟨h0, h1⟩ := ibB_iff.mp h
  rw [h]
  obtain rfl | rfl | rfl : v = 0 ∨ v = 1 ∨ v = 2 := by omega
  all_goals rfl
 ·rw [Bool.eq_false_iff.mpr h]
  have h' : ¬ (0 ≤ v ∧ v ≤ 2) := fun hh => h (ibB_iff.mpr hh)
  unfold potF
  rw [if_neg (by omega : ¬ v = 0), if_neg (by omega : ¬ v = 1), if_neg (by omega : ¬ v = 2)]
  rfl

theorem len3 {l : List Int} (h : (l.length : Int) = 3) : ∃ a b c, l = [a, b, c] := by
 match l, h with
 | [a, b, c], _ => exact ⟨a, b, c, rfl⟩
 | [], h => simp at h
 | [_], h => simp at h
 | [_, _], h => simp at h
 | _ :: _ :: _ :: _ :: _, h => simp at h; omega
theorem len2 {l : List Int} (h : (l.length : Int) = 2) : ∃ a b, l = [a, b] := by
 match l, h with
 | [a, b], _ => exact ⟨a, b, rfl⟩
 | [], h => simp at h
 | [_], h => simp at h
 | _ :: _ :: _ :: _, h => simp at h; omega
theorem okB_len {l : List Int} {n m : Int} (h : okB l n m = true) : (l.length : Int) = n := (okB_iff.mp h).1
theorem withinB_ok (l : List Int) (n m : Int) : withinB l n m = okB l n m := by
 unfold withinB okB
 rw [List.all_eq_not_any_not]
 rfl

theorem getDG {α : Type} (z : α) (l : List α) (i : Nat) (h : i < l.length) : l.getD ((i : Int)).toNat z = l[i] := by
 rw [show ((i : Int)).toNat = i from by omega, List.getD_eq_getElem?_getD, List.getElem?_eq_getElem h]
 rfl

theorem l4_loop (x y : List Int) (hl : x.length = y.length) (hm : x.length ≤ 1048576) (d : Nat) : ∀ (k i : Nat), i + d = x.length → d < k → (x.take i = y.take i) → spec_l4Same.l0 k x y (i : Int) = some (decide (x = y)) := by
 induction d with
 | zero =>
  intro k i hi hk he
  obtain ⟨k, rfl⟩ : ∃ m, k = m + 1 := ⟨k - 1, by omega⟩
  simp only [spec_l4Same.l0]
  rw [if_neg (by omega)]
  rw [List.take_of_length_le (by omega), List.take_of_length_le (by omega)] at he
  rw [decide_eq_true he]
 | succ d ih =>
  intro k i hi hk he
  obtain ⟨k, rfl⟩ : ∃ m, k = m + 1 := ⟨k - 1, by omega⟩
  have h1 : i < x.length := by omega
  have h2 : i < y.length := by omega
  simp only [spec_l4Same.l0]
  rw [if_pos (by omega), if_pos (by omega), if_pos (by omega), getD_at x i h1, getD_at y i h2]
  by_cases hq : x[i] = y[i]
  ·rw [if_pos hq, show wrap64 ((i : Int) + 1) = ((i + 1 : Nat) : Int) from by rw [wrap_id (by omega) (by omega)]; omega]
   exact ih k (i + 1) (by omega) (by omega) (by rw [List.take_succ_eq_append_getElem h1, List.take_succ_eq_append_getElem h2, he, hq])
  ·rw [if_neg hq, decide_eq_false (fun e => hq (by subst e; rfl))]
theorem l4_eq (x y : List Int) (k : Nat) (hk : x.length < k) (hm : x.length ≤ 1048576) : spec_l4Same.f k x y = some (decide (x = y)) := by
 unfold spec_l4Same.f
 by_cases h : x.length = y.length
 ·rw [if_pos (by omega)]
  exact l4_loop x y h hm x.length k 0 (by omega) hk rfl
 ·rw [if_neg (by omega), decide_eq_false (fun e => h (by rw [e]))]

theorem cathas_loop (l : List (List Int)) (p : List Int) (hl : l.length ≤ 1048576) (hw : ∀ x ∈ l, (x.length : Int) ≤ 1048576) (d : Nat) : ∀ (k i : Nat), i + d = l.length → d + 1048577 < k →
  (∀ j : Int, 0 ≤ j → j < (i : Int) → decide (l.getD j.toNat [] = p) = false) → spec_CatHas.l0 k l p (i : Int) = some (idxOf (fun x => decide (x = p)) l) := by
 induction d with
 | zero =>
  intro k i hi hk hn
  obtain ⟨k, rfl⟩ : ∃ m, k = m + 1 := ⟨k - 1, by omega⟩
  simp only [spec_CatHas.l0]
  rw [if_neg (by omega), idxOf_miss [] (fun j h0 h1 => hn j h0 (by omega))]
 | succ d ih =>
  intro k i hi hk hn
  obtain ⟨k, rfl⟩ : ∃ m, k = m + 1 := ⟨k - 1, by omega⟩
  have hlt : i < l.length := by omega
  have hx := hw _ (List.getElem_mem hlt)
  simp only [spec_CatHas.l0]
  rw [if_pos (by omega), if_pos (by omega), show rd_L2 l (i : Int) = l[i] from getDG [] l i hlt, l4_eq l[i] p k (by omega) (by omega)]
  simp only [Option.bind_some]
  by_cases hq : l[i] = p
  ·rw [if_pos (decide_eq_true hq), idxOf_hit [] (i : Int) (by omega) (by omega) (by rw [getDG [] l i hlt]; exact decide_eq_true hq) hn]
  ·rw [if_neg (by simp [hq]), show wrap64 ((i : Int) + 1) = ((i + 1 : Nat) : Int) from by rw [wrap_id (by omega) (by omega)]; omega]
   refine ih k (i + 1) (by omega) (by omega) (fun j h0 h1 => ?_)
   by_cases e : j = (i : Int)
   ·subst e; rw [getDG [] l i hlt]; exact decide_eq_false hq
   ·exact hn j h0 (by omega)
theorem spec_CatHas_eq (l : List (List Int)) (p : List Int) (k : Nat) (hk : 2097154 < k) (hl : (l.length : Int) ≤ 1048576) (hw : ∀ x ∈ l, (x.length : Int) ≤ 1048576) : spec_CatHas.f k l p = some (idxOf (fun x => decide (x = p)) l) :=
 cathas_loop l p (by omega) hw l.length k 0 (by omega) (by omega) (fun j h0 h1 => by omega)

def trtB (B G : List Int) : Bool := okB B 3 10000 && (ibB (G.length : Int) 1 3 && G.all fun x => ibB x 0 50)

theorem impl_TrtOk_eq (B G : List Int) : impl_TrtOk.f B G = some (trtB B G) := by
 unfold impl_TrtOk.f trtB
 rw [withinB_ok, List.all_eq_not_any_not]
 rfl

theorem trtok_loop (B l : List Int) (hl : l.length ≤ 1048576) (d : Nat) : ∀ (k i : Nat), i + d = l.length → d < k → spec_TrtOk.l0 k (i : Int) B l = some ((l.drop i).all fun x => ibB x 0 50) := by
 induction d with
 | zero =>
  intro k i hi hk
  obtain ⟨k, rfl⟩ : ∃ m, k = m + 1 := ⟨k - 1, by omega⟩
  simp only [spec_TrtOk.l0]
  rw [if_neg (by omega), List.drop_of_length_le (by omega)]
  rfl
 | succ d ih =>
  intro k i hi hk
  obtain ⟨k, rfl⟩ : ∃ m, k = m + 1 := ⟨k - 1, by omega⟩
  have hlt : i < l.length := by omega
  simp only [spec_TrtOk.l0]
  rw [if_pos (by omega), if_pos (by omega), l1In_eq, getD_at l i hlt, List.drop_eq_getElem_cons hlt, List.all_cons]
  simp only [Option.bind_some]
  cases ibB l[i] 0 50 with
  | false => rfl
  | true =>
   rw [if_pos rfl, show wrap64 ((i : Int) + 1) = ((i + 1 : Nat) : Int) from by rw [wrap_id (by omega) (by omega)]; omega, ih k (i + 1) (by omega) (by omega)]
   rfl
theorem spec_TrtOk_eq (B G : List Int) (k : Nat) (hB : B.length < k) (hG : G.length < k) (hB2 : B.length ≤ 1048576) (hG2 : G.length ≤ 1048576) : spec_TrtOk.f (k + 1) B G = some (trtB B G) := by
 unfold spec_TrtOk.f trtB
 rw [spec_Val_eq B (k + 1) (by omega) hB2, l1In_eq]; simp only [Option.bind_some]
 have hl := trtok_loop B G hG2 G.length k 0 (by omega) hG
 rw [List.drop_zero] at hl
 cases okB B 3 10000 with
 | false => rfl
 | true =>
  rw [if_pos rfl]
  cases ibB (G.length : Int) 1 3 with
  | false => rfl
  | true =>
   simp only [spec_TrtOk.j0]
   exact hl

theorem l1Sum_eq (a0 a1 a2 e0 e1 K c0 c1 c2 d0 d1 gK n : Int) (k : Nat) : spec_l1Sum.f (k + 7) [a0, a1, a2] [e0, e1] K [c0, c1, c2] [d0, d1] gK n =
  some ([wrap64 (a0 + wrap64 (n * c0)), wrap64 (a1 + wrap64 (n * c1)), wrap64 (a2 + wrap64 (n * c2))], [wrap64 (e0 + wrap64 (n * d0)), wrap64 (e1 + wrap64 (n * d1))], wrap64 (K + wrap64 (n * gK))) := by
 have w1 : wrap64 (0 + 1) = 1 := by unfold wrap64; omega
 have w2 : wrap64 (1 + 1) = 2 := by unfold wrap64; omega
 have w3 : wrap64 (2 + 1) = 3 := by unfold wrap64; omega
 unfold spec_l1Sum.f
 rw [spec_Zero_eq]
 simp only [Option.bind_some, spec_l1Sum.l0, spec_l1Sum.l1, w1, w2, w3]
 simp [rd]

def partsB (P : List (List Int)) : Bool := P.all fun p => okB p 3 10000000
theorem partsB_len {P : List (List Int)} (h : partsB P = true) : ∀ p ∈ P, p.length = 3 := fun p hp => by
 have := okB_len (List.all_eq_true.mp h p hp)
 omega

theorem impl_Parts_eq (P : List (List Int)) : impl_partsOk.f P = some (partsB P) := by
 unfold impl_partsOk.f partsB
 rw [List.all_eq_not_any_not]
 simp only [withinB_ok]

theorem parts_loop (l : List (List Int)) (hl : l.length ≤ 1048576) (hw : ∀ x ∈ l, (x.length : Int) ≤ 1048576) (d : Nat) : ∀ (k i : Nat), i + d = l.length → d + 1048577 < k → spec_l5Parts.l0 k l (i : Int) = some (partsB (l.drop i)) := by
 induction d with
 | zero =>
  intro k i hi hk
  obtain ⟨k, rfl⟩ : ∃ m, k = m + 1 := ⟨k - 1, by omega⟩
  simp only [spec_l5Parts.l0]
  rw [if_neg (by omega), List.drop_of_length_le (by omega)]
  rfl
 | succ d ih =>
  intro k i hi hk
  obtain ⟨k, rfl⟩ : ∃ m, k = m + 1 := ⟨k - 1, by omega⟩
  have hlt : i < l.length := by omega
  have hx := hw _ (List.getElem_mem hlt)
  simp only [spec_l5Parts.l0]
  rw [if_pos (by omega), if_pos (by omega), show rd_L2 l (i : Int) = l[i] from getDG [] l i hlt, l1All_eq l[i] _ _ k (by omega) (by omega), List.drop_eq_getElem_cons hlt]
  simp only [Option.bind_some, partsB, List.all_cons]
  cases okB l[i] 3 10000000 with
  | false => rfl
  | true =>
   rw [if_pos rfl, show wrap64 ((i : Int) + 1) = ((i + 1 : Nat) : Int) from by rw [wrap_id (by omega) (by omega)]; omega, ih k (i + 1) (by omega) (by omega), Bool.true_and]
   rfl
theorem spec_Parts_eq (l : List (List Int)) (k : Nat) (hk : 2097154 < k) (hl : (l.length : Int) ≤ 1048576) (hw : ∀ x ∈ l, (x.length : Int) ≤ 1048576) : spec_l5Parts.f k l = some (partsB l) := by
 unfold spec_l5Parts.f
 have := parts_loop l (by omega) hw l.length k 0 (by omega) (by omega)
 simpa using this

def preB (B G : List Int) (P : List (List Int)) (s : Int) (A : List Int) : Bool := trtB B G && (partsB P && (ibB s 0 (wrap64 ((G.length : Int) - 1)) && okB A 3 20000))
theorem preB_facts {B G : List Int} {P : List (List Int)} {s : Int} {A : List Int} (hG : G.length ≤ 1048576) (h : preB B G P s A = true) : (∀ p ∈ P, p.length = 3) ∧ 0 ≤ s ∧ s < (G.length : Int) ∧ A.length = 3 := by
 unfold preB at h
 simp only [Bool.and_eq_true] at h
 obtain ⟨_, h2, h3, h4⟩ := h
 obtain ⟨h5, h6⟩ := ibB_iff.mp h3
 have h7 := okB_len h4
 rw [wrap_id (by omega) (by omega)] at h6
 exact ⟨partsB_len h2, h5, by omega, by omega⟩

def keepsB (B G : List Int) (P : List (List Int)) (s : Int) (A : List Int) : Bool := preB B G P s A && P.all fun p => ibB (dot3 p A) (wrap64 (-(rd G s))) (rd G s)

theorem impl_added_eq (l : List Int) : impl_addedOk.f l = some (okB l 3 20000) := by
 unfold impl_addedOk.f
 rw [within_eq]; rfl
theorem impl_ok_eq (B G : List Int) (P : List (List Int)) (s : Int) (A : List Int) : impl_TrtTreaty_ok.f B G P s A = some (preB B G P s A) := by
 unfold impl_TrtTreaty_ok.f preB
 rw [impl_TrtOk_eq]; simp only [Option.bind_some]
 cases trtB B G with
 | false => rfl
 | true =>
  rw [if_pos rfl, impl_Parts_eq]; simp only [Option.bind_some]
  cases partsB P with
  | false => rfl
  | true =>
   rw [if_pos rfl, in_eq]; simp only [Option.bind_some]
   cases ibB s 0 (wrap64 ((G.length : Int) - 1)) with
   | false => rfl
   | true => rw [if_pos rfl, impl_added_eq]; rfl

theorem impl_Keeps_eq (B G : List Int) (P : List (List Int)) (s : Int) (A : List Int) (hG : G.length ≤ 1048576) : impl_TrtKeeps.f B G P s A = some (keepsB B G P s A) := by
 unfold impl_TrtKeeps.f keepsB
 rw [impl_ok_eq]; simp only [Option.bind_some]
 cases h : preB B G P s A with
 | false => rfl
 | true =>
  obtain ⟨h1, h2, h3, h4⟩ := preB_facts hG h
  rw [if_pos rfl, if_pos ⟨h4, h1, h2, h3⟩, List.all_eq_not_any_not]
  rfl

theorem l5Times_eq (p a : List Int) (hp : p.length = 3) (ha : a.length = 3) (k : Nat) (hk : 4 ≤ k) : spec_l5Times.f k p a = some (dot3 p a) := by
 obtain ⟨k, rfl⟩ : ∃ m, k = m + 4 := ⟨k - 4, by omega⟩
 have w1 : wrap64 (0 + 1) = 1 := by unfold wrap64; omega
 have w2 : wrap64 (1 + 1) = 2 := by unfold wrap64; omega
 have w3 : wrap64 (2 + 1) = 3 := by unfold wrap64; omega
 have q0 : (0 : Int) < 3 := by decide
 have q1 : (1 : Int) < 3 := by decide
 have q2 : (2 : Int) < 3 := by decide
 have q3 : ¬ ((3 : Int) < 3) := by decide
 have z1 : (0 : Int) ≤ 1 := by decide
 have z2 : (0 : Int) ≤ 2 := by decide
 unfold spec_l5Times.f dot3
 simp only [spec_l5Times.l0, hp, ha, w1, w2, w3, show ((3 : Nat) : Int) = 3 from rfl, q0, q1, q2, q3, z1, z2, Int.le_refl, if_true, if_false]
theorem keeps_loop (B G : List Int) (l : List (List Int)) (s : Int) (A : List Int) (hl : l.length ≤ 1048576) (hp : ∀ p ∈ l, p.length = 3) (hA : A.length = 3) (s0 : 0 ≤ s) (s1 : s < (G.length : Int)) (d : Nat) : ∀ (k i : Nat), i + d = l.length → d + 10 < k →
  spec_TrtKeeps.l0 k l s A (i : Int) B G = some ((l.drop i).all fun p => ibB (dot3 p A) (wrap64 (-(rd G s))) (rd G s)) := by
 induction d with
 | zero =>
  intro k i hi hk
  obtain ⟨k, rfl⟩ : ∃ m, k = m + 1 := ⟨k - 1, by omega⟩
  simp only [spec_TrtKeeps.l0]
  rw [if_neg (by omega), List.drop_of_length_le (by omega)]
  rfl
 | succ d ih =>
  intro k i hi hk
  obtain ⟨k, rfl⟩ : ∃ m, k = m + 1 := ⟨k - 1, by omega⟩
  have hlt : i < l.length := by omega
  have hx := hp _ (List.getElem_mem hlt)
  simp only [spec_TrtKeeps.l0]
  rw [if_pos (by omega), if_pos (by omega), show rd_L2 l (i : Int) = l[i] from getDG [] l i hlt, l5Times_eq l[i] A hx hA k (by omega), List.drop_eq_getElem_cons hlt, List.all_cons]
  simp only [Option.bind_some]
  rw [if_pos s0, if_pos s1, l1In_eq]
  simp only [Option.bind_some]
  cases ibB (dot3 l[i] A) (wrap64 (-(rd G s))) (rd G s) with
  | false => rfl
  | true =>
   rw [if_pos rfl, show wrap64 ((i : Int) + 1) = ((i + 1 : Nat) : Int) from by rw [wrap_id (by omega) (by omega)]; omega, ih k (i + 1) (by omega) (by omega)]
   rfl
theorem spec_Keeps_eq (B G : List Int) (P : List (List Int)) (s : Int) (A : List Int) (k : Nat) (hk : 4000000 < k) (hB : B.length ≤ 1048576) (hG : G.length ≤ 1048576) (hP : (P.length : Int) ≤ 1048576) (hw : ∀ x ∈ P, (x.length : Int) ≤ 1048576) (hA : A.length ≤ 1048576) :
  spec_TrtKeeps.f k B G P s A = some (keepsB B G P s A) := by
 obtain ⟨k, rfl⟩ : ∃ m, k = m + 1 := ⟨k - 1, by omega⟩
 have hj : ∀ b : List Int × List Int, spec_TrtKeeps.j0 (k + 1) P s A true B G = some false := fun _ => by simp [spec_TrtKeeps.j0]
 unfold spec_TrtKeeps.f keepsB
 rw [spec_TrtOk_eq B G k (by omega) (by omega) hB hG]; simp only [Option.bind_some]
 cases ht : trtB B G with
 | false => rw [if_neg (by decide), hj ([], [])]; simp [preB, ht]
 | true =>
  rw [if_pos rfl, spec_Parts_eq P _ (by omega) hP hw]; simp only [Option.bind_some]
  cases hp : partsB P with
  | false => rw [if_neg (by decide), hj ([], [])]; simp [preB, hp]
  | true =>
   rw [if_pos rfl, l1In_eq]; simp only [Option.bind_some]
   cases hs : ibB s 0 (wrap64 ((G.length : Int) - 1)) with
   | false => rw [if_neg (by decide), hj ([], [])]; simp [preB, hs]
   | true =>
    rw [if_pos rfl, l1All_eq A _ _ _ (by omega) hA]; simp only [Option.bind_some]
    cases ha : okB A 3 20000 with
    | false => rw [Bool.not_false, hj ([], [])]; simp [preB, ha]
    | true =>
     have hpre : preB B G P s A = true := by simp [preB, ht, hp, hs, ha]
     obtain ⟨h1, h2, h3, h4⟩ := preB_facts hG hpre
     simp only [spec_TrtKeeps.j0, Bool.not_true, Bool.false_eq_true, if_false, hpre, Bool.true_and]
     have := keeps_loop B G P s A (by omega) h1 h4 h2 h3 P.length k 0 (by omega) (by omega)
     simpa using this

def smallB (C D : List Int) (K : Int) : Bool := okB C 3 2 && (okB D 2 2 && ibB K (-20) 20)
def lineB (a b c : Int) (C D : List Int) (K : Int) : Bool :=
 if a = 1 then decide (b = 0) && (ibB c 1 6 && smallB C D K)
 else if a = 2 then ibB b 0 2 && (decide (c = 0) && smallB C D K)
 else if a = 3 then decide (b = 0) && (decide (c = 0) && smallB C D K)
 else if a = 4 then decide (b = 0) && (decide (c = 0) && (decide (C = []) && (decide (D = []) && decide (K = 0))))
 else false

theorem spec_small_eq (C D : List Int) (K : Int) (k : Nat) (hc : C.length < k) (hd : D.length < k) (hc2 : C.length ≤ 1048576) (hd2 : D.length ≤ 1048576) : spec_l2Small.f k C D K = some (smallB C D K) := by
 unfold spec_l2Small.f smallB
 rw [l1All_eq C _ _ k hc hc2]; simp only [Option.bind_some, if_true, bne_self_eq_false, Bool.false_eq_true, if_false]
 cases okB C 3 2 with
 | false => rfl
 | true =>
  rw [if_pos rfl, l1All_eq D _ _ k hd hd2]; simp only [Option.bind_some, if_true, bne_self_eq_false, Bool.false_eq_true, if_false]
  cases okB D 2 2 with
  | false => rfl
  | true => rw [if_pos rfl, l1In_eq]; rfl
theorem spec_line_eq (a b c : Int) (C D : List Int) (K : Int) (k : Nat) (hc : C.length < k) (hd : D.length < k) (hc2 : C.length ≤ 1048576) (hd2 : D.length ≤ 1048576) : spec_l2Line.f k a b c C D K = some (lineB a b c C D K) := by
 unfold spec_l2Line.f lineB
 simp only [spec_small_eq C D K k hc hd hc2 hd2, l1In_eq, Option.bind_some]
 by_cases h1 : a = 1
 ·rw [if_pos h1, if_pos h1]
  by_cases hb : b = 0
  ·rw [if_pos hb, decide_eq_true hb, Bool.true_and]; cases ibB c 1 6 <;> rfl
  ·rw [if_neg hb, decide_eq_false hb, Bool.false_and]
 rw [if_neg h1, if_neg h1]
 by_cases h2 : a = 2
 ·rw [if_pos h2, if_pos h2]
  by_cases hb : c = 0
  ·rw [if_pos hb, decide_eq_true hb, Bool.true_and]; cases ibB b 0 2 <;> rfl
  ·rw [if_neg hb, decide_eq_false hb, Bool.false_and]; cases ibB b 0 2 <;> rfl
 rw [if_neg h2, if_neg h2]
 by_cases h3 : a = 3
 ·rw [if_pos h3, if_pos h3]
  by_cases hb : b = 0
  ·rw [if_pos hb, decide_eq_true hb, Bool.true_and]
   by_cases hc : c = 0
   ·rw [if_pos hc, decide_eq_true hc, Bool.true_and]
   ·rw [if_neg hc, decide_eq_false hc, Bool.false_and]
  ·rw [if_neg hb, decide_eq_false hb, Bool.false_and]
 rw [if_neg h3, if_neg h3]
 by_cases h4 : a = 4
 ·rw [if_pos h4, if_pos h4]
  by_cases hb : b = 0
  ·rw [if_pos hb, decide_eq_true hb, Bool.true_and]
   by_cases hc : c = 0
   ·rw [if_pos hc, decide_eq_true hc, Bool.true_and, wrap_id (by omega) (by omega)]
    by_cases hC : C = []
    ·by_cases hD : D = []
     ·subst hC; subst hD; rw [if_pos (by rfl)]; by_cases hK : K = 0 <;> simp [hK]
     ·have : 0 < D.length := List.length_pos_iff.mpr hD
      rw [if_neg (by omega)]; simp [hD]
    ·have : 0 < C.length := List.length_pos_iff.mpr hC
     rw [if_neg (by omega)]; simp [hC]
   ·rw [if_neg hc, decide_eq_false hc, Bool.false_and]
  ·rw [if_neg hb, decide_eq_false hb, Bool.false_and]
 rw [if_neg h4, if_neg h4]

def lnB (x : S100) : Bool := lineB x.f0 x.f1 x.f2 x.f3.f0 x.f3.f1 x.f3.f2
def actG : List S100 → Int → Int → Bool
 | [], t, n => decide (n ≤ 6) && decide (t ≤ 3)
 | x :: xs, t, n => lnB x && actG xs (if x.f0 = 1 then wrap64 (t + 1) else t) n
def actB (l : List S100) : Bool := actG l 0 (l.length : Int)

theorem spec_act_loop (l : List S100) (hl : l.length ≤ 1048576) (hw : ∀ x ∈ l, (x.f3.f0.length : Int) ≤ 1048576 ∧ (x.f3.f1.length : Int) ≤ 1048576) (d : Nat) : ∀ (k i : Nat) (t : Int), i + d = l.length → d + 1048577 < k →
  spec_ActOk.l0 k l t (i : Int) = some (actG (l.drop i) t (l.length : Int)) := by
 induction d with
 | zero =>
  intro k i t hi hk
  obtain ⟨k, rfl⟩ : ∃ m, k = m + 1 := ⟨k - 1, by omega⟩
  simp only [spec_ActOk.l0]
  rw [if_neg (by omega), List.drop_of_length_le (by omega)]
  by_cases h : (l.length : Int) ≤ 6
  ·rw [if_pos h]; simp only [actG]; rw [decide_eq_true h, Bool.true_and]
  ·rw [if_neg h]; simp only [actG]; rw [decide_eq_false h, Bool.false_and]
 | succ d ih =>
  intro k i t hi hk
  obtain ⟨k, rfl⟩ : ∃ m, k = m + 1 := ⟨k - 1, by omega⟩
  have hlt : i < l.length := by omega
  have hx := hw _ (List.getElem_mem hlt)
  simp only [spec_ActOk.l0]
  rw [if_pos (by omega), if_pos (by omega), show rd_T100 l (i : Int) = l[i] from getDG z100 l i hlt, spec_line_eq l[i].f0 l[i].f1 l[i].f2 l[i].f3.f0 l[i].f3.f1 l[i].f3.f2 k (by omega) (by omega) (by omega) (by omega), List.drop_eq_getElem_cons hlt]
  simp only [Option.bind_some, actG]
  show _ = some (lineB l[i].f0 l[i].f1 l[i].f2 l[i].f3.f0 l[i].f3.f1 l[i].f3.f2 && _)
  cases lineB l[i].f0 l[i].f1 l[i].f2 l[i].f3.f0 l[i].f3.f1 l[i].f3.f2 with
  | false => rfl
  | true =>
   rw [if_pos rfl, Bool.true_and, show wrap64 ((i : Int) + 1) = ((i + 1 : Nat) : Int) from by rw [wrap_id (by omega) (by omega)]; omega]
   by_cases h1 : l[i].f0 = 1
   ·rw [if_pos h1, if_pos h1]; exact ih k (i + 1) _ (by omega) (by omega)
   ·rw [if_neg h1, if_neg h1]; exact ih k (i + 1) _ (by omega) (by omega)
theorem spec_Act_eq (l : List S100) (k : Nat) (hk : 2097154 < k) (hl : (l.length : Int) ≤ 1048576) (hw : ∀ x ∈ l, (x.f3.f0.length : Int) ≤ 1048576 ∧ (x.f3.f1.length : Int) ≤ 1048576) : spec_ActOk.f k l = some (actB l) := by
 unfold spec_ActOk.f actB
 have := spec_act_loop l (by omega) hw l.length k 0 0 (by omega) (by omega)
 simpa using this

def catSgn (s x : Int) : Int := if s = 0 then (if x > 0 then 1 else if x < 0 then -1 else 0) else s
def catL : Int → List Int → List Int
 | _, [] => []
 | s, x :: xs => wrap64 (catSgn s x * x) :: catL (catSgn s x) xs
theorem spec_part_loop (C D : List Int) (K : Int) (hC : C.length ≤ 1048576) (d : Nat) : ∀ (k i : Nat) (out : List Int) (s : Int), i + d = C.length → 2 * d < k → out.length = i →
  spec_CatPart.l0 k out s (i : Int) C D K = some (out ++ catL s (C.drop i)) := by
 induction d with
 | zero =>
  intro k i out s hi hk ho
  obtain ⟨k, rfl⟩ : ∃ m, k = m + 1 := ⟨k - 1, by omega⟩
  simp only [spec_CatPart.l0]
  rw [if_neg (by omega), List.drop_of_length_le (by omega)]
  simp [catL]
 | succ d ih =>
  intro k i out s hi hk ho
  obtain ⟨k, rfl⟩ : ∃ m, k = m + 2 := ⟨k - 2, by omega⟩
  have hlt : i < C.length := by omega
  have hw : wrap64 ((i : Int) + 1) = ((i + 1 : Nat) : Int) := by rw [wrap_id (by omega) (by omega)]; omega
  have step : ∀ (k : Nat) (s' : Int), 2 * d < k → catSgn s C[i] = s' → spec_CatPart.l0 k (out ++ [wrap64 (s' * C[i])]) s' ((i + 1 : Nat) : Int) C D K = some (out ++ catL s (C.drop i)) := by
   intro k s' hk' hs
   rw [ih k (i + 1) _ s' (by omega) hk' (by simp; omega), List.drop_eq_getElem_cons hlt]
   simp only [catL]
   rw [hs, List.append_assoc]
   rfl
  simp only [spec_CatPart.l0, spec_CatPart.j1]
  rw [getD_at C i hlt, hw]
  by_cases h0 : s = 0
  ·subst h0
   simp only [show (i : Int) < (C.length : Int) from by omega, show (0 : Int) ≤ (i : Int) from by omega, show out.length < 17592186044416 from by omega, if_true, show ¬ ((1 : Int) = 0) from by decide, if_false]
   by_cases h1 : C[i] > 0
   ·rw [if_pos (decide_eq_true h1)]
    have h9 := step k 1 (by omega) (by unfold catSgn; rw [if_pos rfl, if_pos h1])
    rw [Int.one_mul] at h9
    exact h9
   ·rw [if_neg (by rw [decide_eq_false h1]; decide)]
    by_cases h2 : C[i] < 0
    ·rw [if_pos h2]
     have h9 := step k (-1) (by omega) (by unfold catSgn; rw [if_pos rfl, if_neg h1, if_pos h2])
     rw [show (-1 : Int) * C[i] = -C[i] from by omega] at h9
     exact h9
    ·rw [if_neg h2]
     exact step k 0 (by omega) (by unfold catSgn; rw [if_pos rfl, if_neg h1, if_neg h2])
  ·simp only [show (i : Int) < (C.length : Int) from by omega, show (0 : Int) ≤ (i : Int) from by omega, show out.length < 17592186044416 from by omega, if_true, h0, if_false, Bool.false_eq_true]
   exact step k s (by omega) (by unfold catSgn; rw [if_neg h0])
def catB (l : List (List S100)) : Bool := ibB (l.length : Int) 1 4 && l.all actB

theorem spec_cat_loop (l : List (List S100)) (hl : l.length ≤ 1048576) (hw : ∀ y ∈ l, (y.length : Int) ≤ 1048576 ∧ ∀ x ∈ y, (x.f3.f0.length : Int) ≤ 1048576 ∧ (x.f3.f1.length : Int) ≤ 1048576) (d : Nat) : ∀ (k i : Nat), i + d = l.length → d + 2097155 < k →
  spec_CatOk.l0 k l (i : Int) = some ((l.drop i).all actB) := by
 induction d with
 | zero =>
  intro k i hi hk
  obtain ⟨k, rfl⟩ : ∃ m, k = m + 1 := ⟨k - 1, by omega⟩
  simp only [spec_CatOk.l0]
  rw [if_neg (by omega), List.drop_of_length_le (by omega)]
  rfl
 | succ d ih =>
  intro k i hi hk
  obtain ⟨k, rfl⟩ : ∃ m, k = m + 1 := ⟨k - 1, by omega⟩
  have hlt : i < l.length := by omega
  have hx := hw _ (List.getElem_mem hlt)
  simp only [spec_CatOk.l0]
  rw [if_pos (by omega), if_pos (by omega), show rd_L5 l (i : Int) = l[i] from getDG [] l i hlt, spec_Act_eq l[i] k (by omega) hx.1 hx.2, List.drop_eq_getElem_cons hlt, List.all_cons]
  simp only [Option.bind_some]
  cases actB l[i] with
  | false => rfl
  | true =>
   rw [if_pos rfl, show wrap64 ((i : Int) + 1) = ((i + 1 : Nat) : Int) from by rw [wrap_id (by omega) (by omega)]; omega, ih k (i + 1) (by omega) (by omega)]
   rfl
theorem spec_Cat_eq (l : List (List S100)) (k : Nat) (hk : 3145732 < k) (hl : (l.length : Int) ≤ 1048576) (hw : ∀ y ∈ l, (y.length : Int) ≤ 1048576 ∧ ∀ x ∈ y, (x.f3.f0.length : Int) ≤ 1048576 ∧ (x.f3.f1.length : Int) ≤ 1048576) : spec_CatOk.f k l = some (catB l) := by
 unfold spec_CatOk.f catB
 rw [l1In_eq]; simp only [Option.bind_some]
 cases ibB (l.length : Int) 1 4 with
 | false => rfl
 | true =>
  rw [if_pos rfl, Bool.true_and]
  have := spec_cat_loop l (by omega) hw l.length k 0 (by omega) (by omega)
  simpa using this

theorem bd8 {x : Int} (h : (Lit.int .u8 x).wf = true) : 0 ≤ x ∧ x ≤ 255 := bounds_u8 h
theorem rd8 (L : List Int) (hL : ∀ x ∈ L, (Lit.int .u8 x).wf = true) (i : Int) (h0 : 0 ≤ i) (h1 : i < (L.length : Int)) : 0 ≤ rd L i ∧ rd L i ≤ 255 := by
 obtain ⟨n, rfl⟩ := Int.eq_ofNat_of_zero_le h0
 have hn : n < L.length := by omega
 rw [getD_at L n hn]
 exact bd8 (hL _ (List.getElem_mem hn))
theorem xor_nonneg (x y : Int) (h0 : 0 ≤ x) (h1 : x < 4611686018427387904) (h2 : 0 ≤ y) (h3 : y < 4611686018427387904) : 0 ≤ Go.bits .xor .i64 x y := by
 obtain ⟨a, rfl⟩ := Int.eq_ofNat_of_zero_le h0
 obtain ⟨b, rfl⟩ := Int.eq_ofNat_of_zero_le h2
 have ha : a < 2 ^ 62 := by omega
 have hb : b < 2 ^ 62 := by omega
 have hx := Nat.xor_lt_two_pow ha hb
 have ha' : a % 2 ^ IntKind.i64.bits = a := Nat.mod_eq_of_lt (Nat.lt_of_lt_of_le ha (by decide))
 have hb' : b % 2 ^ IntKind.i64.bits = b := Nat.mod_eq_of_lt (Nat.lt_of_lt_of_le hb (by decide))
 simp only [Go.bits, BitVec.ofInt_natCast, BitVec.toNat_xor, BitVec.toNat_ofNat, ha', hb']
 rw [IntKind.wrap_i64]
 omega
theorem pick_eq (L : List Int) (hL : ∀ x ∈ L, (Lit.int .u8 x).wf = true) (hl : L.length ≤ 2000) (s n : Int) (k : Nat) (hk : 1 ≤ k) (h0 : 0 ≤ s) (h1 : s ≤ 1000000) (hn : 1 ≤ n) : ∃ v, spec_l20Rd_pick.f k L s n = some (v, s + 1) ∧ 0 ≤ v ∧ v < n := by
 obtain ⟨k, rfl⟩ : ∃ m, k = m + 1 := ⟨k - 1, by omega⟩
 have e1 : wrap64 (s + 1) = s + 1 := wrap_id (by omega) (by omega)
 have e2 : wrap64 (s + 1 - 1) = s := by rw [wrap_id (by omega) (by omega)]; omega
 unfold spec_l20Rd_pick.f
 rw [if_neg (by omega)]
 simp only [spec_l20Rd_pick.j0, e1, e2]
 by_cases hz : (L.length : Int) = 0
 ·rw [if_pos (beq_iff_eq.mpr hz)]
  exact ⟨0, rfl, by omega, by omega⟩
 rw [if_neg (by rw [beq_eq_false_iff_ne.mpr hz]; decide)]
 have hp : 0 < (L.length : Int) := by omega
 by_cases hs : s < (L.length : Int)
 ·have := rd8 L hL s h0 hs
  rw [if_pos hs, if_pos h0, if_neg (by omega), wrap_id (by omega) (by omega)]
  exact ⟨_, rfl, Int.tmod_nonneg _ this.1, Int.tmod_lt_of_pos _ (by omega)⟩
 ·rw [if_neg hs, if_neg hz]
  have i1 : 0 ≤ Int.tmod s (L.length : Int) := Int.tmod_nonneg _ h0
  have i2 : Int.tmod s (L.length : Int) < (L.length : Int) := Int.tmod_lt_of_pos _ hp
  have e3 : wrap64 (wrap64 (s * 7) + 3) = s * 7 + 3 := by rw [wrap_id (x := s * 7) (by omega) (by omega), wrap_id (by omega) (by omega)]
  rw [e3]
  have j1 : 0 ≤ Int.tmod (s * 7 + 3) (L.length : Int) := Int.tmod_nonneg _ (by omega)
  have j2 : Int.tmod (s * 7 + 3) (L.length : Int) < (L.length : Int) := Int.tmod_lt_of_pos _ hp
  have ra := rd8 L hL _ i1 i2
  have rb := rd8 L hL _ j1 j2
  have q1 : 0 ≤ Int.tdiv s (L.length : Int) := Int.tdiv_nonneg h0 (by omega)
  have q2 : Int.tdiv s (L.length : Int) ≤ s := Int.tdiv_le_self _ h0
  rw [if_pos i1, if_pos i2, if_pos j1, if_pos j2, if_neg (by omega)]
  generalize rd L (Int.tmod s (L.length : Int)) = a at ra ⊢
  generalize rd L (Int.tmod (s * 7 + 3) (L.length : Int)) = b at rb ⊢
  generalize Int.tdiv s (L.length : Int) = q at q1 q2 ⊢
  have ex : wrap64 (wrap64 (wrap64 (wrap64 (wrap64 a * 131) + wrap64 (wrap64 b * 1117)) + wrap64 (s * 29)) + wrap64 (wrap64 q * 53)) = a * 131 + b * 1117 + s * 29 + q * 53 := by
   rw [wrap_id (x := a) (by omega) (by omega), wrap_id (x := b) (by omega) (by omega), wrap_id (x := q) (by omega) (by omega), wrap_id (x := a * 131) (by omega) (by omega), wrap_id (x := b * 1117) (by omega) (by omega), wrap_id (x := s * 29) (by omega) (by omega), wrap_id (x := q * 53) (by omega) (by omega),
    wrap_id (x := a * 131 + b * 1117) (by omega) (by omega), wrap_id (x := a * 131 + b * 1117 + s * 29) (by omega) (by omega), wrap_id (by omega) (by omega)]
  rw [ex]
  generalize hX : a * 131 + b * 1117 + s * 29 + q * 53 = X
  have x1 : 0 ≤ X := by omega
  have x2 : X ≤ 1000000000 := by omega
  have y1 : 0 ≤ Int.tdiv X 64 := Int.tdiv_nonneg x1 (by omega)
  have y2 : Int.tdiv X 64 ≤ X := Int.tdiv_le_self _ x1
  rw [wrap_id (x := Int.tdiv X 64) (by omega) (by omega)]
  exact ⟨_, rfl, Int.tmod_nonneg _ (xor_nonneg _ _ x1 (by omega) y1 (by omega)), Int.tmod_lt_of_pos _ (by omega)⟩

theorem open_eq (L : List Int) (hL : ∀ x ∈ L, (Lit.int .u8 x).wf = true) : ∃ M, spec_l20Open.f L = some (M, 0) ∧ (∀ x ∈ M, (Lit.int .u8 x).wf = true) ∧ M.length ≤ 2000 := by
 unfold spec_l20Open.f
 by_cases h : (L.length : Int) > 2000
 ·rw [if_pos h, if_pos (by omega)]
  exact ⟨_, rfl, fun x hx => hL x (List.mem_of_mem_take hx), by rw [List.length_take]; omega⟩
 ·rw [if_neg h]
  exact ⟨_, rfl, hL, by omega⟩

def smallL (l : List Int) (m : Nat) (b : Int) : Prop := l.length ≤ m ∧ ∀ x ∈ l, -b ≤ x ∧ x ≤ b
theorem rd_mem (l : List Int) (i : Int) (h0 : 0 ≤ i) (h1 : i < (l.length : Int)) : rd l i ∈ l := by
 obtain ⟨n, rfl⟩ := Int.eq_ofNat_of_zero_le h0
 have hn : n < l.length := by omega
 rw [getD_at l n hn]
 exact List.getElem_mem hn
theorem smallL.push {l : List Int} {m : Nat} {b x : Int} (h : smallL l m b) (h0 : -b ≤ x) (h1 : x ≤ b) : smallL (l ++ [x]) (m + 1) b :=
 ⟨by rw [List.length_append]; have := h.1; simp; omega, fun y hy => by rcases List.mem_append.mp hy with hy | hy; exact h.2 y hy; rw [List.mem_singleton.mp hy]; exact ⟨h0, h1⟩⟩
theorem smallL.set {l : List Int} {m : Nat} {b x : Int} {i : Nat} (h : smallL l m b) (h0 : -b ≤ x) (h1 : x ≤ b) : smallL (l.set i x) m b :=
 ⟨by rw [List.length_set]; exact h.1, fun y hy => by rcases List.mem_or_eq_of_mem_set hy with hy | rfl; exact h.2 y hy; exact ⟨h0, h1⟩⟩
theorem smallL.take {l : List Int} {m : Nat} {b : Int} {i : Nat} (h : smallL l m b) : smallL (l.take i) m b :=
 ⟨by rw [List.length_take]; have := h.1; omega, fun y hy => h.2 y (List.mem_of_mem_take hy)⟩
theorem smallL.mono {l : List Int} {m n : Nat} {b c : Int} (h : smallL l m b) (h1 : m ≤ n) (h2 : b ≤ c) : smallL l n c := ⟨Nat.le_trans h.1 h1, fun x hx => by have := h.2 x hx; omega⟩
theorem smallL.rd {l : List Int} {m : Nat} {b : Int} (h : smallL l m b) (i : Int) (h0 : 0 ≤ i) (h1 : i < (l.length : Int)) : -b ≤ rd l i ∧ rd l i ≤ b := h.2 _ (rd_mem l i h0 h1)

theorem vals_loop (L : List Int) (hL : ∀ x ∈ L, (Lit.int .u8 x).wf = true) (hl : L.length ≤ 2000) (n : Int) (hn : 1 ≤ n) (d : Nat) : ∀ (k i : Nat) (out : List Int) (s : Int), i + d = 3 → d + 5 < k → 0 ≤ s → s + d ≤ 900003 → out.length = i → smallL out 3 10001 →
  ∃ v s', spec_l20Vals.l0 k n out (i : Int) L s = some (v, s') ∧ s ≤ s' ∧ s' ≤ s + d + 4 ∧ smallL v 4 10001 := by
 induction d with
 | zero =>
  intro k i out s hi hk h0 h1 ho hs
  obtain ⟨k, rfl⟩ : ∃ m, k = m + 1 := ⟨k - 1, by omega⟩
  have hi3 : i = 3 := by omega
  subst hi3
  simp only [spec_l20Vals.l0]
  rw [if_neg (by omega)]
  obtain ⟨v1, e1, a1, b1⟩ := pick_eq L hL hl s n k (by omega) h0 (by omega) hn
  rw [e1]; simp only [Option.bind_some, if_true, bne_self_eq_false, Bool.false_eq_true, if_false]
  by_cases c1 : v1 = 0
  ·rw [if_pos c1]
   obtain ⟨v2, e2, a2, b2⟩ := pick_eq L hL hl (s + 1) 3 k (by omega) (by omega) (by omega) (by omega)
   rw [e2]; simp only [Option.bind_some, if_true, bne_self_eq_false, Bool.false_eq_true, if_false]
   by_cases c2 : v2 = 0
   ·rw [if_pos c2, if_pos (by omega)]
    exact ⟨_, _, rfl, by omega, by omega, hs.take.mono (by omega) (by omega)⟩
   ·rw [if_neg c2]
    by_cases c3 : v2 = 1
    ·rw [if_pos c3, if_pos (by omega)]
     exact ⟨_, _, rfl, by omega, by omega, hs.push (by omega) (by omega)⟩
    ·rw [if_neg c3]
     obtain ⟨v3, e3, a3, b3⟩ := pick_eq L hL hl (s + 1 + 1) 3 k (by omega) (by omega) (by omega) (by omega)
     rw [e3]; simp only [Option.bind_some, if_true, bne_self_eq_false, Bool.false_eq_true, if_false]
     obtain ⟨v4, e4, a4, b4⟩ := pick_eq L hL hl (s + 1 + 1 + 1) 2 k (by omega) (by omega) (by omega) (by omega)
     rw [e4]; simp only [Option.bind_some, if_true, bne_self_eq_false, Bool.false_eq_true, if_false]
     have hq : smallL [10001, -10001] 2 10001 := ⟨by simp, by simp⟩
     have hq2 := hq.rd v4 a4 (by simpa using b4)
     rw [if_pos a4, if_pos (by simpa using b4), if_pos a3, if_pos (by omega)]
     exact ⟨_, _, rfl, by omega, by omega, (hs.set hq2.1 hq2.2).mono (by omega) (by omega)⟩
  ·rw [if_neg c1]
   exact ⟨_, _, rfl, by omega, by omega, hs.mono (by omega) (by omega)⟩
 | succ d ih =>
  intro k i out s hi hk h0 h1 ho hs
  obtain ⟨k, rfl⟩ : ∃ m, k = m + 1 := ⟨k - 1, by omega⟩
  simp only [spec_l20Vals.l0]
  rw [if_pos (by omega)]; simp only [Option.bind_some, if_true, bne_self_eq_false, Bool.false_eq_true, if_false]
  obtain ⟨v1, e1, a1, b1⟩ := pick_eq L hL hl s 9 k (by omega) h0 (by omega) (by omega)
  rw [e1]; simp only [Option.bind_some, if_true, bne_self_eq_false, Bool.false_eq_true, if_false]
  have hq : smallL [0, 1, 5, 20, -3, 60, 10000, -10000, 9996] 9 10001 := ⟨by simp, by simp⟩
  have hq2 := hq.rd v1 a1 (by simpa using b1)
  rw [if_pos a1, if_pos (by simpa using b1), if_pos (by omega), show wrap64 ((i : Int) + 1) = ((i + 1 : Nat) : Int) from by rw [wrap_id (by omega) (by omega)]; omega]
  have hp : smallL (out ++ [rd [0, 1, 5, 20, -3, 60, 10000, -10000, 9996] v1]) 3 10001 := by
   have := hs.push hq2.1 hq2.2
   exact ⟨by simp; omega, this.2⟩
  obtain ⟨v, s', e, p, q, r⟩ := ih k (i + 1) _ (s + 1) (by omega) (by omega) (by omega) (by omega) (by simp; omega) hp
  exact ⟨v, s', e, by omega, by omega, r⟩
theorem vals_eq (L : List Int) (hL : ∀ x ∈ L, (Lit.int .u8 x).wf = true) (hl : L.length ≤ 2000) (s n : Int) (k : Nat) (hk : 9 ≤ k) (h0 : 0 ≤ s) (h1 : s ≤ 900000) (hn : 1 ≤ n) :
  ∃ v s', spec_l20Vals.f k L s n = some (v, s') ∧ s ≤ s' ∧ s' ≤ s + 7 ∧ smallL v 4 10001 := by
 unfold spec_l20Vals.f
 obtain ⟨v, s', e, p, q, r⟩ := vals_loop L hL hl n hn 3 k 0 [] s rfl (by omega) h0 (by omega) rfl ⟨by simp, by simp⟩
 exact ⟨v, s', e, p, by omega, r⟩

theorem treaty_loop (L : List Int) (hL : ∀ x ∈ L, (Lit.int .u8 x).wf = true) (hl : L.length ≤ 2000) (n : Int) (hn : 1 ≤ n) (B : List Int) (hB : smallL B 4 10001) (d : Nat) : ∀ (k m : Nat) (G : List Int) (s : Int), d + 12 < k → 0 ≤ s → s + d ≤ 800000 → d + m ≤ 3 → smallL G m 51 → (d = 0 → 0 < G.length) →
  ∃ B' G' s', spec_l20Treaty.l0 k n (d : Int) L s B G = some (B', G', s') ∧ s ≤ s' ∧ s' ≤ s + d + 20 ∧ smallL B' 4 10001 ∧ smallL G' 3 51 := by
 induction d with
 | zero =>
  intro k m G s hk h0 h1 hm hG hp
  have hp := hp rfl
  obtain ⟨k, rfl⟩ : ∃ m, k = m + 1 := ⟨k - 1, by omega⟩
  simp only [spec_l20Treaty.l0]
  rw [if_neg (by omega)]
  obtain ⟨v1, e1, a1, b1⟩ := pick_eq L hL hl s n k (by omega) h0 (by omega) hn
  rw [e1]; simp only [Option.bind_some, if_true, bne_self_eq_false, Bool.false_eq_true, if_false]
  by_cases c1 : v1 > 0
  ·rw [if_pos c1]
   exact ⟨_, _, _, rfl, by omega, by omega, hB, hG.mono (by omega) (by omega)⟩
  ·rw [if_neg c1]
   obtain ⟨v2, e2, a2, b2⟩ := pick_eq L hL hl (s + 1) 3 k (by omega) (by omega) (by omega) (by omega)
   rw [e2]; simp only [Option.bind_some, if_true, bne_self_eq_false, Bool.false_eq_true, if_false]
   by_cases c2 : v2 = 0
   ·rw [if_pos c2]
    obtain ⟨v, s3, e3, a3, b3, h3⟩ := vals_eq L hL hl (s + 1 + 1) 1 k (by omega) (by omega) (by omega) (by omega)
    rw [e3]; simp only [Option.bind_some, if_true, bne_self_eq_false, Bool.false_eq_true, if_false]
    exact ⟨_, _, _, rfl, by omega, by omega, h3, hG.mono (by omega) (by omega)⟩
   ·rw [if_neg c2]
    by_cases c3 : v2 = 1
    ·rw [if_pos c3]
     exact ⟨_, _, _, rfl, by omega, by omega, hB, ⟨by simp, by simp⟩⟩
    ·rw [if_neg c3]
     obtain ⟨v4, e4, a4, b4⟩ := pick_eq L hL hl (s + 1 + 1) 2 k (by omega) (by omega) (by omega) (by omega)
     rw [e4]; simp only [Option.bind_some, if_true, bne_self_eq_false, Bool.false_eq_true, if_false]
     have hq : smallL [-1, 51] 2 51 := ⟨by simp, by simp⟩
     have hq2 := hq.rd v4 a4 (by simpa using b4)
     rw [if_pos a4, if_pos (by simpa using b4), if_pos (by omega)]
     exact ⟨_, _, _, rfl, by omega, by omega, hB, (hG.set hq2.1 hq2.2).mono (by omega) (by omega)⟩
 | succ d ih =>
  intro k m G s hk h0 h1 hm hG hp
  obtain ⟨k, rfl⟩ : ∃ m, k = m + 1 := ⟨k - 1, by omega⟩
  simp only [spec_l20Treaty.l0]
  rw [if_pos (by omega)]; simp only [Option.bind_some, if_true, bne_self_eq_false, Bool.false_eq_true, if_false]
  obtain ⟨v1, e1, a1, b1⟩ := pick_eq L hL hl s 5 k (by omega) h0 (by omega) (by omega)
  rw [e1]; simp only [Option.bind_some, if_true, bne_self_eq_false, Bool.false_eq_true, if_false]
  have hq : smallL [0, 3, 10, 30, 50] 5 51 := ⟨by simp, by simp⟩
  have hq2 := hq.rd v1 a1 (by simpa using b1)
  have hg := hG.1
  rw [if_pos a1, if_pos (by simpa using b1), if_pos (by omega), show wrap64 (((d + 1 : Nat) : Int) - 1) = (d : Int) from by rw [wrap_id (by omega) (by omega)]; omega]
  obtain ⟨B', G', s', e, p, q, r, t⟩ := ih k (m + 1) _ (s + 1) (by omega) (by omega) (by omega) (by omega) (hG.push hq2.1 hq2.2) (fun _ => by simp)
  exact ⟨B', G', s', e, by omega, by omega, r, t⟩
theorem treaty_eq (L : List Int) (hL : ∀ x ∈ L, (Lit.int .u8 x).wf = true) (hl : L.length ≤ 2000) (s n : Int) (k : Nat) (hk : 20 ≤ k) (h0 : 0 ≤ s) (h1 : s ≤ 700000) (hn : 1 ≤ n) :
  ∃ B G s', spec_l20Treaty.f k L s n = some (B, G, s') ∧ s ≤ s' ∧ s' ≤ s + 40 ∧ smallL B 4 10001 ∧ smallL G 3 51 := by
 unfold spec_l20Treaty.f
 obtain ⟨v, s1, e1, a1, b1, hv⟩ := vals_eq L hL hl s 99 k (by omega) h0 (by omega) (by omega)
 rw [e1]; simp only [Option.bind_some, if_true, bne_self_eq_false, Bool.false_eq_true, if_false]
 obtain ⟨u, e2, a2, b2⟩ := pick_eq L hL hl s1 3 k (by omega) (by omega) (by omega) (by omega)
 rw [e2]; simp only [Option.bind_some, if_true, bne_self_eq_false, Bool.false_eq_true, if_false]
 obtain ⟨d, hd⟩ : ∃ d : Nat, wrap64 (1 + u) = (d : Int) := ⟨(1 + u).toNat, by rw [wrap_id (by omega) (by omega)]; omega⟩
 have hd2 : (d : Int) = 1 + u := by rw [← hd, wrap_id (by omega) (by omega)]
 rw [hd]
 obtain ⟨B', G', s', e, p, q, r, t⟩ := treaty_loop L hL hl n hn v hv d k 0 [] (s1 + 1) (by omega) (by omega) (by omega) (by omega) ⟨by simp, by simp⟩ (fun h => by omega)
 exact ⟨B', G', s', e, by omega, by omega, r, t⟩

theorem small_l1 (L : List Int) (hL : ∀ x ∈ L, (Lit.int .u8 x).wf = true) (hl : L.length ≤ 2000) (C : List Int) (K : Int) (d : Nat) : ∀ (k i : Nat) (D : List Int) (s : Int), i + d = 2 → d + 3 < k → 0 ≤ s → s ≤ 800000 - d → D.length = 2 → smallL D 2 20 →
  ∃ D' K', spec_l20Small.l1 k (i : Int) L s C D K = some (C, D', K', s + d + 1) ∧ D'.length = 2 ∧ smallL D' 2 20 ∧ -20 ≤ K' ∧ K' ≤ 20 := by
 induction d with
 | zero =>
  intro k i D s hi hk h0 h1 hd hs
  obtain ⟨k, rfl⟩ : ∃ m, k = m + 1 := ⟨k - 1, by omega⟩
  simp only [spec_l20Small.l1]
  rw [if_neg (by omega)]; simp only [Option.bind_some, if_true, bne_self_eq_false, Bool.false_eq_true, if_false]
  obtain ⟨v, e, a, b⟩ := pick_eq L hL hl s 8 k (by omega) h0 (by omega) (by omega)
  rw [e]; simp only [Option.bind_some, if_true, bne_self_eq_false, Bool.false_eq_true, if_false]
  have hq : smallL [0, 0, 1, -1, 5, -5, 20, -20] 8 20 := ⟨by simp, by simp⟩
  have hq2 := hq.rd v a (by simpa using b)
  rw [if_pos a, if_pos (by simpa using b)]
  exact ⟨_, _, by rw [show s + ((0 : Nat) : Int) + 1 = s + 1 from by omega], hd, hs, hq2.1, hq2.2⟩
 | succ d ih =>
  intro k i D s hi hk h0 h1 hd hs
  obtain ⟨k, rfl⟩ : ∃ m, k = m + 1 := ⟨k - 1, by omega⟩
  simp only [spec_l20Small.l1]
  rw [if_pos (by omega)]; simp only [Option.bind_some, if_true, bne_self_eq_false, Bool.false_eq_true, if_false]
  obtain ⟨v, e, a, b⟩ := pick_eq L hL hl s 5 k (by omega) h0 (by omega) (by omega)
  rw [e]; simp only [Option.bind_some, if_true, bne_self_eq_false, Bool.false_eq_true, if_false]
  have hq : smallL [0, 0, 1, -1, 2] 5 20 := ⟨by simp, by simp⟩
  have hq2 := hq.rd v a (by simpa using b)
  rw [if_pos a, if_pos (by simpa using b), if_pos (by omega), if_pos (by omega), show wrap64 ((i : Int) + 1) = ((i + 1 : Nat) : Int) from by rw [wrap_id (by omega) (by omega)]; omega]
  obtain ⟨D', K', e2, x1, x2, x3, x4⟩ := ih k (i + 1) _ (s + 1) (by omega) (by omega) (by omega) (by omega) (by rw [List.length_set]; exact hd) (hs.set (i := ((i : Int)).toNat) hq2.1 hq2.2)
  exact ⟨D', K', by rw [e2]; congr 4; omega, x1, x2, x3, x4⟩
theorem small_l0 (L : List Int) (hL : ∀ x ∈ L, (Lit.int .u8 x).wf = true) (hl : L.length ≤ 2000) (D : List Int) (K : Int) (hd2 : D.length = 2) (hD : smallL D 2 20) (d : Nat) : ∀ (k i : Nat) (C : List Int) (s : Int), i + d = 3 → d + 8 < k → 0 ≤ s → s ≤ 700000 - d → C.length = 3 → smallL C 3 20 →
  ∃ C' D' K', spec_l20Small.l0 k (i : Int) L s C D K = some (C', D', K', s + d + 3) ∧ C'.length = 3 ∧ smallL C' 3 20 ∧ D'.length = 2 ∧ smallL D' 2 20 ∧ -20 ≤ K' ∧ K' ≤ 20 := by
 induction d with
 | zero =>
  intro k i C s hi hk h0 h1 hd hs
  obtain ⟨k, rfl⟩ : ∃ m, k = m + 1 := ⟨k - 1, by omega⟩
  simp only [spec_l20Small.l0]
  rw [if_neg (by omega)]
  obtain ⟨D', K', e2, x1, x2, x3, x4⟩ := small_l1 L hL hl C K 2 k 0 D s (by omega) (by omega) h0 (by omega) hd2 hD
  exact ⟨C, D', K', by rw [show ((0 : Nat) : Int) = 0 from rfl] at e2; rw [e2]; congr 4; omega, hd, hs, x1, x2, x3, x4⟩
 | succ d ih =>
  intro k i C s hi hk h0 h1 hd hs
  obtain ⟨k, rfl⟩ : ∃ m, k = m + 1 := ⟨k - 1, by omega⟩
  simp only [spec_l20Small.l0]
  rw [if_pos (by omega)]; simp only [Option.bind_some, if_true, bne_self_eq_false, Bool.false_eq_true, if_false]
  obtain ⟨v, e, a, b⟩ := pick_eq L hL hl s 6 k (by omega) h0 (by omega) (by omega)
  rw [e]; simp only [Option.bind_some, if_true, bne_self_eq_false, Bool.false_eq_true, if_false]
  have hq : smallL [0, 0, 0, 1, -1, 2] 6 20 := ⟨by simp, by simp⟩
  have hq2 := hq.rd v a (by simpa using b)
  rw [if_pos a, if_pos (by simpa using b), if_pos (by omega), if_pos (by omega), show wrap64 ((i : Int) + 1) = ((i + 1 : Nat) : Int) from by rw [wrap_id (by omega) (by omega)]; omega]
  obtain ⟨C', D', K', e2, x1, x2, x3⟩ := ih k (i + 1) _ (s + 1) (by omega) (by omega) (by omega) (by omega) (by rw [List.length_set]; exact hd) (hs.set (i := ((i : Int)).toNat) hq2.1 hq2.2)
  exact ⟨C', D', K', by rw [e2]; congr 4; omega, x1, x2, x3⟩
theorem small_eq (L : List Int) (hL : ∀ x ∈ L, (Lit.int .u8 x).wf = true) (hl : L.length ≤ 2000) (s : Int) (k : Nat) (hk : 12 ≤ k) (h0 : 0 ≤ s) (h1 : s ≤ 600000) :
  ∃ C D K, spec_l20Small.f k L s = some (C, D, K, s + 6) ∧ C.length = 3 ∧ smallL C 3 20 ∧ D.length = 2 ∧ smallL D 2 20 ∧ -20 ≤ K ∧ K ≤ 20 := by
 unfold spec_l20Small.f
 rw [spec_Zero_eq]; simp only [Option.bind_some, if_true, bne_self_eq_false, Bool.false_eq_true, if_false]
 obtain ⟨C, D, K, e, x⟩ := small_l0 L hL hl [0, 0] 0 rfl ⟨by simp, by simp⟩ 3 k 0 [0, 0, 0] s (by omega) (by omega) h0 (by omega) rfl ⟨by simp, by simp⟩
 exact ⟨C, D, K, by rw [show ((0 : Nat) : Int) = 0 from rfl] at e; rw [e]; congr 4; omega, x⟩

theorem lineB_cases {a b c : Int} {C D : List Int} {K : Int} (h : lineB a b c C D K = true) : (a = 1 ∧ (1 ≤ c ∧ c ≤ 6) ∧ smallB C D K = true) ∨ (a = 2 ∧ (0 ≤ b ∧ b ≤ 2) ∧ smallB C D K = true) ∨ (a = 3 ∧ smallB C D K = true) ∨ a = 4 := by
 unfold lineB at h
 by_cases h1 : a = 1
 ·rw [if_pos h1] at h
  simp only [Bool.and_eq_true] at h
  exact .inl ⟨h1, ibB_iff.mp h.2.1, h.2.2⟩
 rw [if_neg h1] at h
 by_cases h2 : a = 2
 ·rw [if_pos h2] at h
  simp only [Bool.and_eq_true] at h
  exact .inr (.inl ⟨h2, ibB_iff.mp h.1, h.2.2⟩)
 rw [if_neg h2] at h
 by_cases h3 : a = 3
 ·rw [if_pos h3] at h
  simp only [Bool.and_eq_true] at h
  exact .inr (.inr (.inl ⟨h3, h.2.2⟩))
 rw [if_neg h3] at h
 by_cases h4 : a = 4
 ·exact .inr (.inr (.inr h4))
 rw [if_neg h4] at h
 exact absurd h (by decide)
theorem actG_all : ∀ (l : List S100) (t n : Int), actG l t n = true → n ≤ 6 ∧ ∀ x ∈ l, lnB x = true
 | [], t, n, h => by
  simp only [actG, Bool.and_eq_true, decide_eq_true_eq] at h
  exact ⟨h.1, by simp⟩
 | x :: xs, t, n, h => by
  simp only [actG, Bool.and_eq_true] at h
  obtain ⟨p, q⟩ := actG_all xs _ n h.2
  refine ⟨p, fun y hy => ?_⟩
  rcases List.mem_cons.mp hy with rfl | hy
  ·exact h.1
  ·exact q y hy

def smA (l : List S100) (m : Nat) : Prop := l.length ≤ m ∧ ∀ x ∈ l, x.f3.f0.length ≤ 4 ∧ x.f3.f1.length ≤ 4
theorem smA.push {l : List S100} {m : Nat} (h : smA l m) (x : S100) (hx : x.f3.f0.length ≤ 4 ∧ x.f3.f1.length ≤ 4) : smA (l ++ [x]) (m + 1) :=
 ⟨by rw [List.length_append]; have := h.1; simp; omega, fun y hy => by
  rcases List.mem_append.mp hy with hy | hy
  ·exact h.2 y hy
  ·simp only [List.mem_singleton] at hy; subst hy; exact hx⟩
theorem smA.mono {l : List S100} {m n : Nat} (h : smA l m) (hn : m ≤ n) : smA l n := ⟨Nat.le_trans h.1 hn, h.2⟩
theorem smA.sz {l : List S100} {m : Nat} (h : smA l m) : ∀ x ∈ l, (x.f3.f0.length : Int) ≤ 1048576 ∧ (x.f3.f1.length : Int) ≤ 1048576 := fun x hx => by have := h.2 x hx; omega
theorem line_eq (L : List Int) (hL : ∀ x ∈ L, (Lit.int .u8 x).wf = true) (hl : L.length ≤ 2000) (s : Int) (k : Nat) (hk : 20 ≤ k) (h0 : 0 ≤ s) (h1 : s ≤ 500000) :
  ∃ a b c C D K s', spec_l20Line.f k L s = some (a, b, c, C, D, K, s') ∧ s ≤ s' ∧ s' ≤ s + 20 ∧ C.length ≤ 4 ∧ D.length ≤ 4 := by
 unfold spec_l20Line.f
 obtain ⟨v, e1, v0, v1⟩ := pick_eq L hL hl s 7 k (by omega) h0 (by omega) (by omega)
 rw [e1]; simp only [Option.bind_some, if_true, bne_self_eq_false, Bool.false_eq_true, if_false]
 obtain ⟨k, rfl⟩ : ∃ m, k = m + 2 := ⟨k - 2, by omega⟩
 have j1 : ∀ b : Bool, ∃ a b' c C D K s', spec_l20Line.j1 (k + 1) v b L (s + 1) = some (a, b', c, C, D, K, s') ∧ s ≤ s' ∧ s' ≤ s + 20 ∧ C.length ≤ 4 ∧ D.length ≤ 4 := by
  intro b
  simp only [spec_l20Line.j1]
  obtain ⟨C, D, K, e2, hC, _, hD, _⟩ := small_eq L hL hl (s + 1) k (by omega) (by omega) (by omega)
  cases b with
  | true =>
   rw [if_pos rfl, e2]; simp only [Option.bind_some, if_true, bne_self_eq_false, Bool.false_eq_true, if_false]
   obtain ⟨p, e3, p0, p1⟩ := pick_eq L hL hl (s + 1 + 6) 3 k (by omega) (by omega) (by omega) (by omega)
   obtain ⟨q, e4, q0, q1⟩ := pick_eq L hL hl (s + 1 + 6 + 1) 3 k (by omega) (by omega) (by omega) (by omega)
   rw [e3]; simp only [Option.bind_some, if_true, bne_self_eq_false, Bool.false_eq_true, if_false]
   by_cases hp : p > 0
   ·rw [if_pos hp, e4]; simp only [Option.bind_some, if_true, bne_self_eq_false, Bool.false_eq_true, if_false]
    exact ⟨_, _, _, _, _, _, _, rfl, by omega, by omega, by simp, by omega⟩
   ·rw [if_neg hp, e4]; simp only [Option.bind_some, if_true, bne_self_eq_false, Bool.false_eq_true, if_false]
    exact ⟨_, _, _, _, _, _, _, rfl, by omega, by omega, by omega, by omega⟩
  | false =>
   rw [if_neg (by decide)]
   by_cases h5 : v = 5
   ·rw [if_pos h5, e2]; simp only [Option.bind_some, if_true, bne_self_eq_false, Bool.false_eq_true, if_false]
    exact ⟨_, _, _, _, _, _, _, rfl, by omega, by omega, by omega, by omega⟩
   ·rw [if_neg h5]
    exact ⟨_, _, _, _, _, _, _, rfl, by omega, by omega, by simp, by simp⟩
 have j0 : ∀ b : Bool, ∃ a b' c C D K s', spec_l20Line.j0 (k + 2) v b L (s + 1) = some (a, b', c, C, D, K, s') ∧ s ≤ s' ∧ s' ≤ s + 20 ∧ C.length ≤ 4 ∧ D.length ≤ 4 := by
  intro b
  simp only [spec_l20Line.j0]
  cases b with
  | true =>
   obtain ⟨p, e3, p0, p1⟩ := pick_eq L hL hl (s + 1) 3 (k + 1) (by omega) (by omega) (by omega) (by omega)
   obtain ⟨C, D, K, e2, hC, _, hD, _⟩ := small_eq L hL hl (s + 1 + 1) (k + 1) (by omega) (by omega) (by omega)
   rw [if_pos rfl, e3]; simp only [Option.bind_some, if_true, bne_self_eq_false, Bool.false_eq_true, if_false]
   rw [e2]; simp only [Option.bind_some, if_true, bne_self_eq_false, Bool.false_eq_true, if_false]
   exact ⟨_, _, _, _, _, _, _, rfl, by omega, by omega, by omega, by omega⟩
  | false =>
   rw [if_neg (by decide)]
   by_cases h2 : v = 2
   ·rw [if_pos h2]; exact j1 _
   ·rw [if_neg h2]
    by_cases h3 : v = 3
    ·rw [if_pos h3]; exact j1 _
    ·rw [if_neg h3]; exact j1 _
 by_cases hv : v = 0
 ·rw [if_pos hv]; exact j0 _
 ·rw [if_neg hv]; exact j0 _
theorem num_eq (a b c : Int) : spec_l20Num.f a b c = some ([0, 0, 0], [a, b], c) := by
 unfold spec_l20Num.f
 rw [spec_Zero_eq]; rfl
theorem with_eq (C D : List Int) (K v n : Int) (h0 : 0 ≤ v) (h1 : v < (C.length : Int)) : ∃ C', spec_l20With.f C D K v n = some (C', D, K) ∧ C'.length = C.length := by
 unfold spec_l20With.f
 rw [if_pos h0, if_pos h1]
 exact ⟨_, rfl, List.length_set⟩
theorem act_loop (L : List Int) (hL : ∀ x ∈ L, (Lit.int .u8 x).wf = true) (hl : L.length ≤ 2000) (d : Nat) : ∀ (k : Nat) (acc : List S100) (s : Int), d ≤ 5 → d + 2097300 < k → smA acc (6 - d) → 0 ≤ s → s ≤ 1000 + 20 * (6 - (d : Int)) →
  ∃ l s', spec_l20Act.l0 k acc (d : Int) L s = some (l, s') ∧ s ≤ s' ∧ s' ≤ s + 20 * (d : Int) ∧ smA l 6 := by
 induction d with
 | zero =>
  intro k acc s hd hk ha h0 h1
  obtain ⟨k, rfl⟩ : ∃ m, k = m + 1 := ⟨k - 1, by omega⟩
  refine ⟨acc, s, ?_, by omega, by omega, ha⟩
  simp only [spec_l20Act.l0]
  rw [if_neg (by omega)]
 | succ d ih =>
  intro k acc s hd hk ha h0 h1
  obtain ⟨k, rfl⟩ : ∃ m, k = m + 1 := ⟨k - 1, by omega⟩
  obtain ⟨a, b, c, C, D, K, s1, e1, a1, b1, hC, hD⟩ := line_eq L hL hl s k (by omega) h0 (by omega)
  have hn := ha.1
  have hw : wrap64 (((d + 1 : Nat) : Int) - 1) = (d : Int) := by rw [wrap_id (by omega) (by omega)]; omega
  have hx : (⟨a, b, c, ⟨C, D, K⟩⟩ : S100).f3.f0.length ≤ 4 ∧ (⟨a, b, c, ⟨C, D, K⟩⟩ : S100).f3.f1.length ≤ 4 := ⟨hC, hD⟩
  have hp : smA (acc ++ [⟨a, b, c, ⟨C, D, K⟩⟩]) (6 - d) := (ha.push _ hx).mono (by omega)
  simp only [spec_l20Act.l0]
  rw [if_pos (by omega), e1]; simp only [Option.bind_some, if_true, bne_self_eq_false, Bool.false_eq_true, if_false]
  rw [if_pos (by simp; omega)]; simp only [List.nil_append]
  rw [if_pos (by simp; omega), spec_Act_eq _ k (by omega) (by have := hp.1; omega) hp.sz]; simp only [Option.bind_some, if_true, bne_self_eq_false, Bool.false_eq_true, if_false]
  cases actB (acc ++ [⟨a, b, c, ⟨C, D, K⟩⟩]) with
  | true =>
   simp only [if_true]
   rw [if_pos (by simp; omega), hw]
   obtain ⟨l, s2, e2, a2, b2, hq⟩ := ih k (acc ++ [⟨a, b, c, ⟨C, D, K⟩⟩]) s1 (by omega) (by omega) hp (by omega) (by omega)
   exact ⟨l, s2, e2, by omega, by omega, hq⟩
  | false =>
   simp only [Bool.false_eq_true, if_false]
   rw [hw]
   obtain ⟨l, s2, e2, a2, b2, hq⟩ := ih k acc s1 (by omega) (by omega) (ha.mono (by omega)) (by omega) (by omega)
   exact ⟨l, s2, e2, by omega, by omega, hq⟩
theorem act_eq (L : List Int) (hL : ∀ x ∈ L, (Lit.int .u8 x).wf = true) (hl : L.length ≤ 2000) (s : Int) (k : Nat) (hk : 2097400 < k) (h0 : 0 ≤ s) (h1 : s ≤ 900) :
  ∃ l s', spec_l20Act.f k L s = some (l, s') ∧ s ≤ s' ∧ s' ≤ s + 110 ∧ smA l 6 := by
 unfold spec_l20Act.f
 obtain ⟨v, e1, v0, v1⟩ := pick_eq L hL hl s 2 k (by omega) h0 (by omega) (by omega)
 rw [e1]; simp only [Option.bind_some, if_true, bne_self_eq_false, Bool.false_eq_true, if_false]
 obtain ⟨u, e2, u0, u1⟩ := pick_eq L hL hl (s + 1) 8 k (by omega) (by omega) (by omega) (by omega)
 rw [e2]; simp only [Option.bind_some, if_true, bne_self_eq_false, Bool.false_eq_true, if_false]
 obtain ⟨k, rfl⟩ : ∃ m, k = m + 1 := ⟨k - 1, by omega⟩
 have z3 : (([0, 0, 0] : List Int).length : Int) = 3 := rfl
 have j0 : ∀ b : Bool, ∃ l s', spec_l20Act.j0 (k + 1) v u b L (s + 1 + 1) = some (l, s') ∧ s ≤ s' ∧ s' ≤ s + 110 ∧ smA l 6 := by
  intro b
  simp only [spec_l20Act.j0, num_eq, Option.bind_some]
  cases b with
  | true =>
   obtain ⟨C', e3, hC'⟩ := with_eq [0, 0, 0] [-1, 0] 0 v 1 v0 (by omega)
   rw [if_pos rfl, e3]; simp only [Option.bind_some, if_true, bne_self_eq_false, Bool.false_eq_true, if_false]
   exact ⟨_, _, rfl, by omega, by omega, ⟨by simp, fun x hx => by
    simp only [List.mem_cons, List.not_mem_nil, or_false] at hx
    have hc : C'.length = 3 := hC'
    rcases hx with rfl | rfl | rfl | rfl | rfl <;> simp [hc]⟩⟩
  | false =>
   rw [if_neg (by decide)]
   by_cases h2 : u = 2
   ·rw [if_pos h2]
    exact ⟨_, _, rfl, by omega, by omega, ⟨by simp, fun x hx => by
     simp only [List.mem_cons, List.not_mem_nil, or_false] at hx
     subst hx; simp⟩⟩
   rw [if_neg h2]
   by_cases h3 : u = 3
   ·obtain ⟨C', e3, hC'⟩ := with_eq [0, 0, 0] [-1, 0] 0 v 1 v0 (by omega)
    rw [if_pos h3, e3]; simp only [Option.bind_some, if_true, bne_self_eq_false, Bool.false_eq_true, if_false]
    exact ⟨_, _, rfl, by omega, by omega, ⟨by simp, fun x hx => by
     simp only [List.mem_cons, List.not_mem_nil, or_false] at hx
     have hc : C'.length = 3 := hC'
     rcases hx with rfl | rfl | rfl <;> simp [hc]⟩⟩
   rw [if_neg h3]
   by_cases h4 : u = 4
   ·obtain ⟨C', e3, hC'⟩ := with_eq [0, 0, 0] [0, 0] 0 2 1 (by omega) (by omega)
    rw [if_pos h4, e3]; simp only [Option.bind_some, if_true, bne_self_eq_false, Bool.false_eq_true, if_false]
    exact ⟨_, _, rfl, by omega, by omega, ⟨by simp, fun x hx => by
     simp only [List.mem_cons, List.not_mem_nil, or_false] at hx
     have hc : C'.length = 3 := hC'
     subst hx; simp [hc]⟩⟩
   rw [if_neg h4]
   by_cases h5 : u = 5
   ·obtain ⟨C', e3, hC'⟩ := with_eq [0, 0, 0] [0, 1] 5 0 1 (by omega) (by omega)
    have hc : C'.length = 3 := hC'
    obtain ⟨C2, e4, hC2⟩ := with_eq C' [0, 1] 5 1 (-1) (by omega) (by omega)
    rw [if_pos h5, e3]; simp only [Option.bind_some, if_true, bne_self_eq_false, Bool.false_eq_true, if_false]
    rw [e4]; simp only [Option.bind_some, if_true, bne_self_eq_false, Bool.false_eq_true, if_false]
    exact ⟨_, _, rfl, by omega, by omega, ⟨by simp, fun x hx => by
     simp only [List.mem_cons, List.not_mem_nil, or_false] at hx
     have hc2 : C2.length = 3 := by omega
     rcases hx with rfl | rfl <;> simp [hc2]⟩⟩
   rw [if_neg h5]
   obtain ⟨q, e3, q0, q1⟩ := pick_eq L hL hl (s + 1 + 1) 5 k (by omega) (by omega) (by omega) (by omega)
   rw [e3]; simp only [Option.bind_some, if_true, bne_self_eq_false, Bool.false_eq_true, if_false]
   obtain ⟨l, s2, e4, a4, b4, hq⟩ := act_loop L hL hl (q.toNat + 1) k [] (s + 1 + 1 + 1) (by omega) (by omega) ⟨by simp, by simp⟩ (by omega) (by omega)
   rw [show wrap64 (1 + q) = ((q.toNat + 1 : Nat) : Int) from by rw [wrap_id (by omega) (by omega)]; omega, e4]
   exact ⟨l, s2, rfl, by omega, by omega, hq⟩
 by_cases hu : u = 0
 ·rw [if_pos hu]; exact j0 _
 ·rw [if_neg hu]; exact j0 _

def smP (l : List (List S100)) (m : Nat) : Prop := l.length ≤ m ∧ ∀ y ∈ l, smA y 8
theorem smP.push {l : List (List S100)} {m : Nat} (h : smP l m) (x : List S100) (hx : smA x 8) : smP (l ++ [x]) (m + 1) :=
 ⟨by rw [List.length_append]; have := h.1; simp; omega, fun y hy => by
  rcases List.mem_append.mp hy with hy | hy
  ·exact h.2 y hy
  ·simp only [List.mem_singleton] at hy; subst hy; exact hx⟩
theorem smP.mono {l : List (List S100)} {m n : Nat} (h : smP l m) (hn : m ≤ n) : smP l n := ⟨Nat.le_trans h.1 hn, h.2⟩
theorem acts_loop (L : List Int) (hL : ∀ x ∈ L, (Lit.int .u8 x).wf = true) (hl : L.length ≤ 2000) (d : Nat) : ∀ (k m : Nat) (acc : List (List S100)) (s : Int), d + 2097450 < k → 0 ≤ s → s + 110 * (d : Int) ≤ 1010 → d + m ≤ 4 → smP acc m →
  ∃ l s', spec_l20Acts.l0 k acc (d : Int) L s = some (l, s') ∧ s ≤ s' ∧ s' ≤ s + 110 * (d : Int) ∧ smP l 4 ∧ l.length = acc.length + d := by
 induction d with
 | zero =>
  intro k m acc s hk h0 h1 hm ha
  obtain ⟨k, rfl⟩ : ∃ m, k = m + 1 := ⟨k - 1, by omega⟩
  simp only [spec_l20Acts.l0]
  rw [if_neg (by omega)]
  exact ⟨acc, s, rfl, by omega, by omega, ha.mono (by omega), by omega⟩
 | succ d ih =>
  intro k m acc s hk h0 h1 hm ha
  obtain ⟨k, rfl⟩ : ∃ m, k = m + 1 := ⟨k - 1, by omega⟩
  simp only [spec_l20Acts.l0]
  rw [if_pos (by omega)]
  obtain ⟨x, t, e1, t0, t1, hA⟩ := act_eq L hL hl s k (by omega) h0 (by omega)
  rw [e1]; simp only [Option.bind_some, if_true, bne_self_eq_false, Bool.false_eq_true, if_false]
  have hl2 := ha.1
  rw [if_pos (by omega), show wrap64 (((d + 1 : Nat) : Int) - 1) = (d : Int) from by rw [wrap_id (by omega) (by omega)]; omega]
  obtain ⟨l', s', e, p, q, r, w⟩ := ih k (m + 1) _ t (by omega) (by omega) (by omega) (by omega) (ha.push x (hA.mono (by omega)))
  exact ⟨l', s', e, by omega, by omega, r, by rw [w, List.length_append]; simp; omega⟩
theorem acts_eq (L : List Int) (hL : ∀ x ∈ L, (Lit.int .u8 x).wf = true) (hl : L.length ≤ 2000) (s : Int) (k : Nat) (hk : 2097460 < k) (h0 : 0 ≤ s) (h1 : s ≤ 560) :
  ∃ l s', spec_l20Acts.f k L s = some (l, s') ∧ s ≤ s' ∧ s' ≤ s + 441 ∧ smP l 4 ∧ 0 < l.length := by
 unfold spec_l20Acts.f
 obtain ⟨v, e1, v0, v1⟩ := pick_eq L hL hl s 4 k (by omega) h0 (by omega) (by omega)
 rw [e1]; simp only [Option.bind_some, if_true, bne_self_eq_false, Bool.false_eq_true, if_false]
 obtain ⟨d, hd⟩ : ∃ d : Nat, wrap64 (1 + v) = (d : Int) := ⟨(1 + v).toNat, by rw [wrap_id (by omega) (by omega)]; omega⟩
 have hd2 : (d : Int) = 1 + v := by rw [← hd, wrap_id (by omega) (by omega)]
 rw [hd]
 obtain ⟨l, s', e, p, q, r, w⟩ := acts_loop L hL hl d k 0 [] (s + 1) (by omega) (by omega) (by omega) (by omega) ⟨by simp, by simp⟩
 exact ⟨l, s', e, by omega, by omega, r, by rw [w]; simp; omega⟩

def fm (m : Int) (x : S34) : Prop := ∃ c0 c1 c2 d0 d1 K, x = ⟨[c0, c1, c2], [d0, d1], K⟩ ∧ (-m ≤ c0 ∧ c0 ≤ m) ∧ (-m ≤ c1 ∧ c1 ≤ m) ∧ (-m ≤ c2 ∧ c2 ≤ m) ∧ (-m ≤ d0 ∧ d0 ≤ m) ∧ (-m ≤ d1 ∧ d1 ≤ m) ∧ (-m ≤ K ∧ K ≤ m)
theorem fm.mono {m n : Int} {x : S34} (h : fm m x) (hn : m ≤ n) : fm n x := by
 obtain ⟨c0, c1, c2, d0, d1, K, e, h0, h1, h2, h3, h4, h5⟩ := h
 exact ⟨c0, c1, c2, d0, d1, K, e, by omega, by omega, by omega, by omega, by omega, by omega⟩
theorem fm.len {m : Int} {x : S34} (h : fm m x) : x.f0.length = 3 ∧ x.f1.length = 2 := by
 obtain ⟨c0, c1, c2, d0, d1, K, rfl, _⟩ := h
 exact ⟨rfl, rfl⟩
theorem sum_fm (a b : S34) (t m n q : Int) (k : Nat) (hk : 7 ≤ k) (ha : fm m a) (hb : fm n b) (ht : ∀ y, -n ≤ y → y ≤ n → -q ≤ t * y ∧ t * y ≤ q) (hm : m ≤ 1000000000) (hq : q ≤ 1000000000) :
  ∃ X Y Z, spec_l1Sum.f k a.f0 a.f1 a.f2 b.f0 b.f1 b.f2 t = some (X, Y, Z) ∧ fm (m + q) ⟨X, Y, Z⟩ := by
 obtain ⟨k, rfl⟩ : ∃ m, k = m + 7 := ⟨k - 7, by omega⟩
 obtain ⟨a0, a1, a2, e0, e1, K, rfl, u0, u1, u2, u3, u4, u5⟩ := ha
 obtain ⟨c0, c1, c2, d0, d1, G, rfl, v0, v1, v2, v3, v4, v5⟩ := hb
 have p0 := ht c0 v0.1 v0.2
 have p1 := ht c1 v1.1 v1.2
 have p2 := ht c2 v2.1 v2.2
 have p3 := ht d0 v3.1 v3.2
 have p4 := ht d1 v4.1 v4.2
 have p5 := ht G v5.1 v5.2
 refine ⟨_, _, _, l1Sum_eq a0 a1 a2 e0 e1 K c0 c1 c2 d0 d1 G t k, ?_⟩
 generalize t * c0 = z0 at p0 ⊢
 generalize t * c1 = z1 at p1 ⊢
 generalize t * c2 = z2 at p2 ⊢
 generalize t * d0 = z3 at p3 ⊢
 generalize t * d1 = z4 at p4 ⊢
 generalize t * G = z5 at p5 ⊢
 have w : ∀ x z : Int, (-m ≤ x ∧ x ≤ m) → (-q ≤ z ∧ z ≤ q) → wrap64 (x + wrap64 z) = x + z ∧ (-(m + q) ≤ x + z ∧ x + z ≤ m + q) := fun x z h h' => by
  rw [wrap_id (x := z) (by omega) (by omega), wrap_id (by omega) (by omega)]
  omega
 refine ⟨_, _, _, _, _, _, rfl, ?_, ?_, ?_, ?_, ?_, ?_⟩
 ·rw [(w a0 z0 u0 p0).1]; exact (w a0 z0 u0 p0).2
 ·rw [(w a1 z1 u1 p1).1]; exact (w a1 z1 u1 p1).2
 ·rw [(w a2 z2 u2 p2).1]; exact (w a2 z2 u2 p2).2
 ·rw [(w e0 z3 u3 p3).1]; exact (w e0 z3 u3 p3).2
 ·rw [(w e1 z4 u4 p4).1]; exact (w e1 z4 u4 p4).2
 ·rw [(w K z5 u5 p5).1]; exact (w K z5 u5 p5).2
theorem t_one (n : Int) : ∀ y, -n ≤ y → y ≤ n → -n ≤ 1 * y ∧ 1 * y ≤ n := fun y h0 h1 => by rw [Int.one_mul]; exact ⟨h0, h1⟩
theorem t_neg (n : Int) : ∀ y, -n ≤ y → y ≤ n → -n ≤ (-1) * y ∧ (-1) * y ≤ n := fun y h0 h1 => by omega
theorem t_two (n t : Int) (h0 : -2 ≤ t) (h1 : t ≤ 2) : ∀ y, -n ≤ y → y ≤ n → -(2 * n) ≤ t * y ∧ t * y ≤ 2 * n := fun y g0 g1 => by
 obtain rfl | rfl | rfl | rfl | rfl : t = -2 ∨ t = -1 ∨ t = 0 ∨ t = 1 ∨ t = 2 := by omega
 all_goals omega
theorem fm_zero : fm 0 (⟨[0, 0, 0], [0, 0], 0⟩ : S34) := ⟨0, 0, 0, 0, 0, 0, rfl, by omega, by omega, by omega, by omega, by omega, by omega⟩
theorem mem_rdF (l : List S34) (i : Int) (h0 : 0 ≤ i) (h1 : i < (l.length : Int)) : rd_T34 l i ∈ l := by
 obtain ⟨n, rfl⟩ := Int.eq_ofNat_of_zero_le h0
 have hn : n < l.length := by omega
 rw [show rd_T34 l (n : Int) = l[n] from getDG z34 l n hn]
 exact List.getElem_mem hn
def fms (n : Nat) (m : Int) (l : List S34) : Prop := l.length ≤ n ∧ ∀ x ∈ l, fm m x
theorem fms.push {n : Nat} {m : Int} {l : List S34} {x : S34} (h : fms n m l) (hx : fm m x) : fms (n + 1) m (l ++ [x]) :=
 ⟨by rw [List.length_append]; have := h.1; simp; omega, fun y hy => by
  rcases List.mem_append.mp hy with hy | hy
  ·exact h.2 y hy
  ·simp only [List.mem_singleton] at hy; subst hy; exact hx⟩
theorem fms.mono {n n' : Nat} {m m' : Int} {l : List S34} (h : fms n m l) (hn : n ≤ n') (hm : m ≤ m') : fms n' m' l := ⟨Nat.le_trans h.1 hn, fun x hx => (h.2 x hx).mono hm⟩

theorem copy_loop (l : List S34) (m : Int) (hm : m ≤ 100000000) (hl : l.length ≤ 1000) (hf : ∀ x ∈ l, fm m x) (d : Nat) : ∀ (k i : Nat) (out : List S34), i + d = l.length → d + 8 ≤ k → fms i m out → out.length = i →
  ∃ l', spec_l3Copy.l0 k l out (i : Int) = some l' ∧ fms l.length m l' ∧ l'.length = l.length := by
 induction d with
 | zero =>
  intro k i out hi hk ho hn
  obtain ⟨k, rfl⟩ : ∃ m, k = m + 1 := ⟨k - 1, by omega⟩
  simp only [spec_l3Copy.l0]
  rw [if_neg (by omega)]
  exact ⟨out, rfl, ho.mono (by omega) (by omega), by omega⟩
 | succ d ih =>
  intro k i out hi hk ho hn
  obtain ⟨k, rfl⟩ : ∃ m, k = m + 1 := ⟨k - 1, by omega⟩
  simp only [spec_l3Copy.l0]
  rw [if_pos (by omega), spec_Zero_eq]; simp only [Option.bind_some]
  rw [if_pos (by omega)]
  obtain ⟨X, Y, Z, e, h⟩ := sum_fm ⟨[0, 0, 0], [0, 0], 0⟩ (rd_T34 l (i : Int)) 1 0 m m k (by omega) fm_zero (hf _ (mem_rdF l i (by omega) (by omega))) (t_one m) (by omega) (by omega)
  rw [e]; simp only [Option.bind_some]
  rw [if_pos (by omega), show wrap64 ((i : Int) + 1) = ((i + 1 : Nat) : Int) from by rw [wrap_id (by omega) (by omega)]; omega]
  exact ih k (i + 1) _ (by omega) (by omega) (ho.push (h.mono (by omega))) (by simp; omega)
theorem copy_eq (l : List S34) (n : Nat) (m : Int) (k : Nat) (hm : m ≤ 100000000) (hn : n ≤ 1000) (hf : fms n m l) (hk : n + 8 ≤ k) : ∃ l', spec_l3Copy.f k l = some l' ∧ fms n m l' ∧ l'.length = l.length := by
 unfold spec_l3Copy.f
 have hl := hf.1
 obtain ⟨l', e, h, h2⟩ := copy_loop l m hm (by omega) hf.2 l.length k 0 [] (by omega) (by omega) ⟨by simp, by simp⟩ rfl
 exact ⟨l', e, h.mono hl (by omega), h2⟩

theorem row_pots (p q r : S34) (m : Int) (hm : m ≤ 100000000) (hp : fm m p) (hq : fm m q) (hr : fm m r) (x0 x2 : List S34) (k : Nat) (hk : 20 ≤ k) :
  ∃ l', spec_l3Row.l0 k [p, q, r] 0 x0 [] x2 false = some (x0, l', x2, false) ∧ l'.length = 3 ∧ ∀ x ∈ l', fm (m + 1) x := by
 obtain ⟨k, rfl⟩ : ∃ m, k = m + 4 := ⟨k - 4, by omega⟩
 have w1 : wrap64 (0 + 1) = 1 := by unfold wrap64; omega
 have w2 : wrap64 (1 + 1) = 2 := by unfold wrap64; omega
 have w3 : wrap64 (2 + 1) = 3 := by unfold wrap64; omega
 have g0 : fm 1 (⟨[1, 0, 0], [0, 0], 0⟩ : S34) := ⟨1, 0, 0, 0, 0, 0, rfl, by omega, by omega, by omega, by omega, by omega, by omega⟩
 have g1 : fm 1 (⟨[0, 1, 0], [0, 0], 0⟩ : S34) := ⟨0, 1, 0, 0, 0, 0, rfl, by omega, by omega, by omega, by omega, by omega, by omega⟩
 have g2 : fm 1 (⟨[0, 0, 1], [0, 0], 0⟩ : S34) := ⟨0, 0, 1, 0, 0, 0, rfl, by omega, by omega, by omega, by omega, by omega, by omega⟩
 have l3 : (([p, q, r] : List S34).length : Int) = 3 := rfl
 obtain ⟨A0, B0, C0, e0, h0⟩ := sum_fm p _ (-1) m 1 1 (k + 3) (by omega) hp g0 (t_neg 1) (by omega) (by omega)
 obtain ⟨A1, B1, C1, e1, h1⟩ := sum_fm q _ (-1) m 1 1 (k + 2) (by omega) hq g1 (t_neg 1) (by omega) (by omega)
 obtain ⟨A2, B2, C2, e2, h2⟩ := sum_fm r _ (-1) m 1 1 (k + 1) (by omega) hr g2 (t_neg 1) (by omega) (by omega)
 have f0 : spec_FrmPot.f 0 = some ([1, 0, 0], [0, 0], 0) := spec_Pot_eq 0
 have f1 : spec_FrmPot.f 1 = some ([0, 1, 0], [0, 0], 0) := spec_Pot_eq 1
 have f2 : spec_FrmPot.f 2 = some ([0, 0, 1], [0, 0], 0) := spec_Pot_eq 2
 have r0 : rd_T34 [p, q, r] 0 = p := rfl
 have r1 : rd_T34 [p, q, r] 1 = q := rfl
 have r2 : rd_T34 [p, q, r] 2 = r := rfl
 refine ⟨[⟨A0, B0, C0⟩, ⟨A1, B1, C1⟩, ⟨A2, B2, C2⟩], ?_, rfl, ?_⟩
 ·simp only [spec_l3Row.l0, l3, f0, f1, f2, r0, r1, r2, Option.bind_some, w1, w2, w3]
  rw [if_pos (by decide), if_pos (by decide), if_pos (by decide), e0]; simp only [Option.bind_some]
  rw [if_pos (by simp), if_pos (by decide), if_pos (by decide), if_pos (by decide), e1]; simp only [Option.bind_some]
  rw [if_pos (by simp), if_pos (by decide), if_pos (by decide), if_pos (by decide), e2]; simp only [Option.bind_some]
  rw [if_pos (by simp), if_neg (by decide)]
  rfl
 ·intro x hx
  simp only [List.mem_cons, List.not_mem_nil, or_false] at hx
  rcases hx with rfl | rfl | rfl
  ·exact h0
  ·exact h1
  ·exact h2
theorem l3G {α : Type} {l : List α} (h : l.length = 3) : ∃ a b c, l = [a, b, c] := by
 match l, h with
 | [a, b, c], _ => exact ⟨a, b, c, rfl⟩
theorem row_eq (P G T : List S34) (n : Nat) (m : Int) (k : Nat) (hm : m ≤ 100000000) (hn : n ≤ 1000) (hp : fms 3 m P) (hp3 : P.length = 3) (hg : fms n m G) (ht : fms n m T) (hk : n + 20 ≤ k) :
  ∃ x0 x1 x2, spec_l3Row.f k P G T = some (x0, x1, x2, false) ∧ fms n m x0 ∧ (fms 3 (m + 1) x1 ∧ x1.length = 3) ∧ fms n m x2 := by
 obtain ⟨p, q, r, rfl⟩ := l3G hp3
 obtain ⟨x0, e0, h0, _⟩ := copy_eq G n m k hm hn hg (by omega)
 obtain ⟨x2, e2, h2, _⟩ := copy_eq T n m k hm hn ht (by omega)
 obtain ⟨x1, e1, h1, h3⟩ := row_pots p q r m hm (hp.2 p (by simp)) (hp.2 q (by simp)) (hp.2 r (by simp)) x0 x2 k (by omega)
 refine ⟨x0, x1, x2, ?_, h0, ⟨⟨by omega, h3⟩, h1⟩, h2⟩
 unfold spec_l3Row.f
 rw [e0]; simp only [Option.bind_some]
 rw [e2]; simp only [Option.bind_some]
 exact e1

theorem fm_frmB {m : Int} {x : S34} (h : fm m x) (hm : m ≤ 10000000) : frmB x.f0 x.f1 x.f2 = true := by
 obtain ⟨c0, c1, c2, d0, d1, K, rfl, h0, h1, h2, h3, h4, h5⟩ := h
 have w : wrap64 (-10000000) = -10000000 := wrap_id (by decide) (by decide)
 have f : ∀ y : Int, (-m ≤ y ∧ y ≤ m) → ibB y (wrap64 (-10000000)) 10000000 = true := fun y hy => ibB_iff.mpr (by rw [w]; omega)
 unfold frmB okB
 simp only [List.all_cons, List.all_nil, f c0 h0, f c1 h1, f c2 h2, f d0 h3, f d1 h4, Bool.and_true]
 rw [show ibB K (-10000000) 10000000 = true from ibB_iff.mpr (by omega)]
 rfl
theorem smallB_fm {C D : List Int} {K : Int} (h : smallB C D K = true) : ∃ c0 c1 c2 d0 d1, C = [c0, c1, c2] ∧ D = [d0, d1] ∧ (-2 ≤ c0 ∧ c0 ≤ 2) ∧ (-2 ≤ c1 ∧ c1 ≤ 2) ∧ (-2 ≤ c2 ∧ c2 ≤ 2) ∧ (-2 ≤ d0 ∧ d0 ≤ 2) ∧ (-2 ≤ d1 ∧ d1 ≤ 2) ∧ (-20 ≤ K ∧ K ≤ 20) := by
 unfold smallB at h
 simp only [Bool.and_eq_true] at h
 obtain ⟨h1, h2, h3⟩ := h
 obtain ⟨a1, a2⟩ := okB_iff.mp h1
 obtain ⟨b1, b2⟩ := okB_iff.mp h2
 have k3 := ibB_iff.mp h3
 obtain ⟨c0, c1, c2, rfl⟩ := len3 a1
 obtain ⟨d0, d1, rfl⟩ := len2 b1
 rw [show wrap64 (-2) = -2 from wrap_id (by decide) (by decide)] at a2 b2
 exact ⟨c0, c1, c2, d0, d1, rfl, rfl, a2 c0 (by simp), a2 c1 (by simp), a2 c2 (by simp), b2 d0 (by simp), b2 d1 (by simp), k3⟩
theorem intoS_eq (C D : List Int) (K : Int) (P : List S34) (m : Int) (k : Nat) (hm0 : 0 ≤ m) (hm : m ≤ 1000000) (hk : 20 ≤ k) (hs : smallB C D K = true) (hp : fms 3 m P) (hp3 : P.length = 3) :
  ∃ X Y Z, spec_FrmInto.f k C D K P = some (X, Y, Z) ∧ fm (20 + 6 * m) ⟨X, Y, Z⟩ := by
 obtain ⟨k, rfl⟩ : ∃ m, k = m + 5 := ⟨k - 5, by omega⟩
 obtain ⟨p, q, r, rfl⟩ : ∃ a b c, P = [a, b, c] := by
  match P, hp3 with
  | [a, b, c], _ => exact ⟨a, b, c, rfl⟩
 obtain ⟨c0, c1, c2, d0, d1, rfl, rfl, b0, b1, b2, b3, b4, b5⟩ := smallB_fm hs
 have hF : fm 20 (⟨[c0, c1, c2], [d0, d1], K⟩ : S34) := ⟨c0, c1, c2, d0, d1, K, rfl, by omega, by omega, by omega, by omega, by omega, by omega⟩
 have hO : fm 20 (⟨[0, 0, 0], [d0, d1], K⟩ : S34) := ⟨0, 0, 0, d0, d1, K, rfl, by omega, by omega, by omega, by omega, by omega, by omega⟩
 have hp := fun x (hx : x ∈ [p, q, r]) => hp.2 x hx
 have p0 := hp p (by simp)
 have p1 := hp q (by simp)
 have p2 := hp r (by simp)
 have ok : ∀ (j : Nat) (x : S34) (n : Int), fm n x → n ≤ 10000000 → 3 < j → spec_FrmOk.f j x.f0 x.f1 x.f2 = some true := fun j x n hx hn hj => by
  rw [spec_Frm_eq _ _ _ _ (by have := hx.len; omega) (by have := hx.len; omega) (by have := hx.len; omega) (by have := hx.len; omega), fm_frmB hx hn]
 obtain ⟨X0, Y0, Z0, e0, h0⟩ := sum_fm _ p c0 20 m (2 * m) (k + 3) (by omega) hO p0 (t_two m c0 b0.1 b0.2) (by omega) (by omega)
 obtain ⟨X1, Y1, Z1, e1, h1⟩ := sum_fm _ q c1 _ m (2 * m) (k + 2) (by omega) h0 p1 (t_two m c1 b1.1 b1.2) (by omega) (by omega)
 obtain ⟨X2, Y2, Z2, e2, h2⟩ := sum_fm _ r c2 _ m (2 * m) (k + 1) (by omega) h1 p2 (t_two m c2 b2.1 b2.2) (by omega) (by omega)
 have w1 : wrap64 (0 + 1) = 1 := by unfold wrap64; omega
 have w2 : wrap64 (1 + 1) = 2 := by unfold wrap64; omega
 have w3 : wrap64 (2 + 1) = 3 := by unfold wrap64; omega
 have l3 : (([p, q, r] : List S34).length : Int) = 3 := rfl
 have lc : (([c0, c1, c2] : List Int).length : Int) = 3 := rfl
 have r0 : rd_T34 [p, q, r] 0 = p := rfl
 have r1 : rd_T34 [p, q, r] 1 = q := rfl
 have r2 : rd_T34 [p, q, r] 2 = r := rfl
 have y0 : rd [c0, c1, c2] 0 = c0 := rfl
 have y1 : rd [c0, c1, c2] 1 = c1 := rfl
 have y2 : rd [c0, c1, c2] 2 = c2 := rfl
 refine ⟨X2, Y2, Z2, ?_, h2.mono (by omega)⟩
 have f0 : spec_FrmOk.f (k + 5) [c0, c1, c2] [d0, d1] K = some true := ok (k + 5) _ 20 hF (by omega) (by omega)
 have f9 : spec_FrmOk.f k X2 Y2 Z2 = some true := ok k ⟨X2, Y2, Z2⟩ _ h2 (by omega) (by omega)
 unfold spec_FrmInto.f
 rw [f0]; simp only [Option.bind_some, l3, r0, r1, r2, ok (k + 5) p m p0 (by omega) (by omega), ok (k + 5) q m p1 (by omega) (by omega), ok (k + 5) r m p2 (by omega) (by omega)]
 simp only [if_true, show ((0 : Int) < 3) from by decide, show ((1 : Int) < 3) from by decide, show ((2 : Int) < 3) from by decide, Bool.not_true]
 simp only [spec_FrmInto.j0, Bool.false_eq_true, if_false, Option.bind_some, List.nil_append]
 rw [if_pos (by simp)]
 simp only [spec_FrmInto.l0, l3, lc, r0, r1, r2, y0, y1, y2, w1, w2, w3]
 rw [if_pos (by decide), if_pos (by decide), if_pos (by decide), if_pos (by decide), e0]; simp only [Option.bind_some]
 rw [if_pos (by decide), if_pos (by decide), if_pos (by decide), if_pos (by decide), e1]; simp only [Option.bind_some]
 rw [if_pos (by decide), if_pos (by decide), if_pos (by decide), if_pos (by decide), e2]; simp only [Option.bind_some]
 rw [if_neg (by decide), f9]
 rfl

theorem minus_eq (x : S34) (m : Int) (k : Nat) (hm : m ≤ 100000000) (hx : fm m x) (hk : 7 ≤ k) : ∃ X Y Z, spec_l3Minus.f k x.f0 x.f1 x.f2 = some (X, Y, Z) ∧ fm (m + 1) ⟨X, Y, Z⟩ := by
 obtain ⟨X, Y, Z, e, h⟩ := sum_fm ⟨[0, 0, 0], [0, 0], 0⟩ x (-1) 0 m m k hk fm_zero hx (t_neg m) (by omega) (by omega)
 unfold spec_l3Minus.f
 rw [spec_Zero_eq]; simp only [Option.bind_some]
 rw [e]; simp only [Option.bind_some]
 obtain ⟨c0, c1, c2, d0, d1, K, e9, h0, h1, h2, h3, h4, h5⟩ := h
 obtain ⟨rfl, rfl, rfl⟩ : X = [c0, c1, c2] ∧ Y = [d0, d1] ∧ Z = K := by injection e9 with a b c; exact ⟨a, b, c⟩
 exact ⟨_, _, _, rfl, c0, c1, c2, d0, d1, _, rfl, by omega, by omega, by omega, by omega, by omega, by rw [wrap_id (by omega) (by omega)]; omega⟩

def bnd : Nat → Int
 | 0 => 1
 | i + 1 => 7 * bnd i + 20
theorem bnd_le : ∀ j : Nat, j ≤ 6 → 1 ≤ bnd j ∧ bnd j ≤ 509809 := by
 intro j hj
 obtain rfl | rfl | rfl | rfl | rfl | rfl | rfl : j = 0 ∨ j = 1 ∨ j = 2 ∨ j = 3 ∨ j = 4 ∨ j = 5 ∨ j = 6 := by omega
 all_goals decide
def wayP (r : S25) : Prop := fms 6 9000001 r.f0 ∧ fms 3 9000001 r.f1 ∧ fms 6 9000001 r.f2
theorem mem_rdA (l : List S100) (i : Int) (h0 : 0 ≤ i) (h1 : i < (l.length : Int)) : rd_T100 l i ∈ l := by
 obtain ⟨n, rfl⟩ := Int.eq_ofNat_of_zero_le h0
 have hn : n < l.length := by omega
 rw [show rd_T100 l (n : Int) = l[n] from getDG z100 l n hn]
 exact List.getElem_mem hn
theorem walk_end (A : List S100) (k : Nat) (at_ : Int) (P G T : List S34) (j : Nat) (h1 : (A.length : Int) ≤ at_) (hk : 60 < k) (hj : j ≤ 6) (hp : fms 3 (bnd j) P) (hp3 : P.length = 3) (hg : fms 6 9000000 G) (ht : fms 6 9000000 T) :
  ∃ R, spec_l3Walk.l0 k A P G T at_ = some R ∧ 0 < R.length ∧ R.length ≤ 1 ∧ ∀ r ∈ R, wayP r := by
 obtain ⟨k, rfl⟩ : ∃ m, k = m + 1 := ⟨k - 1, by omega⟩
 have hb := bnd_le j hj
 obtain ⟨x0, x1, x2, e, g0, g1, g2⟩ := row_eq P G T 6 9000000 k (by omega) (by omega) (hp.mono (by omega) (by omega)) hp3 hg ht (by omega)
 refine ⟨[⟨x0, x1, x2, false⟩], ?_, by simp, by simp, ?_⟩
 ·simp only [spec_l3Walk.l0]
  rw [if_neg (by omega), e]; rfl
 ·intro r hr
  simp only [List.mem_singleton] at hr
  subst hr
  exact ⟨g0.mono (by omega) (by omega), g1.1.mono (by omega) (by omega), g2.mono (by omega) (by omega)⟩
theorem walk_eq (A : List S100) (hA : ∀ x ∈ A, lnB x = true) (hl : A.length ≤ 6) (d : Nat) : ∀ (k : Nat) (at_ : Int) (P G T : List S34) (j : Nat), (A.length : Int) - at_ ≤ (d : Int) → 0 ≤ at_ → at_ ≤ 20 → 3 * d + 100 < k → j + d ≤ 6 → fms 3 (bnd j) P → P.length = 3 → fms j 9000000 G → fms j 9000000 T →
  ∃ R, spec_l3Walk.l0 k A P G T at_ = some R ∧ 0 < R.length ∧ R.length ≤ 2 ^ d ∧ ∀ r ∈ R, wayP r := by
 induction d with
 | zero =>
  intro k at_ P G T j hd h0 h1 hk hj hp hp3 hg ht
  exact walk_end A k at_ P G T j (by omega) (by omega) (by omega) hp hp3 (hg.mono (by omega) (by omega)) (ht.mono (by omega) (by omega))
 | succ d ih =>
  intro k at_ P G T j hd h0 h1 hk hj hp hp3 hg ht
  have one : 1 ≤ 2 ^ (d + 1) := Nat.one_le_two_pow
  have two : 2 ^ (d + 1) = 2 ^ d + 2 ^ d := by rw [Nat.pow_succ]; omega
  by_cases hat : at_ < (A.length : Int)
  ·obtain ⟨k, rfl⟩ : ∃ m, k = m + 2 := ⟨k - 2, by omega⟩
   have hx := hA _ (mem_rdA A at_ h0 hat)
   generalize hX : rd_T100 A at_ = X at hx
   obtain ⟨a, b, c, ⟨C, D, K⟩⟩ := X
   have hb := bnd_le j (by omega)
   have hb2 := bnd_le (j + 1) (by omega)
   have hbe : bnd (j + 1) = 7 * bnd j + 20 := rfl
   have wi : wrap64 (at_ + 1) = at_ + 1 := wrap_id (by omega) (by omega)
   simp only [spec_l3Walk.l0, hX, wi]
   rw [if_pos hat, if_pos h0]
   by_cases h4 : a = 4
   ·obtain ⟨x0, e, g, _⟩ := copy_eq G 6 9000000 (k + 1) (by omega) (by omega) (hg.mono (by omega) (by omega)) (by omega)
    rw [if_pos h4, e]; simp only [Option.bind_some]
    refine ⟨_, rfl, by simp, by simp; omega, fun r hr => ?_⟩
    simp only [List.mem_singleton] at hr
    subst hr
    exact ⟨g.mono (by omega) (by omega), ⟨by simp, by simp⟩, ⟨by simp, by simp⟩⟩
   ·rw [if_neg h4]
    have hs : smallB C D K = true ∧ (a = 1 → 1 ≤ c ∧ c ≤ 6) ∧ (a = 2 → 0 ≤ b ∧ b ≤ 2) := by
     have hx' : lineB a b c C D K = true := hx
     rcases lineB_cases hx' with ⟨e, q, s⟩ | ⟨e, q, s⟩ | ⟨e, s⟩ | e
     ·exact ⟨s, fun _ => q, fun h => absurd h (by omega)⟩
     ·exact ⟨s, fun h => absurd h (by omega), fun _ => q⟩
     ·exact ⟨s, fun h => absurd h (by omega), fun h => absurd h (by omega)⟩
     ·exact absurd e h4
    obtain ⟨hs, hs1, hs2⟩ := hs
    obtain ⟨X, Y, Z, eF, hF⟩ := intoS_eq C D K P (bnd j) (k + 1) (by omega) (by omega) (by omega) hs hp hp3
    have hF' : fm 9000000 (⟨X, Y, Z⟩ : S34) := hF.mono (by omega)
    rw [eF]; simp only [Option.bind_some]
    by_cases h1' : a = 1
    ·have hc := hs1 h1'
     obtain ⟨P1, eP, gP, nP⟩ := copy_eq P 3 (bnd j) (k + 1) (by omega) (by omega) hp (by omega)
     obtain ⟨G1, eG, gG, nG⟩ := copy_eq G j 9000000 (k + 1) (by omega) (by omega) hg (by omega)
     obtain ⟨T1, eT, gT, nT⟩ := copy_eq T j 9000000 (k + 1) (by omega) (by omega) ht (by omega)
     have hj2 : bnd j ≤ bnd (j + 1) := by omega
     have hlG := gG.1
     obtain ⟨X', Y', Z', eM, hM⟩ := minus_eq ⟨X, Y, Z⟩ (20 + 6 * bnd j) (k + 1) (by omega) hF (by omega)
     obtain ⟨R1, eR1, p1, q1, w1⟩ := ih k (at_ + 1) P1 (G1 ++ [⟨X, Y, Z⟩]) T1 (j + 1) (by omega) (by omega) (by omega) (by omega) (by omega) (gP.mono (by omega) hj2) (by omega) (gG.push hF') (gT.mono (by omega) (by omega))
     obtain ⟨R2, eR2, p2, q2, w2⟩ := ih k (at_ + 1 + c) P1 (G1 ++ [⟨X', Y', Z'⟩]) T1 (j + 1) (by omega) (by omega) (by omega) (by omega) (by omega) (gP.mono (by omega) hj2) (by omega) (gG.push (hM.mono (by omega))) (gT.mono (by omega) (by omega))
     have h64 : 2 ^ d ≤ 64 := Nat.le_trans (Nat.pow_le_pow_right (by omega) (by omega : d ≤ 6)) (by decide)
     rw [if_pos h1', eP, eG, eT]; simp only [Option.bind_some, spec_l3Walk.f]
     rw [if_pos (by simp; omega), eR1]; simp only [Option.bind_some]
     rw [eM]; simp only [Option.bind_some]
     rw [if_pos (by simp; omega), wrap_id (x := at_ + 1 + c) (by omega) (by omega), eR2]; simp only [Option.bind_some]
     rw [if_pos (by omega)]
     refine ⟨R1 ++ R2, rfl, by rw [List.length_append]; omega, by rw [List.length_append]; omega, fun r hr => ?_⟩
     rcases List.mem_append.mp hr with hr | hr
     ·exact w1 r hr
     ·exact w2 r hr
    ·rw [if_neg h1']
     have le2 : 2 ^ d ≤ 2 ^ (d + 1) := by omega
     by_cases h2' : a = 2
     ·have hc := hs2 h2'
      obtain ⟨P1, eP, gP, nP⟩ := copy_eq P 3 (bnd j) (k + 1) (by omega) (by omega) hp (by omega)
      obtain ⟨X', Y', Z', eS, hS⟩ := sum_fm (rd_T34 P1 b) ⟨X, Y, Z⟩ 1 (bnd j) (20 + 6 * bnd j) (20 + 6 * bnd j) (k + 1) (by omega) (gP.2 _ (mem_rdF P1 b hc.1 (by omega))) hF (t_one _) (by omega) (by omega)
      rw [if_pos h2', eP]; simp only [Option.bind_some]
      rw [if_pos hc.1, if_pos (by omega), eS]; simp only [Option.bind_some]
      have hpp : fms 3 (bnd (j + 1)) (P1.set b.toNat ⟨X', Y', Z'⟩) := ⟨by rw [List.length_set]; omega, fun y hy => by
       rcases List.mem_or_eq_of_mem_set hy with hy | rfl
       ·exact (gP.2 y hy).mono (by omega)
       ·exact hS.mono (by omega)⟩
      obtain ⟨R, eR, p, q, w⟩ := ih (k + 1) (at_ + 1) (P1.set b.toNat ⟨X', Y', Z'⟩) G T (j + 1) (by omega) (by omega) (by omega) (by omega) (by omega) hpp (by rw [List.length_set]; omega) (hg.mono (by omega) (by omega)) (ht.mono (by omega) (by omega))
      exact ⟨R, eR, p, by omega, w⟩
     ·obtain ⟨T1, eT, gT, nT⟩ := copy_eq T j 9000000 (k + 1) (by omega) (by omega) ht (by omega)
      have hlT := gT.1
      rw [if_neg h2', eT]; simp only [Option.bind_some]
      rw [if_pos (by simp; omega)]
      obtain ⟨R, eR, p, q, w⟩ := ih (k + 1) (at_ + 1) P G (T1 ++ [⟨X, Y, Z⟩]) (j + 1) (by omega) (by omega) (by omega) (by omega) (by omega) (hp.mono (by omega) (by omega)) hp3 (hg.mono (by omega) (by omega)) (gT.push hF')
      exact ⟨R, eR, p, by omega, w⟩
  ·obtain ⟨R, e, p, q, w⟩ := walk_end A k at_ P G T j (by omega) (by omega) (by omega) hp hp3 (hg.mono (by omega) (by omega)) (ht.mono (by omega) (by omega))
   exact ⟨R, e, p, by omega, w⟩

theorem rowsOf_eq (A : List S100) (k : Nat) (hk : 2097154 < k) (hl : (A.length : Int) ≤ 1048576) (hw : ∀ x ∈ A, (x.f3.f0.length : Int) ≤ 1048576 ∧ (x.f3.f1.length : Int) ≤ 1048576) :
  ∃ R, spec_RowsOf.f k A = some R ∧ (actB A = true → 0 < R.length) ∧ R.length ≤ 64 ∧ ∀ r ∈ R, wayP r := by
 unfold spec_RowsOf.f
 rw [spec_Act_eq A k hk hl hw]; simp only [Option.bind_some]
 cases hA : actB A with
 | false => exact ⟨[], rfl, fun h => absurd h (by decide), by simp, by simp⟩
 | true =>
  rw [if_pos rfl, spec_Pot_eq, spec_Pot_eq, spec_Pot_eq]; simp only [Option.bind_some]
  obtain ⟨h6, hall⟩ := actG_all A 0 _ hA
  have g0 : fm 1 (⟨[1, 0, 0], [0, 0], 0⟩ : S34) := ⟨1, 0, 0, 0, 0, 0, rfl, by omega, by omega, by omega, by omega, by omega, by omega⟩
  have g1 : fm 1 (⟨[0, 1, 0], [0, 0], 0⟩ : S34) := ⟨0, 1, 0, 0, 0, 0, rfl, by omega, by omega, by omega, by omega, by omega, by omega⟩
  have g2 : fm 1 (⟨[0, 0, 1], [0, 0], 0⟩ : S34) := ⟨0, 0, 1, 0, 0, 0, rfl, by omega, by omega, by omega, by omega, by omega, by omega⟩
  obtain ⟨k, rfl⟩ : ∃ m, k = m + 1 := ⟨k - 1, by omega⟩
  obtain ⟨R, e, p, q, w⟩ := walk_eq A hall (by omega) 6 k 0 [⟨[1, 0, 0], [0, 0], 0⟩, ⟨[0, 1, 0], [0, 0], 0⟩, ⟨[0, 0, 1], [0, 0], 0⟩] [] [] 0 (by omega) (by omega) (by omega) (by omega) (by omega) ⟨by simp, fun x hx => by
   simp only [List.mem_cons, List.not_mem_nil, or_false] at hx
   rcases hx with rfl | rfl | rfl
   ·exact g0
   ·exact g1
   ·exact g2⟩ rfl ⟨by simp, by simp⟩ ⟨by simp, by simp⟩
  refine ⟨R, ?_, fun _ => p, q, w⟩
  show (spec_l3Walk.f (k + 1) A 0 [⟨[1, 0, 0], [0, 0], 0⟩, ⟨[0, 1, 0], [0, 0], 0⟩, ⟨[0, 0, 1], [0, 0], 0⟩] [] []).bind _ = _
  simp only [spec_l3Walk.f]
  rw [e]; rfl

theorem reads_loop (l : List S34) (hl : l.length ≤ 1000) (hf : ∀ x ∈ l, x.f0.length = 3) (d : Nat) : ∀ (k i : Nat) (out : List Bool), i + d = l.length → 5 * d < k → out.length = 3 →
  ∃ o, spec_l4Reads.l0 k l out (i : Int) = some o ∧ o.length = 3 := by
 induction d with
 | zero =>
  intro k i out hi hk ho
  obtain ⟨k, rfl⟩ : ∃ m, k = m + 1 := ⟨k - 1, by omega⟩
  simp only [spec_l4Reads.l0]
  rw [if_neg (by omega)]
  exact ⟨out, rfl, ho⟩
 | succ d ih =>
  intro k i out hi hk ho
  obtain ⟨k, rfl⟩ : ∃ m, k = m + 1 := ⟨k - 1, by omega⟩
  simp only [spec_l4Reads.l0]
  rw [if_pos (by omega)]
  have hx := hf _ (mem_rdF l (i : Int) (by omega) (by omega))
  have in1 : ∀ (e k v : Nat) (out : List Bool), v + e = 3 → e + 5 * d + 1 < k → out.length = 3 → ∃ o, spec_l4Reads.l1 k l out (i : Int) (v : Int) = some o ∧ o.length = 3 := by
   intro e
   induction e with
   | zero =>
    intro k v out hv hk ho
    obtain ⟨k, rfl⟩ : ∃ m, k = m + 1 := ⟨k - 1, by omega⟩
    simp only [spec_l4Reads.l1]
    rw [if_neg (by omega), show wrap64 ((i : Int) + 1) = ((i + 1 : Nat) : Int) from by rw [wrap_id (by omega) (by omega)]; omega]
    exact ih k (i + 1) out (by omega) (by omega) ho
   | succ e ih2 =>
    intro k v out hv hk ho
    obtain ⟨k, rfl⟩ : ∃ m, k = m + 1 := ⟨k - 1, by omega⟩
    simp only [spec_l4Reads.l1]
    rw [if_pos (by omega), if_pos (by omega), if_pos (by omega), if_pos (by omega), if_pos (by omega), show wrap64 ((v : Int) + 1) = ((v + 1 : Nat) : Int) from by rw [wrap_id (by omega) (by omega)]; omega]
    by_cases hz : rd (rd_T34 l (i : Int)).f0 (v : Int) = 0
    ·rw [if_pos hz]; exact ih2 k (v + 1) out (by omega) (by omega) ho
    ·rw [if_neg hz, if_pos (by omega)]; exact ih2 k (v + 1) _ (by omega) (by omega) (by rw [List.length_set]; exact ho)
  exact in1 3 k 0 out (by omega) (by omega) ho
theorem reads_eq (o : List Bool) (l : List S34) (n : Nat) (m : Int) (k : Nat) (ho : o.length = 3) (hf : fms n m l) (hn : n ≤ 1000) (hk : 5 * n < k) : ∃ o', spec_l4Reads.f k o l = some o' ∧ o'.length = 3 := by
 unfold spec_l4Reads.f
 simp only [Option.bind_some, List.nil_append]
 have hl := hf.1
 rw [if_pos (by simp; omega)]
 exact reads_loop l (by omega) (fun x hx => (hf.2 x hx).len.1) l.length k 0 o (by omega) (by omega) ho

theorem catL_len : ∀ (s : Int) (C : List Int), (catL s C).length = C.length
 | _, [] => rfl
 | s, x :: xs => by simp only [catL, List.length_cons]; rw [catL_len]
theorem part_some (C D : List Int) (K : Int) (k : Nat) (hC : C.length ≤ 1000) (hk : 2010 < k) : ∃ p, spec_CatPart.f k C D K = some p ∧ p.length = C.length := by
 unfold spec_CatPart.f
 have := spec_part_loop C D K (by omega) C.length k 0 [] 0 (by omega) (by omega) rfl
 exact ⟨_, this, by simp [catL_len]⟩

def prt (n : Nat) (l : List (List Int)) : Prop := l.length ≤ n ∧ ∀ x ∈ l, x.length ≤ 3
theorem prt.push {n : Nat} {l : List (List Int)} {x : List Int} (h : prt n l) (hx : x.length ≤ 3) : prt (n + 1) (l ++ [x]) :=
 ⟨by rw [List.length_append]; have := h.1; simp; omega, fun y hy => by
  rcases List.mem_append.mp hy with hy | hy
  ·exact h.2 y hy
  ·simp only [List.mem_singleton] at hy; subst hy; exact hx⟩
theorem prt.mono {n m : Nat} {l : List (List Int)} (h : prt n l) (hn : n ≤ m) : prt m l := ⟨Nat.le_trans h.1 hn, h.2⟩
theorem mem_rdR (l : List S25) (i : Int) (h0 : 0 ≤ i) (h1 : i < (l.length : Int)) : rd_T25 l i ∈ l := by
 obtain ⟨n, rfl⟩ := Int.eq_ofNat_of_zero_le h0
 have hn : n < l.length := by omega
 rw [show rd_T25 l (n : Int) = l[n] from getDG z25 l n hn]
 exact List.getElem_mem hn
theorem both3 (A : List (List S100)) (R : List S25) (r : Nat) (i : Int) (hr : r < R.length) (hR : R.length ≤ 64) (hw : wayP (rd_T25 R (r : Int))) (pins : List Bool) (d : Nat) : ∀ (k g n : Nat) (out : List (List Int)), g + d = ((rd_T25 R (r : Int)).f0).length → d + 2097160 < k → n + d ≤ 2000 → prt n out →
  ∃ out' k', spec_l4Both.l3 k A out pins i R (r : Int) (g : Int) = spec_l4Both.l2 k' A out' pins i R ((r + 1 : Nat) : Int) ∧ k = k' + d + 1 ∧ prt (n + d) out' := by
 have hg6 := hw.1.1
 induction d with
 | zero =>
  intro k g n out hg hk hn ho
  obtain ⟨k, rfl⟩ : ∃ m, k = m + 1 := ⟨k - 1, by omega⟩
  simp only [spec_l4Both.l3]
  rw [if_pos (by omega), if_pos (by omega), if_neg (by omega), show wrap64 ((r : Int) + 1) = ((r + 1 : Nat) : Int) from by rw [wrap_id (by omega) (by omega)]; omega]
  exact ⟨out, k, rfl, by omega, ho⟩
 | succ d ih =>
  intro k g n out hg hk hn ho
  obtain ⟨k, rfl⟩ : ∃ m, k = m + 1 := ⟨k - 1, by omega⟩
  have hf := (hw.1.2 _ (mem_rdF _ (g : Int) (by omega) (by omega))).len
  obtain ⟨p, ep, lp⟩ := part_some _ (rd_T34 (rd_T25 R (r : Int)).f0 (g : Int)).f1 (rd_T34 (rd_T25 R (r : Int)).f0 (g : Int)).f2 k (by omega : (rd_T34 (rd_T25 R (r : Int)).f0 (g : Int)).f0.length ≤ 1000) (by omega)
  have hol := ho.1
  simp only [spec_l4Both.l3]
  rw [if_pos (by omega), if_pos (by omega), if_pos (by omega), if_pos (by omega), ep]; simp only [Option.bind_some]
  rw [spec_CatHas_eq out p k (by omega) (by omega) (fun x hx => by have := ho.2 x hx; omega)]; simp only [Option.bind_some]
  rw [show wrap64 ((g : Int) + 1) = ((g + 1 : Nat) : Int) from by rw [wrap_id (by omega) (by omega)]; omega]
  have go : ∀ (out : List (List Int)), prt (n + 1) out → ∃ out' k', spec_l4Both.l3 k A out pins i R (r : Int) ((g + 1 : Nat) : Int) = spec_l4Both.l2 k' A out' pins i R ((r + 1 : Nat) : Int) ∧ k + 1 = k' + (d + 1) + 1 ∧ prt (n + (d + 1)) out' := fun out ho => by
   obtain ⟨o, k', e, ek, h⟩ := ih k (g + 1) (n + 1) out (by omega) (by omega) (by omega) ho
   exact ⟨o, k', e, by omega, h.mono (by omega)⟩
  by_cases hi : idxOf (fun x => decide (x = p)) out < 0
  ·rw [if_pos hi, spec_Zero_eq]; simp only [Option.bind_some]
   rw [l4_eq p _ k (by omega) (by omega)]; simp only [Option.bind_some]
   by_cases hz : p = [0, 0, 0]
   ·rw [if_pos (decide_eq_true hz)]
    exact go out (ho.mono (by omega))
   ·rw [if_neg (by simp [hz]), if_pos (by omega)]
    exact go _ (ho.push (by omega))
  ·rw [if_neg hi]
   exact go out (ho.mono (by omega))
theorem both2 (A : List (List S100)) (R : List S25) (i : Nat) (hi : i ≤ 100) (hR : R.length ≤ 64) (hw : ∀ r ∈ R, wayP r) (d : Nat) : ∀ (k r n : Nat) (out : List (List Int)) (pins : List Bool), r + d = R.length → 10 * d + 2097170 < k → n + 6 * d ≤ 2000 → prt n out → pins.length = 3 →
  ∃ out' pins' k', spec_l4Both.l2 k A out pins (i : Int) R (r : Int) = spec_l4Both.l1 k' A out' pins' ((i + 1 : Nat) : Int) ∧ k ≤ k' + 10 * d + 1 ∧ prt (n + 6 * d) out' ∧ pins'.length = 3 := by
 induction d with
 | zero =>
  intro k r n out pins hr hk hn ho hp
  obtain ⟨k, rfl⟩ : ∃ m, k = m + 1 := ⟨k - 1, by omega⟩
  simp only [spec_l4Both.l2]
  rw [if_neg (by omega), show wrap64 ((i : Int) + 1) = ((i + 1 : Nat) : Int) from by rw [wrap_id (by omega) (by omega)]; omega]
  exact ⟨out, pins, k, rfl, by omega, ho, hp⟩
 | succ d ih =>
  intro k r n out pins hr hk hn ho hp
  obtain ⟨k, rfl⟩ : ∃ m, k = m + 1 := ⟨k - 1, by omega⟩
  have hx := hw _ (mem_rdR R (r : Int) (by omega) (by omega))
  simp only [spec_l4Both.l2]
  rw [if_pos (by omega), if_pos (by omega)]
  obtain ⟨o1, e1, p1⟩ := reads_eq pins _ 3 _ k hp hx.2.1 (by omega) (by omega)
  rw [e1]; simp only [Option.bind_some]
  obtain ⟨o2, e2, p2⟩ := reads_eq o1 _ 6 _ k p1 hx.2.2 (by omega) (by omega)
  rw [e2]; simp only [Option.bind_some]
  have hg6 := hx.1.1
  obtain ⟨out', k', e3, ek, h3⟩ := both3 A R r (i : Int) (by omega) hR hx o2 (rd_T25 R (r : Int)).f0.length k 0 n out (by omega) (by omega) (by omega) ho
  have e3' := e3
  rw [show ((0 : Nat) : Int) = 0 from rfl] at e3'
  rw [e3']
  obtain ⟨out2, pins2, k2, e4, ek2, h4, h5⟩ := ih k' (r + 1) (n + 6) out' o2 (by omega) (by omega) (by omega) (h3.mono (by omega)) p2
  exact ⟨out2, pins2, k2, e4, by omega, h4.mono (by omega), h5⟩
theorem both1 (A : List (List S100)) (hA : A.length ≤ 4) (hs : ∀ y ∈ A, smA y 8) (d : Nat) : ∀ (k i n : Nat) (out : List (List Int)) (pins : List Bool), i + d = A.length → 700 * d + 2097900 < k → n + 384 * d ≤ 2000 → prt n out → pins.length = 3 →
  ∃ out' pins', spec_l4Both.l1 k A out pins (i : Int) = some (out', pins') ∧ prt 2000 out' := by
 induction d with
 | zero =>
  intro k i n out pins hi hk hn ho hp
  obtain ⟨k, rfl⟩ : ∃ m, k = m + 1 := ⟨k - 1, by omega⟩
  simp only [spec_l4Both.l1]
  rw [if_neg (by omega)]
  exact ⟨out, pins, rfl, ho.mono (by omega)⟩
 | succ d ih =>
  intro k i n out pins hi hk hn ho hp
  obtain ⟨k, rfl⟩ : ∃ m, k = m + 1 := ⟨k - 1, by omega⟩
  have hlt : i < A.length := by omega
  have hx := hs _ (List.getElem_mem hlt)
  simp only [spec_l4Both.l1]
  rw [if_pos (by omega), if_pos (by omega), show rd_L5 A (i : Int) = A[i] from getDG [] A i hlt]
  obtain ⟨R, eR, _, hR, hw⟩ := rowsOf_eq A[i] k (by omega) (by have := hx.1; omega) hx.sz
  rw [eR]; simp only [Option.bind_some]
  obtain ⟨out', pins', k', e, ek, h1, h2⟩ := both2 A R i (by omega) hR hw R.length k 0 n out pins (by omega) (by omega) (by omega) ho hp
  have e' := e
  rw [show ((0 : Nat) : Int) = 0 from rfl] at e'
  rw [e']
  exact ih k' (i + 1) (n + 384) out' pins' (by omega) (by omega) (by omega) (h1.mono (by omega)) h2
theorem both_eq (A : List (List S100)) (hA : A.length ≤ 4) (hs : ∀ y ∈ A, smA y 8) (k : Nat) (hk : 2100800 < k) : ∃ out pins, spec_l4Both.f k A = some (out, pins) ∧ prt 2000 out := by
 obtain ⟨k, rfl⟩ : ∃ m, k = m + 4 := ⟨k - 4, by omega⟩
 have w1 : wrap64 (0 + 1) = 1 := by unfold wrap64; omega
 have w2 : wrap64 (1 + 1) = 2 := by unfold wrap64; omega
 have w3 : wrap64 (2 + 1) = 3 := by unfold wrap64; omega
 have f0 : spec_FrmPot.f 0 = some ([1, 0, 0], [0, 0], 0) := spec_Pot_eq 0
 have f1 : spec_FrmPot.f 1 = some ([0, 1, 0], [0, 0], 0) := spec_Pot_eq 1
 have f2 : spec_FrmPot.f 2 = some ([0, 0, 1], [0, 0], 0) := spec_Pot_eq 2
 unfold spec_l4Both.f
 simp only [spec_l4Both.l0, f0, f1, f2, Option.bind_some, w1, w2, w3]
 rw [if_pos (by decide), if_pos (by simp), if_pos (by decide), if_pos (by simp), if_pos (by decide), if_pos (by simp), if_neg (by decide)]
 exact both1 A hA hs A.length k 0 3 _ _ (by omega) (by omega) (by omega) ⟨by simp, by simp⟩ rfl

theorem forms_eq (A : List (List S100)) (hs : smP A 4) (k : Nat) (hk : 3145732 < k) : ∃ P, spec_CatForms.f k A = some P ∧ prt 2000 P := by
 unfold spec_CatForms.f
 have hl := hs.1
 rw [spec_Cat_eq A k hk (by omega) (fun y hy => ⟨by have := (hs.2 y hy).1; omega, (hs.2 y hy).sz⟩)]; simp only [Option.bind_some]
 cases catB A with
 | false => exact ⟨[], rfl, by simp [prt]⟩
 | true =>
  obtain ⟨out, pins, e, h⟩ := both_eq A hl hs.2 k (by omega)
  rw [if_pos rfl, e]
  exact ⟨out, rfl, h⟩

theorem added_eq (L : List Int) (hL : ∀ x ∈ L, (Lit.int .u8 x).wf = true) (hl : L.length ≤ 2000) (s n : Int) (k : Nat) (hk : 9 ≤ k) (h0 : 0 ≤ s) (h1 : s ≤ 900000) (hn : 1 ≤ n) :
  ∃ v s', spec_l20Added.f k L s n = some (v, s') ∧ s ≤ s' ∧ s' ≤ s + 7 ∧ smallL v 4 20001 := by
 unfold spec_l20Added.f
 obtain ⟨v1, e1, a1, b1⟩ := pick_eq L hL hl s 9 k (by omega) h0 (by omega) (by omega)
 rw [e1]; simp only [Option.bind_some]
 obtain ⟨v2, e2, a2, b2⟩ := pick_eq L hL hl (s + 1) 9 k (by omega) (by omega) (by omega) (by omega)
 rw [e2]; simp only [Option.bind_some]
 obtain ⟨v3, e3, a3, b3⟩ := pick_eq L hL hl (s + 1 + 1) 4 k (by omega) (by omega) (by omega) (by omega)
 rw [e3]; simp only [Option.bind_some]
 have hq : smallL [0, 0, 1, -2] 4 20001 := ⟨by simp, by simp⟩
 have hq2 := hq.rd v3 a3 (by simpa using b3)
 rw [if_pos a3, if_pos (by simpa using b3)]
 rw [wrap_id (x := v1 - 4) (by omega) (by omega), wrap_id (x := v2 - 4) (by omega) (by omega)]
 generalize rd [0, 0, 1, -2] v3 = z at hq2 ⊢
 have hs : smallL [v1 - 4, v2 - 4, z] 3 20001 := ⟨by simp, by
  intro x hx
  simp only [List.mem_cons, List.not_mem_nil, or_false] at hx
  rcases hx with rfl | rfl | rfl <;> omega⟩
 have h3 : [v1 - 4, v2 - 4, z].length = 3 := rfl
 generalize [v1 - 4, v2 - 4, z] = y at hs h3 ⊢
 obtain ⟨v4, e4, a4, b4⟩ := pick_eq L hL hl (s + 1 + 1 + 1) n k (by omega) (by omega) (by omega) (by omega)
 rw [e4]; simp only [Option.bind_some]
 by_cases c1 : v4 = 0
 ·obtain ⟨v5, e5, a5, b5⟩ := pick_eq L hL hl (s + 1 + 1 + 1 + 1) 3 k (by omega) (by omega) (by omega) (by omega)
  rw [if_pos c1, e5]; simp only [Option.bind_some]
  by_cases c2 : v5 = 0
  ·rw [if_pos c2, if_pos (by omega)]
   exact ⟨_, _, rfl, by omega, by omega, hs.take.mono (by omega) (by omega)⟩
  ·rw [if_neg c2]
   by_cases c3 : v5 = 1
   ·obtain ⟨v6, e6, a6, b6⟩ := pick_eq L hL hl (s + 1 + 1 + 1 + 1 + 1) 3 k (by omega) (by omega) (by omega) (by omega)
    have hr : smallL [20001, 60, -60] 3 20001 := ⟨by simp, by simp⟩
    have hr2 := hr.rd v6 a6 (by simpa using b6)
    rw [if_pos c3, e6]; simp only [Option.bind_some]
    rw [if_pos a6, if_pos (by simpa using b6), if_pos (by omega)]
    exact ⟨_, _, rfl, by omega, by omega, (hs.set hr2.1 hr2.2).mono (by omega) (by omega)⟩
   ·rw [if_neg c3, if_pos (by omega)]
    exact ⟨_, _, rfl, by omega, by omega, hs.push (by omega) (by omega)⟩
 ·rw [if_neg c1]
  exact ⟨_, _, rfl, by omega, by omega, hs.mono (by omega) (by omega)⟩

theorem drawKeeps_eq (L : List Int) (hL : ∀ x ∈ L, (Lit.int .u8 x).wf = true) (k : Nat) (hk : 3145740 < k) :
  ∃ B G P s A, spec_DrawTrtKeeps.f k L = some (B, G, P, s, A) ∧ smallL B 4 10001 ∧ smallL G 3 51 ∧ prt 2001 P ∧ smallL A 4 20001 := by
 unfold spec_DrawTrtKeeps.f
 obtain ⟨M, e0, hM, hl⟩ := open_eq L hL
 rw [e0]; simp only [Option.bind_some]
 obtain ⟨l, s1, e1, p1, q1, hl1, _⟩ := acts_eq M hM hl 0 k (by omega) (by omega) (by omega)
 rw [e1]; simp only [Option.bind_some]
 obtain ⟨P, e2, hP⟩ := forms_eq l hl1 k (by omega)
 rw [e2]; simp only [Option.bind_some]
 obtain ⟨v, e3, a3, b3⟩ := pick_eq M hM hl s1 16 k (by omega) (by omega) (by omega) (by omega)
 rw [e3]; simp only [Option.bind_some]
 obtain ⟨k, rfl⟩ : ∃ m, k = m + 1 := ⟨k - 1, by omega⟩
 have j0 : ∀ P, prt 2001 P → ∃ B G P' s A, spec_DrawTrtKeeps.j0 (k + 1) P M (s1 + 1) = some (B, G, P', s, A) ∧ smallL B 4 10001 ∧ smallL G 3 51 ∧ prt 2001 P' ∧ smallL A 4 20001 := fun P hP => by
  simp only [spec_DrawTrtKeeps.j0]
  obtain ⟨B, G, s2, e4, p4, q4, hB, hG⟩ := treaty_eq M hM hl (s1 + 1) 12 k (by omega) (by omega) (by omega) (by omega)
  rw [e4]; simp only [Option.bind_some]
  obtain ⟨v5, e5, a5, b5⟩ := pick_eq M hM hl s2 4 k (by omega) (by omega) (by omega) (by omega)
  rw [e5]; simp only [Option.bind_some]
  obtain ⟨v6, e6, a6, b6⟩ := pick_eq M hM hl (s2 + 1) 2 k (by omega) (by omega) (by omega) (by omega)
  rw [e6]; simp only [Option.bind_some]
  obtain ⟨A, s3, e7, p7, q7, hA⟩ := added_eq M hM hl (s2 + 1 + 1) 6 k (by omega) (by omega) (by omega) (by omega)
  rw [e7]
  exact ⟨_, _, _, _, _, rfl, hB, hG, hP, hA⟩
 have hP1 := hP.1
 by_cases c : v = 0
 ·rw [if_pos c, if_pos (by omega)]
  exact j0 _ (hP.push (by simp))
 ·rw [if_neg c]
  exact j0 _ (hP.mono (by omega))

theorem keeps_facts {B G : List Int} {P : List (List Int)} {s : Int} {A : List Int} (hG : G.length ≤ 1048576) (h : keepsB B G P s A = true) :
  okB B 3 10000 = true ∧ (1 ≤ G.length ∧ G.length ≤ 3) ∧ (∀ x ∈ G, 0 ≤ x ∧ x ≤ 50) ∧ partsB P = true ∧ 0 ≤ s ∧ s < (G.length : Int) ∧ (A.length = 3 ∧ ∀ x ∈ A, -20000 ≤ x ∧ x ≤ 20000) ∧ (∀ p ∈ P, -(rd G s) ≤ dot3 p A ∧ dot3 p A ≤ rd G s) ∧ 0 ≤ rd G s ∧ rd G s ≤ 50 := by
 unfold keepsB at h
 simp only [Bool.and_eq_true] at h
 obtain ⟨h1, h2⟩ := h
 obtain ⟨g1, g2, g3, g4⟩ := preB_facts hG h1
 unfold preB trtB at h1
 simp only [Bool.and_eq_true] at h1
 obtain ⟨⟨a1, a2, a3⟩, b1, _, c1⟩ := h1
 have a4 := ibB_iff.mp a2
 have a5 : ∀ x ∈ G, 0 ≤ x ∧ x ≤ 50 := fun x hx => ibB_iff.mp (List.all_eq_true.mp a3 x hx)
 have a6 := a5 _ (rd_mem G s g2 g3)
 obtain ⟨c2, c3⟩ := okB_iff.mp c1
 rw [show wrap64 (-20000) = -20000 from wrap_id (by decide) (by decide)] at c3
 refine ⟨a1, by omega, a5, b1, g2, g3, ⟨g4, c3⟩, fun p hp => ?_, a6.1, a6.2⟩
 have := ibB_iff.mp (List.all_eq_true.mp h2 p hp)
 rw [wrap_id (x := -(rd G s)) (by omega) (by omega)] at this
 exact this
theorem keeps_mk {B G : List Int} {P : List (List Int)} {s : Int} {A : List Int} (h1 : okB B 3 10000 = true) (h2 : 1 ≤ G.length ∧ G.length ≤ 3) (h3 : ∀ x ∈ G, 0 ≤ x ∧ x ≤ 50) (h4 : partsB P = true) (h5 : 0 ≤ s) (h6 : s < (G.length : Int)) (h7 : A.length = 3 ∧ ∀ x ∈ A, -20000 ≤ x ∧ x ≤ 20000) (h8 : ∀ p ∈ P, -(rd G s) ≤ dot3 p A ∧ dot3 p A ≤ rd G s) : keepsB B G P s A = true := by
 have a6 := h3 _ (rd_mem G s h5 h6)
 unfold keepsB preB trtB
 simp only [Bool.and_eq_true]
 refine ⟨⟨⟨h1, ibB_iff.mpr (by omega), List.all_eq_true.mpr fun x hx => ibB_iff.mpr (h3 x hx)⟩, h4, ibB_iff.mpr (by rw [wrap_id (by omega) (by omega)]; omega), okB_iff.mpr ⟨by omega, by rw [show wrap64 (-20000) = -20000 from wrap_id (by decide) (by decide)]; exact h7.2⟩⟩, List.all_eq_true.mpr fun p hp => ibB_iff.mpr ?_⟩
 rw [wrap_id (x := -(rd G s)) (by omega) (by omega)]
 exact h8 p hp
theorem keeps_more {B G : List Int} {P : List (List Int)} {s : Int} {A : List Int} (hG : G.length ≤ 1048576) (h : keepsB B G P s A = true) (hg : rd G s < 50) : keepsB B (G.set s.toNat (wrap64 (rd G s + 1))) P s A = true := by
 obtain ⟨h1, h2, h3, h4, h5, h6, h7, h8, h9, h10⟩ := keeps_facts hG h
 rw [wrap_id (by omega) (by omega)]
 obtain ⟨n, rfl⟩ := Int.eq_ofNat_of_zero_le h5
 have e : rd (G.set n (rd G (n : Int) + 1)) (n : Int) = rd G (n : Int) + 1 := by
  rw [getD_at _ n (by rw [List.length_set]; omega), List.getElem_set_self]
 refine keeps_mk h1 (by rw [List.length_set]; exact h2) (fun x hx => ?_) h4 h5 (by rw [List.length_set]; exact h6) h7 (fun p hp => ?_)
 ·rcases List.mem_or_eq_of_mem_set hx with hx | rfl
  ·exact h3 x hx
  ·omega
 ·have := h8 p hp
  rw [show (G.set ((n : Int)).toNat (rd G (n : Int) + 1)) = G.set n (rd G (n : Int) + 1) from rfl, e]
  omega
theorem dot3_eq (p : List Int) (a b c : Int) : dot3 p [a, b, c] = wrap64 (rd p 0 * a + rd p 1 * b + rd p 2 * c) := by
 unfold dot3
 show wrap64 (wrap64 (wrap64 (0 + wrap64 (rd p 0 * a)) + wrap64 (rd p 1 * b)) + wrap64 (rd p 2 * c)) = _
 rw [Int.zero_add]
 simp only [wrap_l, wrap_r]
theorem keeps_turned {B G : List Int} {P : List (List Int)} {s : Int} {A : List Int} (hG : G.length ≤ 1048576) (h : keepsB B G P s A = true) : keepsB B G P s (A.map fun x => wrap64 (-x)) = true := by
 obtain ⟨h1, h2, h3, h4, h5, h6, ⟨h7, h7'⟩, h8, h9, h10⟩ := keeps_facts hG h
 obtain ⟨a, b, c, rfl⟩ := len3 (by omega : (A.length : Int) = 3)
 have ha := h7' a (by simp)
 have hb := h7' b (by simp)
 have hc := h7' c (by simp)
 simp only [List.map_cons, List.map_nil]
 rw [wrap_id (x := -a) (by omega) (by omega), wrap_id (x := -b) (by omega) (by omega), wrap_id (x := -c) (by omega) (by omega)]
 refine keeps_mk h1 h2 h3 h4 h5 h6 ⟨rfl, fun x hx => ?_⟩ (fun p hp => ?_)
 ·simp only [List.mem_cons, List.not_mem_nil, or_false] at hx
  rcases hx with rfl | rfl | rfl <;> omega
 ·have := h8 p hp
  rw [dot3_eq] at this
  rw [dot3_eq, show rd p 0 * -a + rd p 1 * -b + rd p 2 * -c = -(rd p 0 * a + rd p 1 * b + rd p 2 * c) from by rw [Int.mul_neg, Int.mul_neg, Int.mul_neg]; omega]
  generalize rd p 0 * a + rd p 1 * b + rd p 2 * c = z at this ⊢
  unfold wrap64 at this ⊢
  omega
theorem keeps_none {B G : List Int} {P : List (List Int)} {s : Int} {A : List Int} (hG : G.length ≤ 1048576) (h : keepsB B G P s A = true) : keepsB B G P s [0, 0, 0] = true := by
 obtain ⟨h1, h2, h3, h4, h5, h6, h7, h8, h9, h10⟩ := keeps_facts hG h
 refine keeps_mk h1 h2 h3 h4 h5 h6 ⟨rfl, by simp⟩ (fun p hp => ?_)
 rw [dot3_eq, Int.mul_zero, Int.mul_zero, Int.mul_zero, show wrap64 (0 + 0 + 0) = 0 from wrap_id (by decide) (by decide)]
 omega
theorem round_loop (P : List (List Int)) (s : Int) (A B G H : List Int) (hA : A.length ≤ 1000) (hG : G.length ≤ 1048576) (hH : H.length ≤ 1048576) (h1 : keepsB B H P s A = true) (h2 : keepsB B G P s (A.map fun x => wrap64 (-x)) = true) (h3 : keepsB B G P s [0, 0, 0] = true) (d : Nat) : ∀ (k i : Nat) (out : List Int), i + d = A.length → d < k → out = (A.take i).map (fun x => wrap64 (-x)) →
  laws_FnTrtKeeps.l0 k P s A out (i : Int) B G H = some true := by
 induction d with
 | zero =>
  intro k i out hi hk ho
  obtain ⟨k, rfl⟩ : ∃ m, k = m + 1 := ⟨k - 1, by omega⟩
  rw [List.take_of_length_le (by omega)] at ho
  subst ho
  simp only [laws_FnTrtKeeps.l0]
  rw [if_neg (by omega), impl_Keeps_eq _ _ _ _ _ hH, h1]; simp only [Option.bind_some, if_true]
  rw [impl_Keeps_eq _ _ _ _ _ hG, h2]; simp only [Option.bind_some, if_true]
  rw [impl_Keeps_eq _ _ _ _ _ hG, h3]
  rfl
 | succ d ih =>
  intro k i out hi hk ho
  obtain ⟨k, rfl⟩ : ∃ m, k = m + 1 := ⟨k - 1, by omega⟩
  have hlt : i < A.length := by omega
  have hol : out.length = i := by rw [ho, List.length_map, List.length_take]; omega
  simp only [laws_FnTrtKeeps.l0]
  rw [if_pos (by omega), if_pos (by omega), if_pos (by omega), getD_at A i hlt, show wrap64 ((i : Int) + 1) = ((i + 1 : Nat) : Int) from by rw [wrap_id (by omega) (by omega)]; omega]
  exact ih k (i + 1) _ (by omega) (by omega) (by rw [ho, List.take_succ_eq_append_getElem hlt, List.map_append]; rfl)
theorem FnTrtKeeps : laws_FnTrtKeeps.Pure := by
 intro L hL
 obtain ⟨k, hk⟩ : ∃ k : Nat, 6000000 < k := ⟨6000001, by omega⟩
 refine ⟨k + 1, ?_⟩
 unfold laws_FnTrtKeeps.f
 by_cases h0 : (L.length : Int) > 1048576
 ·rw [if_pos h0]
 rw [if_neg h0]
 obtain ⟨B, G, P, s, A, e, hB, hG, hP, hA⟩ := drawKeeps_eq L hL.2 (k + 1) (by omega)
 have b1 := hB.1
 have g1 := hG.1
 have p1 := hP.1
 have a1 := hA.1
 rw [e]; simp only [Option.bind_some]
 rw [impl_Keeps_eq B G P s A (by omega)]; simp only [Option.bind_some]
 rw [spec_Keeps_eq B G P s A (k + 1) (by omega) (by omega) (by omega) (by omega) (fun x hx => by have := hP.2 x hx; omega) (by omega)]; simp only [Option.bind_some]
 rw [if_neg (by simp)]
 cases hq : keepsB B G P s A with
 | false =>
  rw [if_neg (by decide), impl_TrtOk_eq]; simp only [Option.bind_some]
  rw [spec_TrtOk_eq B G k (by omega) (by omega) (by omega) (by omega)]; simp only [Option.bind_some]
  rw [if_pos (by simp), impl_TrtOk_eq]; simp only [Option.bind_some]
  have w : wrap64 (-10000) = -10000 := wrap_id (by decide) (by decide)
  unfold trtB okB
  simp only [w]
  decide
 | true =>
  obtain ⟨_, h2, _, _, h5, h6, _, _, h9, h10⟩ := keeps_facts (by omega) hq
  have n1 := keeps_turned (by omega) hq
  have n2 := keeps_none (by omega) hq
  rw [if_pos rfl, if_pos (by simp; omega)]; simp only [List.nil_append]
  rw [if_pos h5, if_pos h6]
  by_cases hc : rd G s < 50
  ·rw [if_pos hc]
   simp only [laws_FnTrtKeeps.j0]
   exact round_loop P s A B G _ (by omega) (by omega) (by rw [List.length_set]; omega) (keeps_more (by omega) hq hc) n1 n2 A.length k 0 [] (by omega) (by omega) rfl
  ·rw [if_neg hc]
   simp only [laws_FnTrtKeeps.j0]
   exact round_loop P s A B G _ (by omega) (by omega) (by omega) hq n1 n2 A.length k 0 [] (by omega) (by omega) rfl

end Go.Proofs.Ytcpaplcnebdocaa.Pure
