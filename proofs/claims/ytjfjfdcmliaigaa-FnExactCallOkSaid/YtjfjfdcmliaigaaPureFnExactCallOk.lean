/- The plain law FnExactCallOk: what the printed functions compute answers as the statement says. -/
import Derived.Test.YtjfjfdcmliaigaaQFnExactCallOkx8
import Derived.OpenShut
set_option linter.unusedVariables false
set_option linter.unusedSimpArgs false
namespace Go.Proofs.Ytjfjfdcmliaigaa.Pure
open Go.RowKit Go.Proofs.Ytjfjfdcmliaigaa.QFnExactCallOk Go.Proofs.YtjfjfdcmliaigaaW.PrintWords Go.Proofs.YtjfjfdcmliaigaaW.PrintLast Go.Proofs.Ytjfjfdcmliaigaa.HWords

theorem bd64 {x : Int} (h : (Lit.int .i64 x).wf = true) : -9223372036854775808 ≤ x ∧ x ≤ 9223372036854775807 := bounds_i64 h
theorem wrap_id {x : Int} (h0 : -9223372036854775808 ≤ x) (h1 : x ≤ 9223372036854775807) : wrap64 x = x := by unfold wrap64; omega
theorem wrap_l (x y : Int) : wrap64 (wrap64 x + y) = wrap64 (x + y) := by unfold wrap64; omega
theorem wrap_r (x y : Int) : wrap64 (x + wrap64 y) = wrap64 (x + y) := by unfold wrap64; omega
theorem wrap_ll (x y z : Int) : wrap64 (wrap64 x + y + z) = wrap64 (x + y + z) := by unfold wrap64; omega
theorem wrap_lr (x y z : Int) : wrap64 (x + wrap64 y + z) = wrap64 (x + y + z) := by unfold wrap64; omega
theorem getD_at (l : List Int) (i : Nat) (h : i < l.length) : rd l (i : Int) = l[i] := by
  unfold rd
  rw [show ((i : Int)).toNat = i from by omega, List.getD_eq_getElem?_getD, List.getElem?_eq_getElem h]
  rfl
/-- The plain 'within bounds'. -/
def ibB (n lo hi : Int) : Bool := decide (lo ≤ n) && decide (n ≤ hi)
/-- As many as must be, each within a bound. -/
def okB (l : List Int) (n m : Int) : Bool := decide ((l.length : Int) = n) && l.all (fun x => ibB x (wrap64 (-m)) m)
theorem ibB_iff {n lo hi : Int} : ibB n lo hi = true ↔ lo ≤ n ∧ n ≤ hi := by unfold ibB; simp
theorem okB_iff {l : List Int} {n m : Int} : okB l n m = true ↔ (l.length : Int) = n ∧ ∀ x ∈ l, wrap64 (-m) ≤ x ∧ x ≤ m := by
  unfold okB ibB; simp

theorem sz_int (l : List Int) (n : Int) (h0 : 0 ≤ n) (h1 : n ≤ 1048576) (hl : l.length ≤ 9223372036854775807) :
    ∃ t, laws_szIntS.f l n = some t ∧ (t < 0 ∨ (0 ≤ t ∧ t + l.length = n)) := by
  unfold laws_szIntS.f
  have e : wrap64 (n - (l.length : Int)) = n - (l.length : Int) := wrap_id (by omega) (by omega)
  rw [e]
  by_cases h : n - (l.length : Int) < 0
  · rw [if_pos h]; exact ⟨_, rfl, .inl (by decide)⟩
  · rw [if_neg h]; exact ⟨_, rfl, .inr ⟨by omega, by omega⟩⟩

theorem sz_frm (C D : List Int) (K : Int) (n : Int) (h0 : 0 ≤ n) (h1 : n ≤ 1048576) (hc : C.length ≤ 9223372036854775807) (hd : D.length ≤ 9223372036854775807) :
    ∃ t, laws_szFrmForm.f C D K n = some t ∧ (t < 0 ∨ (0 ≤ t ∧ t + C.length + D.length = n)) := by
  unfold laws_szFrmForm.f
  obtain ⟨t, e, h⟩ := sz_int C n h0 h1 hc
  rw [e]; simp only [Option.bind_some, if_true, bne_self_eq_false, Bool.false_eq_true, if_false]
  rcases h with h | ⟨ha, hb⟩
  · rw [if_pos h]; exact ⟨_, rfl, .inl (by decide)⟩
  · rw [if_neg (by omega)]
    obtain ⟨u, e2, h2⟩ := sz_int D t ha (by omega) hd
    rw [e2]; simp only [Option.bind_some, if_true, bne_self_eq_false, Bool.false_eq_true, if_false]
    rcases h2 with h2 | ⟨hc2, hd2⟩
    · rw [if_pos h2]; exact ⟨_, rfl, .inl (by decide)⟩
    · rw [if_neg (by omega)]; exact ⟨_, rfl, .inr ⟨by omega, by omega⟩⟩

theorem set_take (l : List Int) (i : Nat) (h : i < l.length) :
    (l.take i ++ List.replicate (l.length - i) (0 : Int)).set i l[i] = l.take (i + 1) ++ List.replicate (l.length - (i + 1)) 0 := by
  rw [List.set_append_right _ _ (by rw [List.length_take]; omega), List.length_take, Nat.min_eq_left (by omega), Nat.sub_self]
  obtain ⟨m, hm⟩ : ∃ m, l.length - i = m + 1 := ⟨l.length - i - 1, by omega⟩
  rw [hm, List.replicate_succ, List.set_cons_zero, show l.length - (i + 1) = m from by omega, List.take_succ_eq_append_getElem h, List.append_assoc]
  rfl
theorem to_loop (l : List Int) (hl : l.length ≤ 1048576) (d : Nat) : ∀ (k i : Nat), i + d = l.length → d < k →
    laws_toIntS.l0 k l (l.take i ++ List.replicate (l.length - i) 0) (i : Int) = some l := by
  induction d with
  | zero =>
    intro k i hi hk
    obtain ⟨k, rfl⟩ : ∃ m, k = m + 1 := ⟨k - 1, by omega⟩
    simp only [laws_toIntS.l0]
    rw [if_neg (by omega), show i = l.length from by omega]
    simp
  | succ d ih =>
    intro k i hi hk
    obtain ⟨k, rfl⟩ : ∃ m, k = m + 1 := ⟨k - 1, by omega⟩
    have hlt : i < l.length := by omega
    simp only [laws_toIntS.l0]
    have hlen : (l.take i ++ List.replicate (l.length - i) (0 : Int)).length = l.length := by simp; omega
    rw [if_pos (by omega), if_pos (by omega), if_pos (by rw [hlen]; omega), getD_at l i hlt, show ((i : Int)).toNat = i from by omega, set_take l i hlt,
      wrap_id (by omega) (by omega), show (i : Int) + 1 = ((i + 1 : Nat) : Int) from by omega]
    exact ih k (i + 1) (by omega) (by omega)
theorem to_int (l : List Int) (k : Nat) (hk : l.length < k) (hl : l.length ≤ 1048576) : laws_toIntS.f k l = some l := by
  unfold laws_toIntS.f
  rw [if_pos (by omega), if_pos (by omega), show ((l.length : Int)).toNat = l.length from by omega]
  have := to_loop l hl l.length k 0 (by omega) hk
  simpa using this

theorem to_frm (C D : List Int) (K : Int) (k : Nat) (hc : C.length < k) (hd : D.length < k) (hc2 : C.length ≤ 1048576) (hd2 : D.length ≤ 1048576) : laws_toFrmForm.f k C D K = some (C, D, K) := by
  unfold laws_toFrmForm.f
  rw [to_int C k hc hc2]; simp only [Option.bind_some, if_true, bne_self_eq_false, Bool.false_eq_true, if_false]
  rw [to_int D k hd hd2]; simp only [Option.bind_some, if_true, bne_self_eq_false, Bool.false_eq_true, if_false]

theorem eq_loop (l : List Int) (hl : l.length ≤ 1048576) (d : Nat) : ∀ (k i : Nat), i + d = l.length → d < k → laws_eqIntS.l0 k l l (i : Int) = some true := by
  induction d with
  | zero =>
    intro k i hi hk
    obtain ⟨k, rfl⟩ : ∃ m, k = m + 1 := ⟨k - 1, by omega⟩
    simp only [laws_eqIntS.l0]
    rw [if_neg (by omega)]
  | succ d ih =>
    intro k i hi hk
    obtain ⟨k, rfl⟩ : ∃ m, k = m + 1 := ⟨k - 1, by omega⟩
    simp only [laws_eqIntS.l0, if_true]
    rw [if_pos (by omega), if_pos (by omega), if_pos (by omega), wrap_id (by omega) (by omega), show (i : Int) + 1 = ((i + 1 : Nat) : Int) from by omega]
    exact ih k (i + 1) (by omega) (by omega)
theorem eq_int (l : List Int) (k : Nat) (hk : l.length < k) (hl : l.length ≤ 1048576) : laws_eqIntS.f k l l = some true := by
  unfold laws_eqIntS.f
  rw [if_pos rfl]
  exact eq_loop l hl l.length k 0 (by omega) hk

theorem eq_frm (C D : List Int) (K : Int) (k : Nat) (hc : C.length < k) (hd : D.length < k) (hc2 : C.length ≤ 1048576) (hd2 : D.length ≤ 1048576) : laws_eqFrmForm.f k C D K C D K = some true := by
  unfold laws_eqFrmForm.f
  rw [eq_int C k hc hc2]; simp only [Option.bind_some, if_true, bne_self_eq_false, Bool.false_eq_true, if_false]
  rw [eq_int D k hd hd2]; simp only [Option.bind_some, if_true, bne_self_eq_false, Bool.false_eq_true, if_false]

theorem l1In_eq (n lo hi : Int) : spec_l1In.f n lo hi = some (ibB n lo hi) := by
  unfold spec_l1In.f ibB
  by_cases h : n ≥ lo
  · rw [if_pos h]; simp [h]
  · rw [if_neg h]; simp [h]

theorem in_eq (n lo hi : Int) : impl_in.f n lo hi = some (ibB n lo hi) := by
  unfold impl_in.f ibB
  by_cases h : n ≥ lo
  · rw [if_pos h]; simp [h]
  · rw [if_neg h]; simp [h]

theorem within_eq (l : List Int) (n m : Int) : impl_within.f l n m = some (okB l n m) := by
  unfold impl_within.f okB
  rw [List.all_eq_not_any_not]
  rfl

theorem all_loop (l : List Int) (m : Int) (hl : l.length ≤ 1048576) (d : Nat) : ∀ (k i : Nat), i + d = l.length → d < k → spec_l1All.l0 k l m (i : Int) = some ((l.drop i).all fun x => ibB x (wrap64 (-m)) m) := by
  induction d with
  | zero =>
    intro k i hi hk
    obtain ⟨k, rfl⟩ : ∃ m, k = m + 1 := ⟨k - 1, by omega⟩
    simp only [spec_l1All.l0]
    rw [if_neg (by omega), List.drop_of_length_le (by omega)]
    rfl
  | succ d ih =>
    intro k i hi hk
    obtain ⟨k, rfl⟩ : ∃ m, k = m + 1 := ⟨k - 1, by omega⟩
    have hlt : i < l.length := by omega
    simp only [spec_l1All.l0]
    rw [if_pos (by omega), if_pos (by omega), l1In_eq, getD_at l i hlt, List.drop_eq_getElem_cons hlt, List.all_cons]
    simp only [Option.bind_some, if_true, bne_self_eq_false, Bool.false_eq_true, if_false]
    cases ibB l[i] (wrap64 (-m)) m with
    | false => rfl
    | true =>
      rw [if_pos rfl, wrap_id (by omega) (by omega), show (i : Int) + 1 = ((i + 1 : Nat) : Int) from by omega, ih k (i + 1) (by omega) (by omega)]
      rfl
theorem l1All_eq (l : List Int) (n m : Int) (k : Nat) (hk : l.length < k) (hl : l.length ≤ 1048576) : spec_l1All.f k l n m = some (okB l n m) := by
  unfold spec_l1All.f okB
  by_cases h : (l.length : Int) = n
  · rw [if_pos h, decide_eq_true h, Bool.true_and]
    have := all_loop l m hl l.length k 0 (by omega) hk
    simpa using this
  · rw [if_neg h, decide_eq_false h, Bool.false_and]

theorem spec_Val_eq (l : List Int) (k : Nat) (hk : l.length < k) (hl : l.length ≤ 1048576) : spec_ValOk.f k l = some (okB l 3 10000) := by
  unfold spec_ValOk.f
  rw [l1All_eq l _ _ k hk hl]; rfl

theorem impl_Val_eq (l : List Int) : impl_ValOk.f l = some (okB l 3 10000) := by
  unfold impl_ValOk.f
  rw [within_eq]; rfl

theorem spec_Arg_eq (l : List Int) (k : Nat) (hk : l.length < k) (hl : l.length ≤ 1048576) : spec_ArgOk.f k l = some (okB l 2 9) := by
  unfold spec_ArgOk.f
  rw [l1All_eq l _ _ k hk hl]; rfl

theorem impl_Arg_eq (l : List Int) : impl_ArgOk.f l = some (okB l 2 9) := by
  unfold impl_ArgOk.f
  rw [within_eq]; rfl

def frmB (C D : List Int) (K : Int) : Bool := okB C 3 10000000 && (okB D 2 10000000 && ibB K (-10000000) 10000000)

/-- The form that is one pot, or nothing. -/
def potF (v : Int) : List Int × List Int × Int := if v = 0 then ([1, 0, 0], [0, 0], 0) else if v = 1 then ([0, 1, 0], [0, 0], 0) else if v = 2 then ([0, 0, 1], [0, 0], 0) else ([], [], 0)
theorem potF_len (v : Int) : (potF v).1.length ≤ 3 ∧ (potF v).2.1.length ≤ 2 := by
  unfold potF; repeat' split
  all_goals simp

/-- What a form of three and two is, as the reference sums it. -/
def atV (c0 c1 c2 d0 d1 K v0 v1 v2 a0 a1 : Int) : Int := wrap64 (K + c0 * v0 + c1 * v1 + c2 * v2 + d0 * a0 + d1 * a1)

theorem len3 {l : List Int} (h : (l.length : Int) = 3) : ∃ a b c, l = [a, b, c] := by
  match l, h with
  | [a, b, c], _ => exact ⟨a, b, c, rfl⟩
  | [], h => simp at h
  | [_], h => simp at h
  | [_, _], h => simp at h
  | _ :: _ :: _ :: _ :: _, h => simp at h; omega
theorem len2 {l : List Int} (h : (l.length : Int) = 2) : ∃ a b, l = [a, b] := by
  match l, h with
  | [a, b], _ => exact ⟨a, b, rfl⟩
  | [], h => simp at h
  | [_], h => simp at h
  | _ :: _ :: _ :: _, h => simp at h; omega
theorem okB_len {l : List Int} {n m : Int} (h : okB l n m = true) : (l.length : Int) = n := (okB_iff.mp h).1
theorem frmB_len {C D : List Int} {K : Int} (h : frmB C D K = true) : (C.length : Int) = 3 ∧ (D.length : Int) = 2 := by
  unfold frmB at h
  simp only [Bool.and_eq_true] at h
  exact ⟨okB_len h.1, okB_len h.2.1⟩

theorem inB_ib (n lo hi : Int) : inB n lo hi = ibB n lo hi := rfl

theorem withinB_ok (l : List Int) (n m : Int) : withinB l n m = okB l n m := by
  unfold withinB okB
  rw [List.all_eq_not_any_not]
  rfl

theorem set_takeG {α : Type} (z : α) (l : List α) (i : Nat) (h : i < l.length) :
    (l.take i ++ List.replicate (l.length - i) z).set i l[i] = l.take (i + 1) ++ List.replicate (l.length - (i + 1)) z := by
  rw [List.set_append_right _ _ (by rw [List.length_take]; omega), List.length_take, Nat.min_eq_left (by omega), Nat.sub_self]
  obtain ⟨m, hm⟩ : ∃ m, l.length - i = m + 1 := ⟨l.length - i - 1, by omega⟩
  rw [hm, List.replicate_succ, List.set_cons_zero, show l.length - (i + 1) = m from by omega, List.take_succ_eq_append_getElem h, List.append_assoc]
  rfl
theorem getDG {α : Type} (z : α) (l : List α) (i : Nat) (h : i < l.length) : l.getD ((i : Int)).toNat z = l[i] := by
  rw [show ((i : Int)).toNat = i from by omega, List.getD_eq_getElem?_getD, List.getElem?_eq_getElem h]
  rfl

def trtB (B G : List Int) : Bool := okB B 3 10000 && (ibB (G.length : Int) 1 3 && G.all fun x => ibB x 0 50)

theorem impl_TrtOk_eq (B G : List Int) : impl_TrtOk.f B G = some (trtB B G) := by
  unfold impl_TrtOk.f trtB
  rw [withinB_ok, List.all_eq_not_any_not]
  rfl

theorem trtok_loop (B l : List Int) (hl : l.length ≤ 1048576) (d : Nat) : ∀ (k i : Nat), i + d = l.length → d < k → spec_TrtOk.l0 k (i : Int) B l = some ((l.drop i).all fun x => ibB x 0 50) := by
  induction d with
  | zero =>
    intro k i hi hk
    obtain ⟨k, rfl⟩ : ∃ m, k = m + 1 := ⟨k - 1, by omega⟩
    simp only [spec_TrtOk.l0]
    rw [if_neg (by omega), List.drop_of_length_le (by omega)]
    rfl
  | succ d ih =>
    intro k i hi hk
    obtain ⟨k, rfl⟩ : ∃ m, k = m + 1 := ⟨k - 1, by omega⟩
    have hlt : i < l.length := by omega
    simp only [spec_TrtOk.l0]
    rw [if_pos (by omega), if_pos (by omega), l1In_eq, getD_at l i hlt, List.drop_eq_getElem_cons hlt, List.all_cons]
    simp only [Option.bind_some]
    cases ibB l[i] 0 50 with
    | false => rfl
    | true =>
      rw [if_pos rfl, show wrap64 ((i : Int) + 1) = ((i + 1 : Nat) : Int) from by rw [wrap_id (by omega) (by omega)]; omega, ih k (i + 1) (by omega) (by omega)]
      rfl
theorem spec_TrtOk_eq (B G : List Int) (k : Nat) (hB : B.length < k) (hG : G.length < k) (hB2 : B.length ≤ 1048576) (hG2 : G.length ≤ 1048576) : spec_TrtOk.f (k + 1) B G = some (trtB B G) := by
  unfold spec_TrtOk.f trtB
  rw [spec_Val_eq B (k + 1) (by omega) hB2, l1In_eq]; simp only [Option.bind_some]
  have hl := trtok_loop B G hG2 G.length k 0 (by omega) hG
  rw [List.drop_zero] at hl
  cases okB B 3 10000 with
  | false => rfl
  | true =>
    rw [if_pos rfl]
    cases ibB (G.length : Int) 1 3 with
    | false => rfl
    | true =>
      simp only [spec_TrtOk.j0]
      exact hl

/-- So many times a form, or nothing. -/
def timesF (C D : List Int) (K n : Int) : List Int × List Int × Int :=
  if frmB C D K && ibB n (-10000000) 10000000 then
    (let x := C.map fun c => wrap64 (wrap64 (n * c)); let y := D.map fun c => wrap64 (wrap64 (n * c)); let z := wrap64 (wrap64 (n * K))
     if frmB x y z then (x, y, z) else ([], [], 0))
  else ([], [], 0)
theorem timesF_len (C D : List Int) (K n : Int) : (timesF C D K n).1.length ≤ 3 ∧ (timesF C D K n).2.1.length ≤ 2 := by
  unfold timesF
  split
  · rename_i h
    simp only [Bool.and_eq_true] at h
    obtain ⟨h1, h2⟩ := frmB_len h.1
    simp only
    split
    · simp only [List.length_map]; omega
    · simp
  · simp

def partsB (P : List (List Int)) : Bool := P.all fun p => okB p 3 10000000
theorem partsB_len {P : List (List Int)} (h : partsB P = true) : ∀ p ∈ P, p.length = 3 := fun p hp => by
  have := okB_len (List.all_eq_true.mp h p hp)
  omega

def preB (B G : List Int) (P : List (List Int)) (s : Int) (A : List Int) : Bool := trtB B G && (partsB P && (ibB s 0 (wrap64 ((G.length : Int) - 1)) && okB A 3 20000))
theorem preB_facts {B G : List Int} {P : List (List Int)} {s : Int} {A : List Int} (hG : G.length ≤ 1048576) (h : preB B G P s A = true) : (∀ p ∈ P, p.length = 3) ∧ 0 ≤ s ∧ s < (G.length : Int) ∧ A.length = 3 := by
  unfold preB at h
  simp only [Bool.and_eq_true] at h
  obtain ⟨_, h2, h3, h4⟩ := h
  obtain ⟨h5, h6⟩ := ibB_iff.mp h3
  have h7 := okB_len h4
  rw [wrap_id (by omega) (by omega)] at h6
  exact ⟨partsB_len h2, h5, by omega, by omega⟩

def cvFrm (x : S102) : S67 := ⟨x.f0, x.f1, x.f2⟩

def cvLine (x : S104) : S107 := ⟨x.f0, x.f1, x.f2, cvFrm x.f3⟩

theorem sz_line (a b c : Int) (C D : List Int) (K : Int) (n : Int) (h0 : 0 ≤ n) (h1 : n ≤ 1048576) (hc : C.length ≤ 9223372036854775807) (hd : D.length ≤ 9223372036854775807) :
    ∃ t, laws_szActLine.f a b c C D K n = some t ∧ (t < 0 ∨ (0 ≤ t ∧ t + C.length + D.length = n)) := by
  unfold laws_szActLine.f
  obtain ⟨t, e, h⟩ := sz_frm C D K n h0 h1 hc hd
  rw [e]; simp only [Option.bind_some, if_true, bne_self_eq_false, Bool.false_eq_true, if_false]
  rcases h with h | ⟨ha, hb⟩
  · rw [if_pos h]; exact ⟨_, rfl, .inl (by decide)⟩
  · rw [if_neg (by omega)]; exact ⟨_, rfl, .inr ⟨by omega, by omega⟩⟩

theorem to_line (a b c : Int) (C D : List Int) (K : Int) (k : Nat) (hc : C.length < k) (hd : D.length < k) (hc2 : C.length ≤ 1048576) (hd2 : D.length ≤ 1048576) : laws_toActLine.f k a b c C D K = some (a, b, c, C, D, K) := by
  unfold laws_toActLine.f
  rw [to_frm C D K k hc hd hc2 hd2]; simp only [Option.bind_some, if_true, bne_self_eq_false, Bool.false_eq_true, if_false]

theorem eq_line (a b c : Int) (C D : List Int) (K : Int) (k : Nat) (hc : C.length < k) (hd : D.length < k) (hc2 : C.length ≤ 1048576) (hd2 : D.length ≤ 1048576) : laws_eqActLine.f k a b c C D K a b c C D K = some true := by
  unfold laws_eqActLine.f
  rw [eq_frm C D K k hc hd hc2 hd2]; simp only [Option.bind_some, if_true, bne_self_eq_false, Bool.false_eq_true, if_false]

theorem szsLine_loop (l : List S104) (hl : l.length ≤ 1048576) (hw : ∀ x ∈ l, x.f3.f0.length ≤ 9223372036854775807 ∧ x.f3.f1.length ≤ 9223372036854775807) (d : Nat) : ∀ (k i : Nat) (n : Int), i + d = l.length → d < k → 0 ≤ n → n ≤ 1048576 →
    ∃ t, laws_szActLineS.l0 k l n (i : Int) = some t ∧ (t < 0 ∨ (0 ≤ t ∧ t ≤ n ∧ ∀ x ∈ l.drop i, (x.f3.f0.length : Int) ≤ n ∧ (x.f3.f1.length : Int) ≤ n)) := by
  induction d with
  | zero =>
    intro k i n hi hk h0 h1
    obtain ⟨k, rfl⟩ : ∃ m, k = m + 1 := ⟨k - 1, by omega⟩
    refine ⟨n, ?_, .inr ⟨h0, Int.le_refl _, ?_⟩⟩
    · simp only [laws_szActLineS.l0]; rw [if_neg (by omega)]
    · rw [List.drop_of_length_le (by omega)]; simp
  | succ d ih =>
    intro k i n hi hk h0 h1
    obtain ⟨k, rfl⟩ : ∃ m, k = m + 1 := ⟨k - 1, by omega⟩
    have hlt : i < l.length := by omega
    have hq := hw _ (List.getElem_mem hlt)
    simp only [laws_szActLineS.l0]
    rw [if_pos (by omega), if_pos (by omega), show rd_T104 l (i : Int) = l[i] from getDG z104 l i hlt]
    obtain ⟨t, e, h⟩ := sz_line l[i].f0 l[i].f1 l[i].f2 l[i].f3.f0 l[i].f3.f1 l[i].f3.f2 n h0 h1 hq.1 hq.2
    rw [e]; simp only [Option.bind_some]
    rcases h with h | ⟨ha, hb⟩
    · rw [if_pos h]; exact ⟨_, rfl, .inl (by decide)⟩
    · rw [if_neg (by omega), show wrap64 ((i : Int) + 1) = ((i + 1 : Nat) : Int) from by rw [wrap_id (by omega) (by omega)]; omega]
      obtain ⟨u, e2, h2⟩ := ih k (i + 1) t (by omega) (by omega) ha (by omega)
      refine ⟨u, e2, ?_⟩
      rcases h2 with h2 | ⟨p, q, r⟩
      · exact .inl h2
      · refine .inr ⟨p, by omega, fun x hx => ?_⟩
        rw [List.drop_eq_getElem_cons hlt] at hx
        rcases List.mem_cons.mp hx with rfl | hx
        · omega
        · have := r x hx; omega
theorem sz_sLine (l : List S104) (k : Nat) (n : Int) (h0 : 0 ≤ n) (h1 : n ≤ 1048576) (hk : 1048577 < k) (hl : l.length ≤ 9223372036854775807) (hw : ∀ x ∈ l, x.f3.f0.length ≤ 9223372036854775807 ∧ x.f3.f1.length ≤ 9223372036854775807) :
    ∃ t, laws_szActLineS.f k l n = some t ∧ (t < 0 ∨ (0 ≤ t ∧ t ≤ n ∧ (l.length : Int) ≤ n ∧ ∀ x ∈ l, (x.f3.f0.length : Int) ≤ 1048576 ∧ (x.f3.f1.length : Int) ≤ 1048576)) := by
  unfold laws_szActLineS.f
  have e : wrap64 (n - (l.length : Int)) = n - (l.length : Int) := wrap_id (by omega) (by omega)
  rw [e]
  by_cases h : n - (l.length : Int) < 0
  · rw [if_pos h]; exact ⟨_, rfl, .inl (by decide)⟩
  · rw [if_neg h]
    obtain ⟨u, e2, h2⟩ := szsLine_loop l (by omega) hw l.length k 0 (n - (l.length : Int)) (by omega) (by omega) (by omega) (by omega)
    refine ⟨u, e2, ?_⟩
    rcases h2 with h2 | ⟨p, q, r⟩
    · exact .inl h2
    · exact .inr ⟨p, by omega, by omega, fun x hx => by have := r x (by simpa using hx); omega⟩

theorem tosLine_loop (l : List S104) (hl : l.length ≤ 1048576) (hw : ∀ x ∈ l, (x.f3.f0.length : Int) ≤ 1048576 ∧ (x.f3.f1.length : Int) ≤ 1048576) (d : Nat) : ∀ (k i : Nat), i + d = l.length → d + 1048577 < k →
    laws_toActLineS.l0 k l ((l.map cvLine).take i ++ List.replicate ((l.map cvLine).length - i) z107) (i : Int) = some (l.map cvLine) := by
  induction d with
  | zero =>
    intro k i hi hk
    obtain ⟨k, rfl⟩ : ∃ m, k = m + 1 := ⟨k - 1, by omega⟩
    simp only [laws_toActLineS.l0]
    rw [if_neg (by omega), List.take_of_length_le (by rw [List.length_map]; omega), show (l.map cvLine).length - i = 0 from by rw [List.length_map]; omega]
    simp
  | succ d ih =>
    intro k i hi hk
    obtain ⟨k, rfl⟩ : ∃ m, k = m + 1 := ⟨k - 1, by omega⟩
    have hlt : i < l.length := by omega
    have hlm : i < (l.map cvLine).length := by rw [List.length_map]; exact hlt
    simp only [laws_toActLineS.l0]
    have hlen : ((l.map cvLine).take i ++ List.replicate ((l.map cvLine).length - i) z107).length = l.length := by simp; omega
    have hx := hw _ (List.getElem_mem hlt)
    rw [if_pos (by omega), if_pos (by omega), show rd_T104 l (i : Int) = l[i] from getDG z104 l i hlt, to_line l[i].f0 l[i].f1 l[i].f2 l[i].f3.f0 l[i].f3.f1 l[i].f3.f2 k (by omega) (by omega) (by omega) (by omega)]
    simp only [Option.bind_some]
    have e := set_takeG z107 (l.map cvLine) i hlm
    rw [List.getElem_map] at e
    rw [if_pos (by rw [hlen]; omega), show ((i : Int)).toNat = i from by omega, show wrap64 ((i : Int) + 1) = ((i + 1 : Nat) : Int) from by rw [wrap_id (by omega) (by omega)]; omega]
    refine Eq.trans ?_ (ih k (i + 1) (by omega) (by omega))
    rw [← e]; rfl
theorem to_sLine (l : List S104) (k : Nat) (hk : 2097154 < k) (hl : (l.length : Int) ≤ 1048576) (hw : ∀ x ∈ l, (x.f3.f0.length : Int) ≤ 1048576 ∧ (x.f3.f1.length : Int) ≤ 1048576) : laws_toActLineS.f k l = some (l.map cvLine) := by
  unfold laws_toActLineS.f
  rw [if_pos (by omega), if_pos (by omega), show ((l.length : Int)).toNat = l.length from by omega]
  have := tosLine_loop l (by omega) hw l.length k 0 (by omega) (by omega)
  simpa using this
theorem cvsLine (l : List S104) (hw : ∀ x ∈ l, (x.f3.f0.length : Int) ≤ 1048576 ∧ (x.f3.f1.length : Int) ≤ 1048576) : ∀ x ∈ l.map cvLine, (x.f3.f0.length : Int) ≤ 1048576 ∧ (x.f3.f1.length : Int) ≤ 1048576 := by
  intro x hx
  obtain ⟨y, hy, rfl⟩ := List.mem_map.mp hx
  exact hw y hy

theorem eqsLine_loop (l : List S107) (hl : l.length ≤ 1048576) (hw : ∀ x ∈ l, (x.f3.f0.length : Int) ≤ 1048576 ∧ (x.f3.f1.length : Int) ≤ 1048576) (d : Nat) : ∀ (k i : Nat), i + d = l.length → d + 1048577 < k → laws_eqActLineS.l0 k l l (i : Int) = some true := by
  induction d with
  | zero =>
    intro k i hi hk
    obtain ⟨k, rfl⟩ : ∃ m, k = m + 1 := ⟨k - 1, by omega⟩
    simp only [laws_eqActLineS.l0]
    rw [if_neg (by omega)]
  | succ d ih =>
    intro k i hi hk
    obtain ⟨k, rfl⟩ : ∃ m, k = m + 1 := ⟨k - 1, by omega⟩
    have hlt : i < l.length := by omega
    have hx := hw _ (List.getElem_mem hlt)
    simp only [laws_eqActLineS.l0]
    rw [if_pos (by omega), if_pos (by omega), if_pos (by omega), show rd_T107 l (i : Int) = l[i] from getDG z107 l i hlt, eq_line l[i].f0 l[i].f1 l[i].f2 l[i].f3.f0 l[i].f3.f1 l[i].f3.f2 k (by omega) (by omega) (by omega) (by omega)]
    simp only [Option.bind_some, if_true, bne_self_eq_false, Bool.false_eq_true, if_false]
    rw [show wrap64 ((i : Int) + 1) = ((i + 1 : Nat) : Int) from by rw [wrap_id (by omega) (by omega)]; omega]
    exact ih k (i + 1) (by omega) (by omega)
theorem eq_sLine (l : List S107) (k : Nat) (hk : 2097154 < k) (hl : (l.length : Int) ≤ 1048576) (hw : ∀ x ∈ l, (x.f3.f0.length : Int) ≤ 1048576 ∧ (x.f3.f1.length : Int) ≤ 1048576) : laws_eqActLineS.f k l l = some true := by
  unfold laws_eqActLineS.f
  rw [if_pos rfl]
  exact eqsLine_loop l (by omega) hw l.length k 0 (by omega) (by omega)

def smallB (C D : List Int) (K : Int) : Bool := okB C 3 2 && (okB D 2 2 && ibB K (-20) 20)
def lineB (a b c : Int) (C D : List Int) (K : Int) : Bool :=
  if a = 1 then decide (b = 0) && (ibB c 1 6 && smallB C D K)
  else if a = 2 then ibB b 0 2 && (decide (c = 0) && smallB C D K)
  else if a = 3 then decide (b = 0) && (decide (c = 0) && smallB C D K)
  else if a = 4 then decide (b = 0) && (decide (c = 0) && (decide (C = []) && (decide (D = []) && decide (K = 0))))
  else false

theorem impl_small_eq (C D : List Int) (K : Int) : impl_FrmForm_small.f C D K = some (smallB C D K) := by
  unfold impl_FrmForm_small.f smallB
  rw [within_eq]; simp only [Option.bind_some, if_true, bne_self_eq_false, Bool.false_eq_true, if_false]
  cases okB C 3 2 with
  | false => rfl
  | true =>
    rw [if_pos rfl, within_eq]; simp only [Option.bind_some, if_true, bne_self_eq_false, Bool.false_eq_true, if_false]
    cases okB D 2 2 with
    | false => rfl
    | true => rw [if_pos rfl, in_eq]; rfl
theorem equal_nil (C : List Int) (k : Nat) : slices_Equal_int_int.f (k + 1) C [] = some (decide (C = [])) := by
  unfold slices_Equal_int_int.f
  cases C with
  | nil => rw [if_pos rfl]; simp [slices_Equal_int_int.l0]
  | cons x xs => rw [if_neg (by simp; omega)]; simp
theorem impl_line_eq (a b c : Int) (C D : List Int) (K : Int) (k : Nat) (hk : 0 < k) : impl_ActLine_ok.f k a b c C D K = some (lineB a b c C D K) := by
  obtain ⟨k, rfl⟩ : ∃ m, k = m + 1 := ⟨k - 1, by omega⟩
  unfold impl_ActLine_ok.f lineB
  simp only [impl_small_eq, in_eq, Option.bind_some]
  by_cases h1 : a = 1
  · rw [if_pos h1, if_pos h1]
    by_cases hb : b = 0
    · rw [if_pos hb, decide_eq_true hb, Bool.true_and]; cases ibB c 1 6 <;> rfl
    · rw [if_neg hb, decide_eq_false hb, Bool.false_and]; cases ibB c 1 6 <;> rfl
  rw [if_neg h1, if_neg h1]
  by_cases h2 : a = 2
  · rw [if_pos h2, if_pos h2]
    by_cases hb : c = 0
    · rw [if_pos hb, decide_eq_true hb, Bool.true_and]; cases ibB b 0 2 <;> rfl
    · rw [if_neg hb, decide_eq_false hb, Bool.false_and]; cases ibB b 0 2 <;> rfl
  rw [if_neg h2, if_neg h2]
  by_cases h3 : a = 3
  · rw [if_pos h3, if_pos h3]
    by_cases hb : b = 0
    · rw [if_pos hb, decide_eq_true hb, Bool.true_and]
      by_cases hc : c = 0
      · rw [if_pos hc, decide_eq_true hc, Bool.true_and]
      · rw [if_neg hc, decide_eq_false hc, Bool.false_and]
    · rw [if_neg hb, decide_eq_false hb, Bool.false_and]
  rw [if_neg h3, if_neg h3]
  by_cases h4 : a = 4
  · rw [if_pos h4, if_pos h4]
    by_cases hb : b = 0
    · rw [if_pos hb, decide_eq_true hb, Bool.true_and]
      by_cases hc : c = 0
      · rw [if_pos hc, decide_eq_true hc, Bool.true_and]
        unfold impl_FrmForm_same.f
        rw [equal_nil, equal_nil]
        by_cases hK : K = 0
        · rw [if_pos hK, decide_eq_true hK]; by_cases hC : C = [] <;> by_cases hD : D = [] <;> simp [hC, hD]
        · rw [if_neg hK, decide_eq_false hK]; by_cases hC : C = [] <;> by_cases hD : D = [] <;> simp [hC, hD]
      · rw [if_neg hc, decide_eq_false hc, Bool.false_and]
    · rw [if_neg hb, decide_eq_false hb, Bool.false_and]
  rw [if_neg h4, if_neg h4]

theorem spec_small_eq (C D : List Int) (K : Int) (k : Nat) (hc : C.length < k) (hd : D.length < k) (hc2 : C.length ≤ 1048576) (hd2 : D.length ≤ 1048576) : spec_l2Small.f k C D K = some (smallB C D K) := by
  unfold spec_l2Small.f smallB
  rw [l1All_eq C _ _ k hc hc2]; simp only [Option.bind_some, if_true, bne_self_eq_false, Bool.false_eq_true, if_false]
  cases okB C 3 2 with
  | false => rfl
  | true =>
    rw [if_pos rfl, l1All_eq D _ _ k hd hd2]; simp only [Option.bind_some, if_true, bne_self_eq_false, Bool.false_eq_true, if_false]
    cases okB D 2 2 with
    | false => rfl
    | true => rw [if_pos rfl, l1In_eq]; rfl
theorem spec_line_eq (a b c : Int) (C D : List Int) (K : Int) (k : Nat) (hc : C.length < k) (hd : D.length < k) (hc2 : C.length ≤ 1048576) (hd2 : D.length ≤ 1048576) : spec_l2Line.f k a b c C D K = some (lineB a b c C D K) := by
  unfold spec_l2Line.f lineB
  simp only [spec_small_eq C D K k hc hd hc2 hd2, l1In_eq, Option.bind_some]
  by_cases h1 : a = 1
  · rw [if_pos h1, if_pos h1]
    by_cases hb : b = 0
    · rw [if_pos hb, decide_eq_true hb, Bool.true_and]; cases ibB c 1 6 <;> rfl
    · rw [if_neg hb, decide_eq_false hb, Bool.false_and]
  rw [if_neg h1, if_neg h1]
  by_cases h2 : a = 2
  · rw [if_pos h2, if_pos h2]
    by_cases hb : c = 0
    · rw [if_pos hb, decide_eq_true hb, Bool.true_and]; cases ibB b 0 2 <;> rfl
    · rw [if_neg hb, decide_eq_false hb, Bool.false_and]; cases ibB b 0 2 <;> rfl
  rw [if_neg h2, if_neg h2]
  by_cases h3 : a = 3
  · rw [if_pos h3, if_pos h3]
    by_cases hb : b = 0
    · rw [if_pos hb, decide_eq_true hb, Bool.true_and]
      by_cases hc : c = 0
      · rw [if_pos hc, decide_eq_true hc, Bool.true_and]
      · rw [if_neg hc, decide_eq_false hc, Bool.false_and]
    · rw [if_neg hb, decide_eq_false hb, Bool.false_and]
  rw [if_neg h3, if_neg h3]
  by_cases h4 : a = 4
  · rw [if_pos h4, if_pos h4]
    by_cases hb : b = 0
    · rw [if_pos hb, decide_eq_true hb, Bool.true_and]
      by_cases hc : c = 0
      · rw [if_pos hc, decide_eq_true hc, Bool.true_and, wrap_id (by omega) (by omega)]
        by_cases hC : C = []
        · by_cases hD : D = []
          · subst hC; subst hD; rw [if_pos (by rfl)]; by_cases hK : K = 0 <;> simp [hK]
          · have : 0 < D.length := List.length_pos_iff.mpr hD
            rw [if_neg (by omega)]; simp [hD]
        · have : 0 < C.length := List.length_pos_iff.mpr hC
          rw [if_neg (by omega)]; simp [hC]
      · rw [if_neg hc, decide_eq_false hc, Bool.false_and]
    · rw [if_neg hb, decide_eq_false hb, Bool.false_and]
  rw [if_neg h4, if_neg h4]

def lnB (x : S107) : Bool := lineB x.f0 x.f1 x.f2 x.f3.f0 x.f3.f1 x.f3.f2
def actG : List S107 → Int → Int → Bool
  | [], t, n => decide (n ≤ 6) && decide (t ≤ 3)
  | x :: xs, t, n => lnB x && actG xs (if x.f0 = 1 then wrap64 (t + 1) else t) n
def actB (l : List S107) : Bool := actG l 0 (l.length : Int)

theorem spec_act_loop (l : List S107) (hl : l.length ≤ 1048576) (hw : ∀ x ∈ l, (x.f3.f0.length : Int) ≤ 1048576 ∧ (x.f3.f1.length : Int) ≤ 1048576) (d : Nat) : ∀ (k i : Nat) (t : Int), i + d = l.length → d + 1048577 < k →
    spec_ActOk.l0 k l t (i : Int) = some (actG (l.drop i) t (l.length : Int)) := by
  induction d with
  | zero =>
    intro k i t hi hk
    obtain ⟨k, rfl⟩ : ∃ m, k = m + 1 := ⟨k - 1, by omega⟩
    simp only [spec_ActOk.l0]
    rw [if_neg (by omega), List.drop_of_length_le (by omega)]
    by_cases h : (l.length : Int) ≤ 6
    · rw [if_pos h]; simp only [actG]; rw [decide_eq_true h, Bool.true_and]
    · rw [if_neg h]; simp only [actG]; rw [decide_eq_false h, Bool.false_and]
  | succ d ih =>
    intro k i t hi hk
    obtain ⟨k, rfl⟩ : ∃ m, k = m + 1 := ⟨k - 1, by omega⟩
    have hlt : i < l.length := by omega
    have hx := hw _ (List.getElem_mem hlt)
    simp only [spec_ActOk.l0]
    rw [if_pos (by omega), if_pos (by omega), show rd_T107 l (i : Int) = l[i] from getDG z107 l i hlt, spec_line_eq l[i].f0 l[i].f1 l[i].f2 l[i].f3.f0 l[i].f3.f1 l[i].f3.f2 k (by omega) (by omega) (by omega) (by omega), List.drop_eq_getElem_cons hlt]
    simp only [Option.bind_some, actG]
    show _ = some (lineB l[i].f0 l[i].f1 l[i].f2 l[i].f3.f0 l[i].f3.f1 l[i].f3.f2 && _)
    cases lineB l[i].f0 l[i].f1 l[i].f2 l[i].f3.f0 l[i].f3.f1 l[i].f3.f2 with
    | false => rfl
    | true =>
      rw [if_pos rfl, Bool.true_and, show wrap64 ((i : Int) + 1) = ((i + 1 : Nat) : Int) from by rw [wrap_id (by omega) (by omega)]; omega]
      by_cases h1 : l[i].f0 = 1
      · rw [if_pos h1, if_pos h1]; exact ih k (i + 1) _ (by omega) (by omega)
      · rw [if_neg h1, if_neg h1]; exact ih k (i + 1) _ (by omega) (by omega)
theorem spec_Act_eq (l : List S107) (k : Nat) (hk : 2097154 < k) (hl : (l.length : Int) ≤ 1048576) (hw : ∀ x ∈ l, (x.f3.f0.length : Int) ≤ 1048576 ∧ (x.f3.f1.length : Int) ≤ 1048576) : spec_ActOk.f k l = some (actB l) := by
  unfold spec_ActOk.f actB
  have := spec_act_loop l (by omega) hw l.length k 0 0 (by omega) (by omega)
  simpa using this

theorem impl_act_loop (l : List S107) (hl : l.length ≤ 1048576) (d : Nat) : ∀ (k i : Nat) (t : Int), i + d = l.length → d + 1 < k →
    impl_ActOk.l0 k l t l (l.length : Int) (i : Int) = some (actG (l.drop i) t (l.length : Int)) := by
  induction d with
  | zero =>
    intro k i t hi hk
    obtain ⟨k, rfl⟩ : ∃ m, k = m + 1 := ⟨k - 1, by omega⟩
    simp only [impl_ActOk.l0]
    rw [if_neg (by omega), List.drop_of_length_le (by omega)]
    by_cases h : (l.length : Int) ≤ 6
    · rw [if_pos h]; simp only [actG]; rw [decide_eq_true h, Bool.true_and]
    · rw [if_neg h]; simp only [actG]; rw [decide_eq_false h, Bool.false_and]
  | succ d ih =>
    intro k i t hi hk
    obtain ⟨k, rfl⟩ : ∃ m, k = m + 1 := ⟨k - 1, by omega⟩
    have hlt : i < l.length := by omega
    simp only [impl_ActOk.l0]
    rw [if_pos (by omega), if_pos (by omega), if_pos (by omega), show rd_T107 l (i : Int) = l[i] from getDG z107 l i hlt, impl_line_eq l[i].f0 l[i].f1 l[i].f2 l[i].f3.f0 l[i].f3.f1 l[i].f3.f2 k (by omega), List.drop_eq_getElem_cons hlt]
    simp only [Option.bind_some, actG]
    show _ = some (lineB l[i].f0 l[i].f1 l[i].f2 l[i].f3.f0 l[i].f3.f1 l[i].f3.f2 && _)
    cases lineB l[i].f0 l[i].f1 l[i].f2 l[i].f3.f0 l[i].f3.f1 l[i].f3.f2 with
    | false => rfl
    | true =>
      rw [if_pos rfl, Bool.true_and, show wrap64 ((i : Int) + 1) = ((i + 1 : Nat) : Int) from by rw [wrap_id (by omega) (by omega)]; omega]
      by_cases h1 : l[i].f0 = 1
      · rw [if_pos h1, if_pos h1]; exact ih k (i + 1) _ (by omega) (by omega)
      · rw [if_neg h1, if_neg h1]; exact ih k (i + 1) _ (by omega) (by omega)
theorem impl_Act_eq (l : List S107) (k : Nat) (hk : (l.length : Int) + 1 < k) (hl : (l.length : Int) ≤ 1048576) : impl_ActOk.f k l = some (actB l) := by
  unfold impl_ActOk.f actB
  have := impl_act_loop l (by omega) l.length k 0 0 (by omega) (by omega)
  simpa using this

theorem idx_hit0 (q : Int → Bool) (x : Int) (xs : List Int) (h : q x = true) : idxOf q (x :: xs) = 0 := by
  unfold idxOf; rw [List.findIdx?_cons, if_pos h]; rfl
theorem idx_miss0 (q : Int → Bool) (x : Int) (xs : List Int) (h : q x = false) : (idxOf q xs = -1 ∧ idxOf q (x :: xs) = -1) ∨ (0 ≤ idxOf q xs ∧ idxOf q (x :: xs) = idxOf q xs + 1) := by
  unfold idxOf; rw [List.findIdx?_cons, if_neg (by rw [h]; decide)]
  cases hf : xs.findIdx? q with
  | none => exact .inl ⟨rfl, rfl⟩
  | some i => refine .inr ⟨by simp, ?_⟩; simp
def ngL (C : List Int) : List Int := C.map fun x => wrap64 (-x)
def catI (C : List Int) : List Int := if 0 ≤ idxOf (fun x : Int => x != 0) C ∧ rd C (idxOf (fun x : Int => x != 0) C) < 0 then C.map (fun x => wrap64 (-x)) else C
theorem catI_length (C : List Int) : (catI C).length = C.length := by unfold catI; split <;> simp
def catSgn (s x : Int) : Int := if s = 0 then (if x > 0 then 1 else if x < 0 then -1 else 0) else s
def catL : Int → List Int → List Int
  | _, [] => []
  | s, x :: xs => wrap64 (catSgn s x * x) :: catL (catSgn s x) xs
theorem catL_one : ∀ (C : List Int), (∀ x ∈ C, (Lit.int .i64 x).wf = true) → catL 1 C = C
  | [], _ => rfl
  | x :: xs, h => by
    have := bd64 (h x (List.mem_cons_self ..))
    simp only [catL, catSgn, show ¬ ((1 : Int) = 0) from by decide, if_false]
    rw [catL_one xs (fun y hy => h y (List.mem_cons_of_mem _ hy)), Int.one_mul, wrap_id this.1 this.2]
theorem catL_neg : ∀ (C : List Int), catL (-1) C = C.map fun x => wrap64 (-x)
  | [] => rfl
  | x :: xs => by
    simp only [catL, catSgn, show ¬ ((-1 : Int) = 0) from by decide, if_false, List.map_cons]
    rw [catL_neg xs, show (-1 : Int) * x = -x from by omega]
theorem catL_zero : ∀ (C : List Int), (∀ x ∈ C, (Lit.int .i64 x).wf = true) → catL 0 C = catI C
  | [], _ => by simp [catL, catI]
  | x :: xs, h => by
    have hb := bd64 (h x (List.mem_cons_self ..))
    have ht : ∀ y ∈ xs, (Lit.int .i64 y).wf = true := fun y hy => h y (List.mem_cons_of_mem _ hy)
    simp only [catL, catSgn, if_true]
    by_cases h1 : x > 0
    · rw [if_pos h1, catL_one xs ht, Int.one_mul, wrap_id hb.1 hb.2]
      unfold catI
      rw [idx_hit0 _ x xs (by simp; omega), if_neg (by rintro ⟨_, h2⟩; have : rd (x :: xs) 0 = x := rfl; omega)]
    · rw [if_neg h1]
      by_cases h2 : x < 0
      · rw [if_pos h2, catL_neg xs, show (-1 : Int) * x = -x from by omega]
        unfold catI
        rw [idx_hit0 _ x xs (by simp; omega), if_pos ⟨by omega, by have : rd (x :: xs) 0 = x := rfl; omega⟩]
        rfl
      · have h0 : x = 0 := by omega
        subst h0
        rw [if_neg h2, catL_zero xs ht, Int.zero_mul, wrap_id (by decide) (by decide)]
        unfold catI
        rcases idx_miss0 (fun x : Int => x != 0) 0 xs (by decide) with ⟨e1, e2⟩ | ⟨e1, e2⟩
        · rw [e1, e2, if_neg (by omega), if_neg (by omega)]
        · rw [e2, show rd (0 :: xs) (idxOf (fun x : Int => x != 0) xs + 1) = rd xs (idxOf (fun x : Int => x != 0) xs) from by
            unfold rd
            rw [show (idxOf (fun x : Int => x != 0) xs + 1).toNat = (idxOf (fun x : Int => x != 0) xs).toNat + 1 from by omega, List.getD_cons_succ]]
          by_cases h3 : rd xs (idxOf (fun x : Int => x != 0) xs) < 0
          · rw [if_pos ⟨e1, h3⟩, if_pos ⟨by omega, h3⟩, List.map_cons, show wrap64 (-0) = 0 from wrap_id (by decide) (by decide)]
          · rw [if_neg (fun hh => h3 hh.2), if_neg (fun hh => h3 hh.2)]

theorem szssLine_loop (l : List (List S104)) (hl : l.length ≤ 1048576) (hw : ∀ y ∈ l, y.length ≤ 9223372036854775807 ∧ ∀ x ∈ y, x.f3.f0.length ≤ 9223372036854775807 ∧ x.f3.f1.length ≤ 9223372036854775807) (d : Nat) : ∀ (k i : Nat) (n : Int), i + d = l.length → d + 1048578 < k → 0 ≤ n → n ≤ 1048576 →
    ∃ t, laws_szActLineSS.l0 k l n (i : Int) = some t ∧ (t < 0 ∨ (0 ≤ t ∧ t ≤ n ∧ ∀ y ∈ l.drop i, (y.length : Int) ≤ 1048576 ∧ ∀ x ∈ y, (x.f3.f0.length : Int) ≤ 1048576 ∧ (x.f3.f1.length : Int) ≤ 1048576)) := by
  induction d with
  | zero =>
    intro k i n hi hk h0 h1
    obtain ⟨k, rfl⟩ : ∃ m, k = m + 1 := ⟨k - 1, by omega⟩
    refine ⟨n, ?_, .inr ⟨h0, Int.le_refl _, ?_⟩⟩
    · simp only [laws_szActLineSS.l0]; rw [if_neg (by omega)]
    · rw [List.drop_of_length_le (by omega)]; simp
  | succ d ih =>
    intro k i n hi hk h0 h1
    obtain ⟨k, rfl⟩ : ∃ m, k = m + 1 := ⟨k - 1, by omega⟩
    have hlt : i < l.length := by omega
    have hq := hw _ (List.getElem_mem hlt)
    simp only [laws_szActLineSS.l0]
    rw [if_pos (by omega), if_pos (by omega), show rd_L4 l (i : Int) = l[i] from getDG [] l i hlt]
    obtain ⟨t, e, h⟩ := sz_sLine l[i] k n h0 h1 (by omega) hq.1 hq.2
    rw [e]; simp only [Option.bind_some]
    rcases h with h | ⟨ha, hb, hc, hd⟩
    · rw [if_pos h]; exact ⟨_, rfl, .inl (by decide)⟩
    · rw [if_neg (by omega), show wrap64 ((i : Int) + 1) = ((i + 1 : Nat) : Int) from by rw [wrap_id (by omega) (by omega)]; omega]
      obtain ⟨u, e2, h2⟩ := ih k (i + 1) t (by omega) (by omega) ha (by omega)
      refine ⟨u, e2, ?_⟩
      rcases h2 with h2 | ⟨p, q, r⟩
      · exact .inl h2
      · refine .inr ⟨p, by omega, fun y hy => ?_⟩
        rw [List.drop_eq_getElem_cons hlt] at hy
        rcases List.mem_cons.mp hy with rfl | hy
        · exact ⟨by omega, hd⟩
        · exact r y hy
theorem sz_ssLine (l : List (List S104)) (k : Nat) (n : Int) (h0 : 0 ≤ n) (h1 : n ≤ 1048576) (hk : 2097155 < k) (hl : l.length ≤ 9223372036854775807) (hw : ∀ y ∈ l, y.length ≤ 9223372036854775807 ∧ ∀ x ∈ y, x.f3.f0.length ≤ 9223372036854775807 ∧ x.f3.f1.length ≤ 9223372036854775807) :
    ∃ t, laws_szActLineSS.f k l n = some t ∧ (t < 0 ∨ (0 ≤ t ∧ t ≤ n ∧ (l.length : Int) ≤ n ∧ ∀ y ∈ l, (y.length : Int) ≤ 1048576 ∧ ∀ x ∈ y, (x.f3.f0.length : Int) ≤ 1048576 ∧ (x.f3.f1.length : Int) ≤ 1048576)) := by
  unfold laws_szActLineSS.f
  have e : wrap64 (n - (l.length : Int)) = n - (l.length : Int) := wrap_id (by omega) (by omega)
  rw [e]
  by_cases h : n - (l.length : Int) < 0
  · rw [if_pos h]; exact ⟨_, rfl, .inl (by decide)⟩
  · rw [if_neg h]
    obtain ⟨u, e2, h2⟩ := szssLine_loop l (by omega) hw l.length k 0 (n - (l.length : Int)) (by omega) (by omega) (by omega) (by omega)
    refine ⟨u, e2, ?_⟩
    rcases h2 with h2 | ⟨p, q, r⟩
    · exact .inl h2
    · exact .inr ⟨p, by omega, by omega, fun y hy => r y (by simpa using hy)⟩

theorem tossLine_loop (l : List (List S104)) (hl : l.length ≤ 1048576) (hw : ∀ y ∈ l, (y.length : Int) ≤ 1048576 ∧ ∀ x ∈ y, (x.f3.f0.length : Int) ≤ 1048576 ∧ (x.f3.f1.length : Int) ≤ 1048576) (d : Nat) : ∀ (k i : Nat), i + d = l.length → d + 2097155 < k →
    laws_toActLineSS.l0 k l ((l.map (List.map cvLine)).take i ++ List.replicate ((l.map (List.map cvLine)).length - i) []) (i : Int) = some (l.map (List.map cvLine)) := by
  induction d with
  | zero =>
    intro k i hi hk
    obtain ⟨k, rfl⟩ : ∃ m, k = m + 1 := ⟨k - 1, by omega⟩
    simp only [laws_toActLineSS.l0]
    rw [if_neg (by omega), List.take_of_length_le (by rw [List.length_map]; omega), show (l.map (List.map cvLine)).length - i = 0 from by rw [List.length_map]; omega]
    simp
  | succ d ih =>
    intro k i hi hk
    obtain ⟨k, rfl⟩ : ∃ m, k = m + 1 := ⟨k - 1, by omega⟩
    have hlt : i < l.length := by omega
    have hlm : i < (l.map (List.map cvLine)).length := by rw [List.length_map]; exact hlt
    simp only [laws_toActLineSS.l0]
    have hlen : ((l.map (List.map cvLine)).take i ++ List.replicate ((l.map (List.map cvLine)).length - i) []).length = l.length := by simp; omega
    have hx := hw _ (List.getElem_mem hlt)
    rw [if_pos (by omega), if_pos (by omega), show rd_L4 l (i : Int) = l[i] from getDG [] l i hlt, to_sLine l[i] k (by omega) hx.1 hx.2]
    simp only [Option.bind_some]
    have e := set_takeG [] (l.map (List.map cvLine)) i hlm
    rw [List.getElem_map] at e
    rw [if_pos (by rw [hlen]; omega), show ((i : Int)).toNat = i from by omega, show wrap64 ((i : Int) + 1) = ((i + 1 : Nat) : Int) from by rw [wrap_id (by omega) (by omega)]; omega, e]
    exact ih k (i + 1) (by omega) (by omega)
theorem to_ssLine (l : List (List S104)) (k : Nat) (hk : 3145732 < k) (hl : (l.length : Int) ≤ 1048576) (hw : ∀ y ∈ l, (y.length : Int) ≤ 1048576 ∧ ∀ x ∈ y, (x.f3.f0.length : Int) ≤ 1048576 ∧ (x.f3.f1.length : Int) ≤ 1048576) : laws_toActLineSS.f k l = some (l.map (List.map cvLine)) := by
  unfold laws_toActLineSS.f
  rw [if_pos (by omega), if_pos (by omega), show ((l.length : Int)).toNat = l.length from by omega]
  have := tossLine_loop l (by omega) hw l.length k 0 (by omega) (by omega)
  simpa using this
theorem cvssLine (l : List (List S104)) (hw : ∀ y ∈ l, (y.length : Int) ≤ 1048576 ∧ ∀ x ∈ y, (x.f3.f0.length : Int) ≤ 1048576 ∧ (x.f3.f1.length : Int) ≤ 1048576) : ∀ y ∈ l.map (List.map cvLine), (y.length : Int) ≤ 1048576 ∧ ∀ x ∈ y, (x.f3.f0.length : Int) ≤ 1048576 ∧ (x.f3.f1.length : Int) ≤ 1048576 := by
  intro y hy
  obtain ⟨z, hz, rfl⟩ := List.mem_map.mp hy
  exact ⟨by rw [List.length_map]; exact (hw z hz).1, cvsLine z (hw z hz).2⟩

theorem eqssLine_loop (l : List (List S107)) (hl : l.length ≤ 1048576) (hw : ∀ y ∈ l, (y.length : Int) ≤ 1048576 ∧ ∀ x ∈ y, (x.f3.f0.length : Int) ≤ 1048576 ∧ (x.f3.f1.length : Int) ≤ 1048576) (d : Nat) : ∀ (k i : Nat), i + d = l.length → d + 2097155 < k → laws_eqActLineSS.l0 k l l (i : Int) = some true := by
  induction d with
  | zero =>
    intro k i hi hk
    obtain ⟨k, rfl⟩ : ∃ m, k = m + 1 := ⟨k - 1, by omega⟩
    simp only [laws_eqActLineSS.l0]
    rw [if_neg (by omega)]
  | succ d ih =>
    intro k i hi hk
    obtain ⟨k, rfl⟩ : ∃ m, k = m + 1 := ⟨k - 1, by omega⟩
    have hlt : i < l.length := by omega
    have hx := hw _ (List.getElem_mem hlt)
    simp only [laws_eqActLineSS.l0]
    rw [if_pos (by omega), if_pos (by omega), if_pos (by omega), show rd_L7 l (i : Int) = l[i] from getDG [] l i hlt, eq_sLine l[i] k (by omega) hx.1 hx.2]
    simp only [Option.bind_some, if_true, bne_self_eq_false, Bool.false_eq_true, if_false]
    rw [show wrap64 ((i : Int) + 1) = ((i + 1 : Nat) : Int) from by rw [wrap_id (by omega) (by omega)]; omega]
    exact ih k (i + 1) (by omega) (by omega)
theorem eq_ssLine (l : List (List S107)) (k : Nat) (hk : 3145732 < k) (hl : (l.length : Int) ≤ 1048576) (hw : ∀ y ∈ l, (y.length : Int) ≤ 1048576 ∧ ∀ x ∈ y, (x.f3.f0.length : Int) ≤ 1048576 ∧ (x.f3.f1.length : Int) ≤ 1048576) : laws_eqActLineSS.f k l l = some true := by
  unfold laws_eqActLineSS.f
  rw [if_pos rfl]
  exact eqssLine_loop l (by omega) hw l.length k 0 (by omega) (by omega)

def catB (l : List (List S107)) : Bool := ibB (l.length : Int) 1 4 && l.all actB

theorem actO_eq (x : List S107) (h : (x.length : Int) ≤ 1048576) : actO x = some (actB x) := by
  unfold actO
  exact impl_Act_eq x _ (by omega) h
theorem impl_Cat_eq (l : List (List S107)) (hw : ∀ y ∈ l, (y.length : Int) ≤ 1048576) : impl_CatOk.f l = some (catB l) := by
  unfold impl_CatOk.f catB
  have h1 : l.all (fun x => (actO x).isSome) = true := List.all_eq_true.mpr fun x hx => by rw [actO_eq x (hw x hx)]; rfl
  have h2 : ∀ (m : List (List S107)), (∀ y ∈ m, (y.length : Int) ≤ 1048576) → (!(m.any fun x => !(actO x).getD false)) = m.all actB := by
    intro m
    induction m with
    | nil => intro _; rfl
    | cons x xs ih =>
      intro h
      rw [List.any_cons, List.all_cons, ← ih (fun y hy => h y (List.mem_cons_of_mem _ hy)), actO_eq x (h x (List.mem_cons_self ..))]
      cases actB x <;> simp
  rw [if_pos h1, h2 l hw, inB_ib]

theorem spec_cat_loop (l : List (List S107)) (hl : l.length ≤ 1048576) (hw : ∀ y ∈ l, (y.length : Int) ≤ 1048576 ∧ ∀ x ∈ y, (x.f3.f0.length : Int) ≤ 1048576 ∧ (x.f3.f1.length : Int) ≤ 1048576) (d : Nat) : ∀ (k i : Nat), i + d = l.length → d + 2097155 < k →
    spec_CatOk.l0 k l (i : Int) = some ((l.drop i).all actB) := by
  induction d with
  | zero =>
    intro k i hi hk
    obtain ⟨k, rfl⟩ : ∃ m, k = m + 1 := ⟨k - 1, by omega⟩
    simp only [spec_CatOk.l0]
    rw [if_neg (by omega), List.drop_of_length_le (by omega)]
    rfl
  | succ d ih =>
    intro k i hi hk
    obtain ⟨k, rfl⟩ : ∃ m, k = m + 1 := ⟨k - 1, by omega⟩
    have hlt : i < l.length := by omega
    have hx := hw _ (List.getElem_mem hlt)
    simp only [spec_CatOk.l0]
    rw [if_pos (by omega), if_pos (by omega), show rd_L7 l (i : Int) = l[i] from getDG [] l i hlt, spec_Act_eq l[i] k (by omega) hx.1 hx.2, List.drop_eq_getElem_cons hlt, List.all_cons]
    simp only [Option.bind_some]
    cases actB l[i] with
    | false => rfl
    | true =>
      rw [if_pos rfl, show wrap64 ((i : Int) + 1) = ((i + 1 : Nat) : Int) from by rw [wrap_id (by omega) (by omega)]; omega, ih k (i + 1) (by omega) (by omega)]
      rfl
theorem spec_Cat_eq (l : List (List S107)) (k : Nat) (hk : 3145732 < k) (hl : (l.length : Int) ≤ 1048576) (hw : ∀ y ∈ l, (y.length : Int) ≤ 1048576 ∧ ∀ x ∈ y, (x.f3.f0.length : Int) ≤ 1048576 ∧ (x.f3.f1.length : Int) ≤ 1048576) : spec_CatOk.f k l = some (catB l) := by
  unfold spec_CatOk.f catB
  rw [l1In_eq]; simp only [Option.bind_some]
  cases ibB (l.length : Int) 1 4 with
  | false => rfl
  | true =>
    rw [if_pos rfl, Bool.true_and]
    have := spec_cat_loop l (by omega) hw l.length k 0 (by omega) (by omega)
    simpa using this

theorem sz_pln (a : Int) (l : List (List S104)) (G S : List Int) (k : Nat) (n : Int) (h0 : 0 ≤ n) (h1 : n ≤ 1048576) (hk : 2097155 < k) (hl : l.length ≤ 9223372036854775807) (hw : ∀ y ∈ l, y.length ≤ 9223372036854775807 ∧ ∀ x ∈ y, x.f3.f0.length ≤ 9223372036854775807 ∧ x.f3.f1.length ≤ 9223372036854775807) (hG : G.length ≤ 9223372036854775807) (hS : S.length ≤ 9223372036854775807) :
    ∃ t, laws_szPlnPlan.f k a l G S n = some t ∧ (t < 0 ∨ (0 ≤ t ∧ t ≤ n ∧ (l.length : Int) ≤ n ∧ (G.length : Int) ≤ n ∧ (S.length : Int) ≤ n ∧ ∀ y ∈ l, (y.length : Int) ≤ 1048576 ∧ ∀ x ∈ y, (x.f3.f0.length : Int) ≤ 1048576 ∧ (x.f3.f1.length : Int) ≤ 1048576)) := by
  unfold laws_szPlnPlan.f
  obtain ⟨t, e, h⟩ := sz_ssLine l k n h0 h1 hk hl hw
  rw [e]; simp only [Option.bind_some, if_true, bne_self_eq_false, Bool.false_eq_true, if_false]
  rcases h with h | ⟨ha, hb, hc, hd⟩
  · rw [if_pos h]; exact ⟨_, rfl, .inl (by decide)⟩
  rw [if_neg (by omega)]
  obtain ⟨u, e2, h2⟩ := sz_int G t ha (by omega) hG
  rw [e2]; simp only [Option.bind_some, if_true, bne_self_eq_false, Bool.false_eq_true, if_false]
  rcases h2 with h2 | ⟨i1, i2⟩
  · rw [if_pos h2]; exact ⟨_, rfl, .inl (by decide)⟩
  rw [if_neg (by omega)]
  obtain ⟨v, e3, h3⟩ := sz_int S u i1 (by omega) hS
  rw [e3]; simp only [Option.bind_some, if_true, bne_self_eq_false, Bool.false_eq_true, if_false]
  rcases h3 with h3 | ⟨j1, j2⟩
  · rw [if_pos h3]; exact ⟨_, rfl, .inl (by decide)⟩
  rw [if_neg (by omega)]
  exact ⟨_, rfl, .inr ⟨by omega, by omega, by omega, by omega, by omega, hd⟩⟩

theorem to_pln (a : Int) (l : List (List S104)) (G S : List Int) (k : Nat) (hk : 3145732 < k) (hl : (l.length : Int) ≤ 1048576) (hG : (G.length : Int) ≤ 1048576) (hS : (S.length : Int) ≤ 1048576) (hw : ∀ y ∈ l, (y.length : Int) ≤ 1048576 ∧ ∀ x ∈ y, (x.f3.f0.length : Int) ≤ 1048576 ∧ (x.f3.f1.length : Int) ≤ 1048576) : laws_toPlnPlan.f k a l G S = some (a, l.map (List.map cvLine), G, S) := by
  unfold laws_toPlnPlan.f
  rw [to_ssLine l k hk hl hw]; simp only [Option.bind_some, if_true, bne_self_eq_false, Bool.false_eq_true, if_false]
  rw [to_int G k (by omega) (by omega)]; simp only [Option.bind_some, if_true, bne_self_eq_false, Bool.false_eq_true, if_false]
  rw [to_int S k (by omega) (by omega)]; simp only [Option.bind_some, if_true, bne_self_eq_false, Bool.false_eq_true, if_false]

theorem eq_pln (a : Int) (l : List (List S107)) (G S : List Int) (k : Nat) (hk : 3145732 < k) (hl : (l.length : Int) ≤ 1048576) (hG : (G.length : Int) ≤ 1048576) (hS : (S.length : Int) ≤ 1048576) (hw : ∀ y ∈ l, (y.length : Int) ≤ 1048576 ∧ ∀ x ∈ y, (x.f3.f0.length : Int) ≤ 1048576 ∧ (x.f3.f1.length : Int) ≤ 1048576) : laws_eqPlnPlan.f k a l G S a l G S = some true := by
  unfold laws_eqPlnPlan.f
  rw [if_pos rfl, eq_ssLine l k hk hl hw]; simp only [Option.bind_some, if_true, bne_self_eq_false, Bool.false_eq_true, if_false]
  rw [eq_int G k (by omega) (by omega)]; simp only [Option.bind_some, if_true, bne_self_eq_false, Bool.false_eq_true, if_false]
  rw [eq_int S k (by omega) (by omega)]; simp only [Option.bind_some, if_true, bne_self_eq_false, Bool.false_eq_true, if_false]

def plnB (a : Int) (l : List (List S107)) (G S : List Int) : Bool := ibB a 1 4 && (catB l && (okB S 3 1000 && trtB S G))

theorem impl_Pln_eq (a : Int) (l : List (List S107)) (G S : List Int) (hw : ∀ y ∈ l, (y.length : Int) ≤ 1048576) : impl_PlnOk.f a l G S = some (plnB a l G S) := by
  unfold impl_PlnOk.f plnB
  rw [impl_Cat_eq l hw]; simp only [Option.bind_some, if_true, bne_self_eq_false, Bool.false_eq_true, if_false]
  rw [impl_TrtOk_eq]; simp only [Option.bind_some, if_true, bne_self_eq_false, Bool.false_eq_true, if_false]
  rw [inB_ib, withinB_ok]

theorem spec_Pln_eq (a : Int) (l : List (List S107)) (G S : List Int) (k : Nat) (hk : 3145732 < k) (hl : (l.length : Int) ≤ 1048576) (hG : (G.length : Int) ≤ 1048576) (hS : (S.length : Int) ≤ 1048576) (hw : ∀ y ∈ l, (y.length : Int) ≤ 1048576 ∧ ∀ x ∈ y, (x.f3.f0.length : Int) ≤ 1048576 ∧ (x.f3.f1.length : Int) ≤ 1048576) : spec_PlnOk.f k a l G S = some (plnB a l G S) := by
  obtain ⟨k, rfl⟩ : ∃ m, k = m + 1 := ⟨k - 1, by omega⟩
  unfold spec_PlnOk.f plnB
  rw [l1In_eq]; simp only [Option.bind_some, if_true, bne_self_eq_false, Bool.false_eq_true, if_false]
  cases ibB a 1 4 with
  | false => rfl
  | true =>
    rw [if_pos rfl, spec_Cat_eq l (k + 1) hk hl hw]; simp only [Option.bind_some, if_true, bne_self_eq_false, Bool.false_eq_true, if_false]
    cases catB l with
    | false => rfl
    | true =>
      rw [if_pos rfl, l1All_eq S _ _ (k + 1) (by omega) (by omega)]; simp only [Option.bind_some, if_true, bne_self_eq_false, Bool.false_eq_true, if_false]
      cases okB S 3 1000 with
      | false => rfl
      | true => rw [if_pos rfl, spec_TrtOk_eq S G k (by omega) (by omega) (by omega) (by omega)]; rfl

theorem frmB_facts {C D : List Int} {K : Int} (h : frmB C D K = true) : ∃ c0 c1 c2 d0 d1, C = [c0, c1, c2] ∧ D = [d0, d1] ∧ (-10000000 ≤ c0 ∧ c0 ≤ 10000000) ∧ (-10000000 ≤ c1 ∧ c1 ≤ 10000000) ∧ (-10000000 ≤ c2 ∧ c2 ≤ 10000000) ∧ wrap64 K = K := by
  unfold frmB at h
  simp only [Bool.and_eq_true] at h
  obtain ⟨h1, h2, h3⟩ := h
  obtain ⟨a1, a2⟩ := okB_iff.mp h1
  obtain ⟨b1, b2⟩ := okB_iff.mp h2
  have k3 := ibB_iff.mp h3
  obtain ⟨c0, c1, c2, rfl⟩ := len3 a1
  obtain ⟨d0, d1, rfl⟩ := len2 b1
  have w : wrap64 (-10000000) = -10000000 := wrap_id (by decide) (by decide)
  rw [w] at a2
  exact ⟨c0, c1, c2, d0, d1, rfl, rfl, a2 c0 (by simp), a2 c1 (by simp), a2 c2 (by simp), wrap_id (by omega) (by omega)⟩

def callB (a c s t : Int) (l : List (List S107)) (R : List Int) : Bool := ibB c 0 (wrap64 (a - 1)) && (ibB s 1 300 && (ibB t 0 (wrap64 ((l.length : Int) - 1)) && okB R 2 9))

theorem impl_Call_eq (a : Int) (l : List (List S107)) (G S : List Int) (c s t : Int) (R : List Int) (hw : ∀ y ∈ l, (y.length : Int) ≤ 1048576) : impl_CallOk.f a l G S c s t R = some (plnB a l G S && callB a c s t l R) := by
  unfold impl_CallOk.f
  rw [impl_Pln_eq a l G S hw]; simp only [Option.bind_some]
  cases plnB a l G S with
  | false => rfl
  | true =>
    rw [if_pos rfl, Bool.true_and]
    unfold impl_PlnPlan_callOk.f impl_PlnPlan_isClient.f callB
    rw [in_eq]; simp only [Option.bind_some]
    cases ibB c 0 (wrap64 (a - 1)) with
    | false => rfl
    | true =>
      rw [if_pos rfl, in_eq]; simp only [Option.bind_some]
      cases ibB t 0 (wrap64 ((l.length : Int) - 1)) with
      | false => cases ibB s 1 300 <;> rfl
      | true =>
        rw [if_pos rfl, in_eq]; simp only [Option.bind_some]
        cases ibB s 1 300 with
        | false => rfl
        | true => rw [if_pos rfl, impl_Arg_eq]; rfl

theorem spec_Call_eq (a : Int) (l : List (List S107)) (G S : List Int) (c s t : Int) (R : List Int) (k : Nat) (hk : 3145732 < k) (hl : (l.length : Int) ≤ 1048576) (hG : (G.length : Int) ≤ 1048576) (hS : (S.length : Int) ≤ 1048576) (hR : (R.length : Int) ≤ 1048576) (hw : ∀ y ∈ l, (y.length : Int) ≤ 1048576 ∧ ∀ x ∈ y, (x.f3.f0.length : Int) ≤ 1048576 ∧ (x.f3.f1.length : Int) ≤ 1048576) : spec_CallOk.f k a l G S c s t R = some (plnB a l G S && callB a c s t l R) := by
  unfold spec_CallOk.f
  rw [spec_Pln_eq a l G S k hk hl hG hS hw]; simp only [Option.bind_some]
  cases plnB a l G S with
  | false => rfl
  | true =>
    rw [if_pos rfl, Bool.true_and]
    unfold spec_l6Call.f callB
    rw [l1In_eq]; simp only [Option.bind_some]
    cases ibB c 0 (wrap64 (a - 1)) with
    | false => rfl
    | true =>
      rw [if_pos rfl, l1In_eq]; simp only [Option.bind_some]
      cases ibB s 1 300 with
      | false => rfl
      | true =>
        rw [if_pos rfl, l1In_eq]; simp only [Option.bind_some]
        cases ibB t 0 (wrap64 ((l.length : Int) - 1)) with
        | false => rfl
        | true => rw [if_pos rfl, spec_Arg_eq R k (by omega) (by omega)]; rfl

theorem FnExactCallOk : laws_FnExactCallOk.Pure := by
  intro a l G S c s t R ha hl hG hS hc hs ht hR
  obtain ⟨k, hk⟩ : ∃ k : Nat, 6000000 < k := ⟨6000001, by omega⟩
  refine ⟨k, ?_⟩
  unfold laws_FnExactCallOk.f
  obtain ⟨u, e2, g⟩ := sz_pln a l G S k 1048576 (by omega) (by omega) (by omega) hl.1 (fun y hy => ⟨(hl.2 y hy).1, fun x hx => ⟨((hl.2 y hy).2 x hx).2.2.2.1.1, ((hl.2 y hy).2 x hx).2.2.2.2.1.1⟩⟩) hG.1 hS.1
  rw [e2]; simp only [Option.bind_some, if_true, bne_self_eq_false, Bool.false_eq_true, if_false]
  rcases g with g | ⟨g1, g2, g3, g7, g8, g4⟩
  · rw [if_pos g]
  rw [if_neg (by omega)]
  unfold laws_szPlnCall.f
  obtain ⟨v, e3, f⟩ := sz_int R u g1 (by omega) hR.1
  rw [e3]; simp only [Option.bind_some, if_true, bne_self_eq_false, Bool.false_eq_true, if_false]
  rcases f with f | ⟨f1, f2⟩
  · rw [if_pos f]; simp only [Option.bind_some, if_true, bne_self_eq_false, Bool.false_eq_true, if_false]
    rw [if_pos (by decide)]
  rw [if_neg (by omega)]; simp only [Option.bind_some, if_true, bne_self_eq_false, Bool.false_eq_true, if_false]
  rw [if_neg (by omega), to_pln a l G S k (by omega) g3 g7 g8 g4]; simp only [Option.bind_some, if_true, bne_self_eq_false, Bool.false_eq_true, if_false]
  have hto : laws_toPlnCall.f k c s t R = some (c, s, t, R) := by
    unfold laws_toPlnCall.f
    rw [to_int R k (by omega) (by omega)]; rfl
  have heq : laws_eqPlnCall.f k c s t R c s t R = some true := by
    unfold laws_eqPlnCall.f
    rw [if_pos rfl, if_pos rfl, if_pos rfl, eq_int R k (by omega) (by omega)]; rfl
  rw [hto]; simp only [Option.bind_some, if_true, bne_self_eq_false, Bool.false_eq_true, if_false]
  have g5 := cvssLine l g4
  have g6 : ((l.map (List.map cvLine)).length : Int) ≤ 1048576 := by rw [List.length_map]; exact g3
  rw [spec_Call_eq a _ G S c s t R k (by omega) g6 g7 g8 (by omega) g5]; simp only [Option.bind_some, if_true, bne_self_eq_false, Bool.false_eq_true, if_false]
  rw [impl_Call_eq a _ G S c s t R (fun y hy => (g5 y hy).1)]; simp only [Option.bind_some, if_true, bne_self_eq_false, Bool.false_eq_true, if_false]
  rw [eq_pln a _ G S k (by omega) g6 g7 g8 g5]; simp only [Option.bind_some, if_true, bne_self_eq_false, Bool.false_eq_true, if_false]
  rw [heq]; simp only [Option.bind_some, if_true, bne_self_eq_false, Bool.false_eq_true, if_false]

end Go.Proofs.Ytjfjfdcmliaigaa.Pure
