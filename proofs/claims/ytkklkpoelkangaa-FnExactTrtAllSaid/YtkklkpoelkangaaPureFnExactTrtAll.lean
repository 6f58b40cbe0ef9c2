/- The plain law FnExactTrtAll: what the printed functions compute answers as the statement says. -/
import Derived.Test.YtkklkpoelkangaaQFnExactTrtAllx5
import Derived.OpenShut
set_option linter.unusedVariables false
set_option linter.unusedSimpArgs false
namespace Go.Proofs.Ytkklkpoelkangaa.Pure
open Go.RowKit Go.Proofs.Ytkklkpoelkangaa.QFnExactTrtAll Go.Proofs.YtkklkpoelkangaaW.PrintWords Go.Proofs.YtkklkpoelkangaaW.PrintLast Go.Proofs.Ytkklkpoelkangaa.HWords

theorem bd64 {x : Int} (h : (Lit.int .i64 x).wf = true) : -9223372036854775808 ≤ x ∧ x ≤ 9223372036854775807 := bounds_i64 h
theorem wrap_id {x : Int} (h0 : -9223372036854775808 ≤ x) (h1 : x ≤ 9223372036854775807) : wrap64 x = x := by unfold wrap64; omega
theorem wrap_l (x y : Int) : wrap64 (wrap64 x + y) = wrap64 (x + y) := by unfold wrap64; omega
theorem wrap_r (x y : Int) : wrap64 (x + wrap64 y) = wrap64 (x + y) := by unfold wrap64; omega
theorem wrap_ll (x y z : Int) : wrap64 (wrap64 x + y + z) = wrap64 (x + y + z) := by unfold wrap64; omega
theorem wrap_lr (x y z : Int) : wrap64 (x + wrap64 y + z) = wrap64 (x + y + z) := by unfold wrap64; omega
theorem getD_at (l : List Int) (i : Nat) (h : i < l.length) : rd l (i : Int) = l[i] := by
  unfold rd
  rw [show ((i : Int)).toNat = i from by omega, List.getD_eq_getElem?_getD, List.getElem?_eq_getElem h]
  rfl
/-- The plain 'within bounds'. -/
def ibB (n lo hi : Int) : Bool := decide (lo ≤ n) && decide (n ≤ hi)
/-- As many as must be, each within a bound. -/
def okB (l : List Int) (n m : Int) : Bool := decide ((l.length : Int) = n) && l.all (fun x => ibB x (wrap64 (-m)) m)
theorem ibB_iff {n lo hi : Int} : ibB n lo hi = true ↔ lo ≤ n ∧ n ≤ hi := by unfold ibB; simp
theorem okB_iff {l : List Int} {n m : Int} : okB l n m = true ↔ (l.length : Int) = n ∧ ∀ x ∈ l, wrap64 (-m) ≤ x ∧ x ≤ m := by
  unfold okB ibB; simp

theorem sz_int (l : List Int) (n : Int) (h0 : 0 ≤ n) (h1 : n ≤ 1048576) (hl : l.length ≤ 9223372036854775807) :
    ∃ t, laws_szIntS.f l n = some t ∧ (t < 0 ∨ (0 ≤ t ∧ t + l.length = n)) := by
  unfold laws_szIntS.f
  have e : wrap64 (n - (l.length : Int)) = n - (l.length : Int) := wrap_id (by omega) (by omega)
  rw [e]
  by_cases h : n - (l.length : Int) < 0
  · rw [if_pos h]; exact ⟨_, rfl, .inl (by decide)⟩
  · rw [if_neg h]; exact ⟨_, rfl, .inr ⟨by omega, by omega⟩⟩

theorem sz_trt (C D : List Int) (n : Int) (h0 : 0 ≤ n) (h1 : n ≤ 1048576) (hc : C.length ≤ 9223372036854775807) (hd : D.length ≤ 9223372036854775807) :
    ∃ t, laws_szTrtTreaty.f C D n = some t ∧ (t < 0 ∨ (0 ≤ t ∧ t + C.length + D.length = n)) := by
  unfold laws_szTrtTreaty.f
  obtain ⟨t, e, h⟩ := sz_int C n h0 h1 hc
  rw [e]; simp only [Option.bind_some, if_true, bne_self_eq_false, Bool.false_eq_true, if_false]
  rcases h with h | ⟨ha, hb⟩
  · rw [if_pos h]; exact ⟨_, rfl, .inl (by decide)⟩
  · rw [if_neg (by omega)]
    obtain ⟨u, e2, h2⟩ := sz_int D t ha (by omega) hd
    rw [e2]; simp only [Option.bind_some, if_true, bne_self_eq_false, Bool.false_eq_true, if_false]
    rcases h2 with h2 | ⟨hc2, hd2⟩
    · rw [if_pos h2]; exact ⟨_, rfl, .inl (by decide)⟩
    · rw [if_neg (by omega)]; exact ⟨_, rfl, .inr ⟨by omega, by omega⟩⟩

theorem set_take (l : List Int) (i : Nat) (h : i < l.length) :
    (l.take i ++ List.replicate (l.length - i) (0 : Int)).set i l[i] = l.take (i + 1) ++ List.replicate (l.length - (i + 1)) 0 := by
  rw [List.set_append_right _ _ (by rw [List.length_take]; omega), List.length_take, Nat.min_eq_left (by omega), Nat.sub_self]
  obtain ⟨m, hm⟩ : ∃ m, l.length - i = m + 1 := ⟨l.length - i - 1, by omega⟩
  rw [hm, List.replicate_succ, List.set_cons_zero, show l.length - (i + 1) = m from by omega, List.take_succ_eq_append_getElem h, List.append_assoc]
  rfl
theorem to_loop (l : List Int) (hl : l.length ≤ 1048576) (d : Nat) : ∀ (k i : Nat), i + d = l.length → d < k →
    laws_toIntS.l0 k l (l.take i ++ List.replicate (l.length - i) 0) (i : Int) = some l := by
  induction d with
  | zero =>
    intro k i hi hk
    obtain ⟨k, rfl⟩ : ∃ m, k = m + 1 := ⟨k - 1, by omega⟩
    simp only [laws_toIntS.l0]
    rw [if_neg (by omega), show i = l.length from by omega]
    simp
  | succ d ih =>
    intro k i hi hk
    obtain ⟨k, rfl⟩ : ∃ m, k = m + 1 := ⟨k - 1, by omega⟩
    have hlt : i < l.length := by omega
    simp only [laws_toIntS.l0]
    have hlen : (l.take i ++ List.replicate (l.length - i) (0 : Int)).length = l.length := by simp; omega
    rw [if_pos (by omega), if_pos (by omega), if_pos (by rw [hlen]; omega), getD_at l i hlt, show ((i : Int)).toNat = i from by omega, set_take l i hlt,
      wrap_id (by omega) (by omega), show (i : Int) + 1 = ((i + 1 : Nat) : Int) from by omega]
    exact ih k (i + 1) (by omega) (by omega)
theorem to_int (l : List Int) (k : Nat) (hk : l.length < k) (hl : l.length ≤ 1048576) : laws_toIntS.f k l = some l := by
  unfold laws_toIntS.f
  rw [if_pos (by omega), if_pos (by omega), show ((l.length : Int)).toNat = l.length from by omega]
  have := to_loop l hl l.length k 0 (by omega) hk
  simpa using this

theorem to_trt (C D : List Int) (k : Nat) (hc : C.length < k) (hd : D.length < k) (hc2 : C.length ≤ 1048576) (hd2 : D.length ≤ 1048576) : laws_toTrtTreaty.f k C D = some (C, D) := by
  unfold laws_toTrtTreaty.f
  rw [to_int C k hc hc2]; simp only [Option.bind_some, if_true, bne_self_eq_false, Bool.false_eq_true, if_false]
  rw [to_int D k hd hd2]; simp only [Option.bind_some, if_true, bne_self_eq_false, Bool.false_eq_true, if_false]

theorem eq_loop (l : List Int) (hl : l.length ≤ 1048576) (d : Nat) : ∀ (k i : Nat), i + d = l.length → d < k → laws_eqIntS.l0 k l l (i : Int) = some true := by
  induction d with
  | zero =>
    intro k i hi hk
    obtain ⟨k, rfl⟩ : ∃ m, k = m + 1 := ⟨k - 1, by omega⟩
    simp only [laws_eqIntS.l0]
    rw [if_neg (by omega)]
  | succ d ih =>
    intro k i hi hk
    obtain ⟨k, rfl⟩ : ∃ m, k = m + 1 := ⟨k - 1, by omega⟩
    simp only [laws_eqIntS.l0, if_true]
    rw [if_pos (by omega), if_pos (by omega), if_pos (by omega), wrap_id (by omega) (by omega), show (i : Int) + 1 = ((i + 1 : Nat) : Int) from by omega]
    exact ih k (i + 1) (by omega) (by omega)
theorem eq_int (l : List Int) (k : Nat) (hk : l.length < k) (hl : l.length ≤ 1048576) : laws_eqIntS.f k l l = some true := by
  unfold laws_eqIntS.f
  rw [if_pos rfl]
  exact eq_loop l hl l.length k 0 (by omega) hk

theorem eq_trt (C D : List Int) (k : Nat) (hc : C.length < k) (hd : D.length < k) (hc2 : C.length ≤ 1048576) (hd2 : D.length ≤ 1048576) : laws_eqTrtTreaty.f k C D C D = some true := by
  unfold laws_eqTrtTreaty.f
  rw [eq_int C k hc hc2]; simp only [Option.bind_some, if_true, bne_self_eq_false, Bool.false_eq_true, if_false]
  rw [eq_int D k hd hd2]; simp only [Option.bind_some, if_true, bne_self_eq_false, Bool.false_eq_true, if_false]

theorem l1In_eq (n lo hi : Int) : spec_l1In.f n lo hi = some (ibB n lo hi) := by
  unfold spec_l1In.f ibB
  by_cases h : n ≥ lo
  · rw [if_pos h]; simp [h]
  · rw [if_neg h]; simp [h]

theorem in_eq (n lo hi : Int) : impl_in.f n lo hi = some (ibB n lo hi) := by
  unfold impl_in.f ibB
  by_cases h : n ≥ lo
  · rw [if_pos h]; simp [h]
  · rw [if_neg h]; simp [h]

theorem within_eq (l : List Int) (n m : Int) : impl_within.f l n m = some (okB l n m) := by
  unfold impl_within.f okB
  rw [List.all_eq_not_any_not]
  rfl

theorem all_loop (l : List Int) (m : Int) (hl : l.length ≤ 1048576) (d : Nat) : ∀ (k i : Nat), i + d = l.length → d < k → spec_l1All.l0 k l m (i : Int) = some ((l.drop i).all fun x => ibB x (wrap64 (-m)) m) := by
  induction d with
  | zero =>
    intro k i hi hk
    obtain ⟨k, rfl⟩ : ∃ m, k = m + 1 := ⟨k - 1, by omega⟩
    simp only [spec_l1All.l0]
    rw [if_neg (by omega), List.drop_of_length_le (by omega)]
    rfl
  | succ d ih =>
    intro k i hi hk
    obtain ⟨k, rfl⟩ : ∃ m, k = m + 1 := ⟨k - 1, by omega⟩
    have hlt : i < l.length := by omega
    simp only [spec_l1All.l0]
    rw [if_pos (by omega), if_pos (by omega), l1In_eq, getD_at l i hlt, List.drop_eq_getElem_cons hlt, List.all_cons]
    simp only [Option.bind_some, if_true, bne_self_eq_false, Bool.false_eq_true, if_false]
    cases ibB l[i] (wrap64 (-m)) m with
    | false => rfl
    | true =>
      rw [if_pos rfl, wrap_id (by omega) (by omega), show (i : Int) + 1 = ((i + 1 : Nat) : Int) from by omega, ih k (i + 1) (by omega) (by omega)]
      rfl
theorem l1All_eq (l : List Int) (n m : Int) (k : Nat) (hk : l.length < k) (hl : l.length ≤ 1048576) : spec_l1All.f k l n m = some (okB l n m) := by
  unfold spec_l1All.f okB
  by_cases h : (l.length : Int) = n
  · rw [if_pos h, decide_eq_true h, Bool.true_and]
    have := all_loop l m hl l.length k 0 (by omega) hk
    simpa using this
  · rw [if_neg h, decide_eq_false h, Bool.false_and]

theorem spec_Val_eq (l : List Int) (k : Nat) (hk : l.length < k) (hl : l.length ≤ 1048576) : spec_ValOk.f k l = some (okB l 3 10000) := by
  unfold spec_ValOk.f
  rw [l1All_eq l _ _ k hk hl]; rfl

theorem impl_Val_eq (l : List Int) : impl_ValOk.f l = some (okB l 3 10000) := by
  unfold impl_ValOk.f
  rw [within_eq]; rfl

def frmB (C D : List Int) (K : Int) : Bool := okB C 3 10000000 && (okB D 2 10000000 && ibB K (-10000000) 10000000)

/-- The form that is one pot, or nothing. -/
def potF (v : Int) : List Int × List Int × Int := if v = 0 then ([1, 0, 0], [0, 0], 0) else if v = 1 then ([0, 1, 0], [0, 0], 0) else if v = 2 then ([0, 0, 1], [0, 0], 0) else ([], [], 0)
theorem potF_len (v : Int) : (potF v).1.length ≤ 3 ∧ (potF v).2.1.length ≤ 2 := by
  unfold potF; repeat' split
  all_goals simp

theorem len3 {l : List Int} (h : (l.length : Int) = 3) : ∃ a b c, l = [a, b, c] := by
  match l, h with
  | [a, b, c], _ => exact ⟨a, b, c, rfl⟩
  | [], h => simp at h
  | [_], h => simp at h
  | [_, _], h => simp at h
  | _ :: _ :: _ :: _ :: _, h => simp at h; omega
theorem len2 {l : List Int} (h : (l.length : Int) = 2) : ∃ a b, l = [a, b] := by
  match l, h with
  | [a, b], _ => exact ⟨a, b, rfl⟩
  | [], h => simp at h
  | [_], h => simp at h
  | _ :: _ :: _ :: _, h => simp at h; omega
theorem okB_len {l : List Int} {n m : Int} (h : okB l n m = true) : (l.length : Int) = n := (okB_iff.mp h).1
theorem frmB_len {C D : List Int} {K : Int} (h : frmB C D K = true) : (C.length : Int) = 3 ∧ (D.length : Int) = 2 := by
  unfold frmB at h
  simp only [Bool.and_eq_true] at h
  exact ⟨okB_len h.1, okB_len h.2.1⟩

theorem inB_ib (n lo hi : Int) : inB n lo hi = ibB n lo hi := rfl

theorem withinB_ok (l : List Int) (n m : Int) : withinB l n m = okB l n m := by
  unfold withinB okB
  rw [List.all_eq_not_any_not]
  rfl

theorem set_takeG {α : Type} (z : α) (l : List α) (i : Nat) (h : i < l.length) :
    (l.take i ++ List.replicate (l.length - i) z).set i l[i] = l.take (i + 1) ++ List.replicate (l.length - (i + 1)) z := by
  rw [List.set_append_right _ _ (by rw [List.length_take]; omega), List.length_take, Nat.min_eq_left (by omega), Nat.sub_self]
  obtain ⟨m, hm⟩ : ∃ m, l.length - i = m + 1 := ⟨l.length - i - 1, by omega⟩
  rw [hm, List.replicate_succ, List.set_cons_zero, show l.length - (i + 1) = m from by omega, List.take_succ_eq_append_getElem h, List.append_assoc]
  rfl
theorem getDG {α : Type} (z : α) (l : List α) (i : Nat) (h : i < l.length) : l.getD ((i : Int)).toNat z = l[i] := by
  rw [show ((i : Int)).toNat = i from by omega, List.getD_eq_getElem?_getD, List.getElem?_eq_getElem h]
  rfl

theorem szss_loop (l : List (List Int)) (hl : l.length ≤ 1048576) (hw : ∀ x ∈ l, x.length ≤ 9223372036854775807) (d : Nat) : ∀ (k i : Nat) (n : Int), i + d = l.length → d < k → 0 ≤ n → n ≤ 1048576 →
    ∃ t, laws_szIntSS.l0 k l n (i : Int) = some t ∧ (t < 0 ∨ (0 ≤ t ∧ t ≤ n ∧ ∀ x ∈ l.drop i, (x.length : Int) ≤ n)) := by
  induction d with
  | zero =>
    intro k i n hi hk h0 h1
    obtain ⟨k, rfl⟩ : ∃ m, k = m + 1 := ⟨k - 1, by omega⟩
    refine ⟨n, ?_, .inr ⟨h0, Int.le_refl _, ?_⟩⟩
    · simp only [laws_szIntSS.l0]; rw [if_neg (by omega)]
    · rw [List.drop_of_length_le (by omega)]; simp
  | succ d ih =>
    intro k i n hi hk h0 h1
    obtain ⟨k, rfl⟩ : ∃ m, k = m + 1 := ⟨k - 1, by omega⟩
    have hlt : i < l.length := by omega
    simp only [laws_szIntSS.l0]
    rw [if_pos (by omega), if_pos (by omega), show rd_L1 l (i : Int) = l[i] from getDG [] l i hlt]
    obtain ⟨t, e, h⟩ := sz_int l[i] n h0 h1 (hw _ (List.getElem_mem hlt))
    rw [e]; simp only [Option.bind_some]
    rcases h with h | ⟨ha, hb⟩
    · rw [if_pos h]; exact ⟨_, rfl, .inl (by decide)⟩
    · rw [if_neg (by omega), show wrap64 ((i : Int) + 1) = ((i + 1 : Nat) : Int) from by rw [wrap_id (by omega) (by omega)]; omega]
      obtain ⟨u, e2, h2⟩ := ih k (i + 1) t (by omega) (by omega) ha (by omega)
      refine ⟨u, e2, ?_⟩
      rcases h2 with h2 | ⟨p, q, r⟩
      · exact .inl h2
      · refine .inr ⟨p, by omega, fun x hx => ?_⟩
        rw [List.drop_eq_getElem_cons hlt] at hx
        rcases List.mem_cons.mp hx with rfl | hx
        · omega
        · have := r x hx; omega
theorem sz_ss (l : List (List Int)) (k : Nat) (hk : 1048577 < k) (hl : l.length ≤ 9223372036854775807) (hw : ∀ x ∈ l, x.length ≤ 9223372036854775807) :
    ∃ t, laws_szIntSS.f k l 1048576 = some t ∧ (t < 0 ∨ (0 ≤ t ∧ (l.length : Int) ≤ 1048576 ∧ ∀ x ∈ l, (x.length : Int) ≤ 1048576)) := by
  unfold laws_szIntSS.f
  have e : wrap64 (1048576 - (l.length : Int)) = 1048576 - (l.length : Int) := wrap_id (by omega) (by omega)
  rw [e]
  by_cases h : (1048576 : Int) - (l.length : Int) < 0
  · rw [if_pos h]; exact ⟨_, rfl, .inl (by decide)⟩
  · rw [if_neg h]
    obtain ⟨u, e2, h2⟩ := szss_loop l (by omega) hw l.length k 0 (1048576 - (l.length : Int)) (by omega) (by omega) (by omega) (by omega)
    refine ⟨u, e2, ?_⟩
    rcases h2 with h2 | ⟨p, q, r⟩
    · exact .inl h2
    · exact .inr ⟨p, by omega, fun x hx => by have := r x (by simpa using hx); omega⟩

theorem toss_loop (l : List (List Int)) (hl : l.length ≤ 1048576) (hw : ∀ x ∈ l, (x.length : Int) ≤ 1048576) (d : Nat) : ∀ (k i : Nat), i + d = l.length → d + 1048577 < k →
    laws_toIntSS.l0 k l (l.take i ++ List.replicate (l.length - i) []) (i : Int) = some l := by
  induction d with
  | zero =>
    intro k i hi hk
    obtain ⟨k, rfl⟩ : ∃ m, k = m + 1 := ⟨k - 1, by omega⟩
    simp only [laws_toIntSS.l0]
    rw [if_neg (by omega), show i = l.length from by omega]
    simp
  | succ d ih =>
    intro k i hi hk
    obtain ⟨k, rfl⟩ : ∃ m, k = m + 1 := ⟨k - 1, by omega⟩
    have hlt : i < l.length := by omega
    simp only [laws_toIntSS.l0]
    have hlen : (l.take i ++ List.replicate (l.length - i) ([] : List Int)).length = l.length := by simp; omega
    have hx := hw _ (List.getElem_mem hlt)
    rw [if_pos (by omega), if_pos (by omega), show rd_L1 l (i : Int) = l[i] from getDG [] l i hlt, to_int l[i] k (by omega) (by omega)]
    simp only [Option.bind_some]
    rw [if_pos (by rw [hlen]; omega), show ((i : Int)).toNat = i from by omega, set_takeG [] l i hlt, show wrap64 ((i : Int) + 1) = ((i + 1 : Nat) : Int) from by rw [wrap_id (by omega) (by omega)]; omega]
    exact ih k (i + 1) (by omega) (by omega)
theorem to_ss (l : List (List Int)) (k : Nat) (hk : 2097154 < k) (hl : (l.length : Int) ≤ 1048576) (hw : ∀ x ∈ l, (x.length : Int) ≤ 1048576) : laws_toIntSS.f k l = some l := by
  unfold laws_toIntSS.f
  rw [if_pos (by omega), if_pos (by omega), show ((l.length : Int)).toNat = l.length from by omega]
  have := toss_loop l (by omega) hw l.length k 0 (by omega) (by omega)
  simpa using this

theorem eqss_loop (l : List (List Int)) (hl : l.length ≤ 1048576) (hw : ∀ x ∈ l, (x.length : Int) ≤ 1048576) (d : Nat) : ∀ (k i : Nat), i + d = l.length → d + 1048577 < k → laws_eqIntSS.l0 k l l (i : Int) = some true := by
  induction d with
  | zero =>
    intro k i hi hk
    obtain ⟨k, rfl⟩ : ∃ m, k = m + 1 := ⟨k - 1, by omega⟩
    simp only [laws_eqIntSS.l0]
    rw [if_neg (by omega)]
  | succ d ih =>
    intro k i hi hk
    obtain ⟨k, rfl⟩ : ∃ m, k = m + 1 := ⟨k - 1, by omega⟩
    have hlt : i < l.length := by omega
    have hx := hw _ (List.getElem_mem hlt)
    simp only [laws_eqIntSS.l0]
    rw [if_pos (by omega), if_pos (by omega), if_pos (by omega), show rd_L1 l (i : Int) = l[i] from getDG [] l i hlt, eq_int l[i] k (by omega) (by omega)]
    simp only [Option.bind_some, if_true, bne_self_eq_false, Bool.false_eq_true, if_false]
    rw [show wrap64 ((i : Int) + 1) = ((i + 1 : Nat) : Int) from by rw [wrap_id (by omega) (by omega)]; omega]
    exact ih k (i + 1) (by omega) (by omega)
theorem eq_ss (l : List (List Int)) (k : Nat) (hk : 2097154 < k) (hl : (l.length : Int) ≤ 1048576) (hw : ∀ x ∈ l, (x.length : Int) ≤ 1048576) : laws_eqIntSS.f k l l = some true := by
  unfold laws_eqIntSS.f
  rw [if_pos rfl]
  exact eqss_loop l (by omega) hw l.length k 0 (by omega) (by omega)

def trtB (B G : List Int) : Bool := okB B 3 10000 && (ibB (G.length : Int) 1 3 && G.all fun x => ibB x 0 50)

theorem impl_TrtOk_eq (B G : List Int) : impl_TrtOk.f B G = some (trtB B G) := by
  unfold impl_TrtOk.f trtB
  rw [withinB_ok, List.all_eq_not_any_not]
  rfl

theorem trtok_loop (B l : List Int) (hl : l.length ≤ 1048576) (d : Nat) : ∀ (k i : Nat), i + d = l.length → d < k → spec_TrtOk.l0 k (i : Int) B l = some ((l.drop i).all fun x => ibB x 0 50) := by
  induction d with
  | zero =>
    intro k i hi hk
    obtain ⟨k, rfl⟩ : ∃ m, k = m + 1 := ⟨k - 1, by omega⟩
    simp only [spec_TrtOk.l0]
    rw [if_neg (by omega), List.drop_of_length_le (by omega)]
    rfl
  | succ d ih =>
    intro k i hi hk
    obtain ⟨k, rfl⟩ : ∃ m, k = m + 1 := ⟨k - 1, by omega⟩
    have hlt : i < l.length := by omega
    simp only [spec_TrtOk.l0]
    rw [if_pos (by omega), if_pos (by omega), l1In_eq, getD_at l i hlt, List.drop_eq_getElem_cons hlt, List.all_cons]
    simp only [Option.bind_some]
    cases ibB l[i] 0 50 with
    | false => rfl
    | true =>
      rw [if_pos rfl, show wrap64 ((i : Int) + 1) = ((i + 1 : Nat) : Int) from by rw [wrap_id (by omega) (by omega)]; omega, ih k (i + 1) (by omega) (by omega)]
      rfl
theorem spec_TrtOk_eq (B G : List Int) (k : Nat) (hB : B.length < k) (hG : G.length < k) (hB2 : B.length ≤ 1048576) (hG2 : G.length ≤ 1048576) : spec_TrtOk.f (k + 1) B G = some (trtB B G) := by
  unfold spec_TrtOk.f trtB
  rw [spec_Val_eq B (k + 1) (by omega) hB2, l1In_eq]; simp only [Option.bind_some]
  have hl := trtok_loop B G hG2 G.length k 0 (by omega) hG
  rw [List.drop_zero] at hl
  cases okB B 3 10000 with
  | false => rfl
  | true =>
    rw [if_pos rfl]
    cases ibB (G.length : Int) 1 3 with
    | false => rfl
    | true =>
      simp only [spec_TrtOk.j0]
      exact hl

/-- So many times a form, or nothing. -/
def timesF (C D : List Int) (K n : Int) : List Int × List Int × Int :=
  if frmB C D K && ibB n (-10000000) 10000000 then
    (let x := C.map fun c => wrap64 (wrap64 (n * c)); let y := D.map fun c => wrap64 (wrap64 (n * c)); let z := wrap64 (wrap64 (n * K))
     if frmB x y z then (x, y, z) else ([], [], 0))
  else ([], [], 0)
theorem timesF_len (C D : List Int) (K n : Int) : (timesF C D K n).1.length ≤ 3 ∧ (timesF C D K n).2.1.length ≤ 2 := by
  unfold timesF
  split
  · rename_i h
    simp only [Bool.and_eq_true] at h
    obtain ⟨h1, h2⟩ := frmB_len h.1
    simp only
    split
    · simp only [List.length_map]; omega
    · simp
  · simp

def partsB (P : List (List Int)) : Bool := P.all fun p => okB p 3 10000000
theorem partsB_len {P : List (List Int)} (h : partsB P = true) : ∀ p ∈ P, p.length = 3 := fun p hp => by
  have := okB_len (List.all_eq_true.mp h p hp)
  omega

theorem impl_Parts_eq (P : List (List Int)) : impl_partsOk.f P = some (partsB P) := by
  unfold impl_partsOk.f partsB
  rw [List.all_eq_not_any_not]
  simp only [withinB_ok]

theorem parts_loop (l : List (List Int)) (hl : l.length ≤ 1048576) (hw : ∀ x ∈ l, (x.length : Int) ≤ 1048576) (d : Nat) : ∀ (k i : Nat), i + d = l.length → d + 1048577 < k → spec_l5Parts.l0 k l (i : Int) = some (partsB (l.drop i)) := by
  induction d with
  | zero =>
    intro k i hi hk
    obtain ⟨k, rfl⟩ : ∃ m, k = m + 1 := ⟨k - 1, by omega⟩
    simp only [spec_l5Parts.l0]
    rw [if_neg (by omega), List.drop_of_length_le (by omega)]
    rfl
  | succ d ih =>
    intro k i hi hk
    obtain ⟨k, rfl⟩ : ∃ m, k = m + 1 := ⟨k - 1, by omega⟩
    have hlt : i < l.length := by omega
    have hx := hw _ (List.getElem_mem hlt)
    simp only [spec_l5Parts.l0]
    rw [if_pos (by omega), if_pos (by omega), show rd_L1 l (i : Int) = l[i] from getDG [] l i hlt, l1All_eq l[i] _ _ k (by omega) (by omega), List.drop_eq_getElem_cons hlt]
    simp only [Option.bind_some, partsB, List.all_cons]
    cases okB l[i] 3 10000000 with
    | false => rfl
    | true =>
      rw [if_pos rfl, show wrap64 ((i : Int) + 1) = ((i + 1 : Nat) : Int) from by rw [wrap_id (by omega) (by omega)]; omega, ih k (i + 1) (by omega) (by omega), Bool.true_and]
      rfl
theorem spec_Parts_eq (l : List (List Int)) (k : Nat) (hk : 2097154 < k) (hl : (l.length : Int) ≤ 1048576) (hw : ∀ x ∈ l, (x.length : Int) ≤ 1048576) : spec_l5Parts.f k l = some (partsB l) := by
  unfold spec_l5Parts.f
  have := parts_loop l (by omega) hw l.length k 0 (by omega) (by omega)
  simpa using this

def preB (B G : List Int) (P : List (List Int)) (s : Int) (A : List Int) : Bool := trtB B G && (partsB P && (ibB s 0 (wrap64 ((G.length : Int) - 1)) && okB A 3 20000))
def keepsB (B G : List Int) (P : List (List Int)) (s : Int) (A : List Int) : Bool := preB B G P s A && P.all fun p => ibB (dot3 p A) (wrap64 (-(rd G s))) (rd G s)
theorem preB_facts {B G : List Int} {P : List (List Int)} {s : Int} {A : List Int} (hG : G.length ≤ 1048576) (h : preB B G P s A = true) : (∀ p ∈ P, p.length = 3) ∧ 0 ≤ s ∧ s < (G.length : Int) ∧ A.length = 3 := by
  unfold preB at h
  simp only [Bool.and_eq_true] at h
  obtain ⟨_, h2, h3, h4⟩ := h
  obtain ⟨h5, h6⟩ := ibB_iff.mp h3
  have h7 := okB_len h4
  rw [wrap_id (by omega) (by omega)] at h6
  exact ⟨partsB_len h2, h5, by omega, by omega⟩

theorem impl_added_eq (l : List Int) : impl_addedOk.f l = some (okB l 3 20000) := by
  unfold impl_addedOk.f
  rw [within_eq]; rfl
theorem impl_ok_eq (B G : List Int) (P : List (List Int)) (s : Int) (A : List Int) : impl_TrtTreaty_ok.f B G P s A = some (preB B G P s A) := by
  unfold impl_TrtTreaty_ok.f preB
  rw [impl_TrtOk_eq]; simp only [Option.bind_some]
  cases trtB B G with
  | false => rfl
  | true =>
    rw [if_pos rfl, impl_Parts_eq]; simp only [Option.bind_some]
    cases partsB P with
    | false => rfl
    | true =>
      rw [if_pos rfl, in_eq]; simp only [Option.bind_some]
      cases ibB s 0 (wrap64 ((G.length : Int) - 1)) with
      | false => rfl
      | true => rw [if_pos rfl, impl_added_eq]; rfl
theorem impl_Keeps_eq (B G : List Int) (P : List (List Int)) (s : Int) (A : List Int) (hG : G.length ≤ 1048576) : impl_TrtKeeps.f B G P s A = some (keepsB B G P s A) := by
  unfold impl_TrtKeeps.f keepsB
  rw [impl_ok_eq]; simp only [Option.bind_some]
  cases h : preB B G P s A with
  | false => rfl
  | true =>
    obtain ⟨h1, h2, h3, h4⟩ := preB_facts hG h
    rw [if_pos rfl, if_pos ⟨h4, h1, h2, h3⟩, List.all_eq_not_any_not]
    rfl

theorem l5Times_eq (p a : List Int) (hp : p.length = 3) (ha : a.length = 3) (k : Nat) (hk : 4 ≤ k) : spec_l5Times.f k p a = some (dot3 p a) := by
  obtain ⟨k, rfl⟩ : ∃ m, k = m + 4 := ⟨k - 4, by omega⟩
  have w1 : wrap64 (0 + 1) = 1 := by unfold wrap64; omega
  have w2 : wrap64 (1 + 1) = 2 := by unfold wrap64; omega
  have w3 : wrap64 (2 + 1) = 3 := by unfold wrap64; omega
  have q0 : (0 : Int) < 3 := by decide
  have q1 : (1 : Int) < 3 := by decide
  have q2 : (2 : Int) < 3 := by decide
  have q3 : ¬ ((3 : Int) < 3) := by decide
  have z1 : (0 : Int) ≤ 1 := by decide
  have z2 : (0 : Int) ≤ 2 := by decide
  unfold spec_l5Times.f dot3
  simp only [spec_l5Times.l0, hp, ha, w1, w2, w3, show ((3 : Nat) : Int) = 3 from rfl, q0, q1, q2, q3, z1, z2, Int.le_refl, if_true, if_false]
theorem keeps_loop (B G : List Int) (l : List (List Int)) (s : Int) (A : List Int) (hl : l.length ≤ 1048576) (hp : ∀ p ∈ l, p.length = 3) (hA : A.length = 3) (s0 : 0 ≤ s) (s1 : s < (G.length : Int)) (d : Nat) : ∀ (k i : Nat), i + d = l.length → d + 10 < k →
    spec_TrtKeeps.l0 k l s A (i : Int) B G = some ((l.drop i).all fun p => ibB (dot3 p A) (wrap64 (-(rd G s))) (rd G s)) := by
  induction d with
  | zero =>
    intro k i hi hk
    obtain ⟨k, rfl⟩ : ∃ m, k = m + 1 := ⟨k - 1, by omega⟩
    simp only [spec_TrtKeeps.l0]
    rw [if_neg (by omega), List.drop_of_length_le (by omega)]
    rfl
  | succ d ih =>
    intro k i hi hk
    obtain ⟨k, rfl⟩ : ∃ m, k = m + 1 := ⟨k - 1, by omega⟩
    have hlt : i < l.length := by omega
    have hx := hp _ (List.getElem_mem hlt)
    simp only [spec_TrtKeeps.l0]
    rw [if_pos (by omega), if_pos (by omega), show rd_L1 l (i : Int) = l[i] from getDG [] l i hlt, l5Times_eq l[i] A hx hA k (by omega), List.drop_eq_getElem_cons hlt, List.all_cons]
    simp only [Option.bind_some]
    rw [if_pos s0, if_pos s1, l1In_eq]
    simp only [Option.bind_some]
    cases ibB (dot3 l[i] A) (wrap64 (-(rd G s))) (rd G s) with
    | false => rfl
    | true =>
      rw [if_pos rfl, show wrap64 ((i : Int) + 1) = ((i + 1 : Nat) : Int) from by rw [wrap_id (by omega) (by omega)]; omega, ih k (i + 1) (by omega) (by omega)]
      rfl
theorem spec_Keeps_eq (B G : List Int) (P : List (List Int)) (s : Int) (A : List Int) (k : Nat) (hk : 4000000 < k) (hB : B.length ≤ 1048576) (hG : G.length ≤ 1048576) (hP : (P.length : Int) ≤ 1048576) (hw : ∀ x ∈ P, (x.length : Int) ≤ 1048576) (hA : A.length ≤ 1048576) :
    spec_TrtKeeps.f k B G P s A = some (keepsB B G P s A) := by
  obtain ⟨k, rfl⟩ : ∃ m, k = m + 1 := ⟨k - 1, by omega⟩
  have hj : ∀ b : List Int × List Int, spec_TrtKeeps.j0 (k + 1) P s A true B G = some false := fun _ => by simp [spec_TrtKeeps.j0]
  unfold spec_TrtKeeps.f keepsB
  rw [spec_TrtOk_eq B G k (by omega) (by omega) hB hG]; simp only [Option.bind_some]
  cases ht : trtB B G with
  | false => rw [if_neg (by decide), hj ([], [])]; simp [preB, ht]
  | true =>
    rw [if_pos rfl, spec_Parts_eq P _ (by omega) hP hw]; simp only [Option.bind_some]
    cases hp : partsB P with
    | false => rw [if_neg (by decide), hj ([], [])]; simp [preB, hp]
    | true =>
      rw [if_pos rfl, l1In_eq]; simp only [Option.bind_some]
      cases hs : ibB s 0 (wrap64 ((G.length : Int) - 1)) with
      | false => rw [if_neg (by decide), hj ([], [])]; simp [preB, hs]
      | true =>
        rw [if_pos rfl, l1All_eq A _ _ _ (by omega) hA]; simp only [Option.bind_some]
        cases ha : okB A 3 20000 with
        | false => rw [Bool.not_false, hj ([], [])]; simp [preB, ha]
        | true =>
          have hpre : preB B G P s A = true := by simp [preB, ht, hp, hs, ha]
          obtain ⟨h1, h2, h3, h4⟩ := preB_facts hG hpre
          simp only [spec_TrtKeeps.j0, Bool.not_true, Bool.false_eq_true, if_false, hpre, Bool.true_and]
          have := keeps_loop B G P s A (by omega) h1 h4 h2 h3 P.length k 0 (by omega) (by omega)
          simpa using this

theorem sz_ssn (l : List (List Int)) (k : Nat) (n : Int) (h0 : 0 ≤ n) (h1 : n ≤ 1048576) (hk : 1048577 < k) (hl : l.length ≤ 9223372036854775807) (hw : ∀ x ∈ l, x.length ≤ 9223372036854775807) :
    ∃ t, laws_szIntSS.f k l n = some t ∧ (t < 0 ∨ (0 ≤ t ∧ t ≤ n ∧ (l.length : Int) ≤ 1048576 ∧ ∀ x ∈ l, (x.length : Int) ≤ 1048576)) := by
  unfold laws_szIntSS.f
  have e : wrap64 (n - (l.length : Int)) = n - (l.length : Int) := wrap_id (by omega) (by omega)
  rw [e]
  by_cases h : n - (l.length : Int) < 0
  · rw [if_pos h]; exact ⟨_, rfl, .inl (by decide)⟩
  · rw [if_neg h]
    obtain ⟨u, e2, h2⟩ := szss_loop l (by omega) hw l.length k 0 (n - (l.length : Int)) (by omega) (by omega) (by omega) (by omega)
    refine ⟨u, e2, ?_⟩
    rcases h2 with h2 | ⟨p, q, r⟩
    · exact .inl h2
    · exact .inr ⟨p, by omega, by omega, fun x hx => by have := r x (by simpa using hx); omega⟩

theorem all_loopK (B G : List Int) (P l : List (List Int)) (hB : B.length ≤ 1048576) (hG : G.length ≤ 1048576) (hP : (P.length : Int) ≤ 1048576) (hw : ∀ x ∈ P, (x.length : Int) ≤ 1048576) (hl : l.length ≤ 1048576) (hv : ∀ x ∈ l, (x.length : Int) ≤ 1048576) (d : Nat) : ∀ (k i : Nat), i + d = l.length → d + 4000001 < k →
    ∃ b, spec_TrtAll.l0 k P l (i : Int) B G = some b ∧ impl_TrtAll.l0 k P l (l.length : Int) (i : Int) B G = some b := by
  induction d with
  | zero =>
    intro k i hi hk
    obtain ⟨k, rfl⟩ : ∃ m, k = m + 1 := ⟨k - 1, by omega⟩
    refine ⟨true, ?_, ?_⟩
    · simp only [spec_TrtAll.l0]; rw [if_neg (by omega)]
    · simp only [impl_TrtAll.l0]; rw [if_neg (by omega)]
  | succ d ih =>
    intro k i hi hk
    obtain ⟨k, rfl⟩ : ∃ m, k = m + 1 := ⟨k - 1, by omega⟩
    have hlt : i < l.length := by omega
    have hx := hv _ (List.getElem_mem hlt)
    have p1 : (i : Int) < (l.length : Int) := by omega
    have p2 : (0 : Int) ≤ (i : Int) := by omega
    have p3 : wrap64 ((i : Int) + 1) = ((i + 1 : Nat) : Int) := by rw [wrap_id (by omega) (by omega)]; omega
    have p4 : rd_L1 l (i : Int) = l[i] := getDG [] l i hlt
    simp only [spec_TrtAll.l0, impl_TrtAll.l0, p1, p2, p3, p4, if_true]
    rw [spec_Keeps_eq B G P (i : Int) l[i] k (by omega) hB hG hP hw (by omega), impl_Keeps_eq B G P (i : Int) l[i] hG]
    simp only [Option.bind_some]
    cases keepsB B G P (i : Int) l[i] with
    | false => exact ⟨false, rfl, rfl⟩
    | true => simp only [if_true]; exact ih k (i + 1) (by omega) (by omega)
theorem allK_eq (B G : List Int) (P l : List (List Int)) (k : Nat) (hk : 6000000 < k) (hB : B.length ≤ 1048576) (hG : G.length ≤ 1048576) (hP : (P.length : Int) ≤ 1048576) (hw : ∀ x ∈ P, (x.length : Int) ≤ 1048576) (hl : (l.length : Int) ≤ 1048576) (hv : ∀ x ∈ l, (x.length : Int) ≤ 1048576) :
    ∃ b, spec_TrtAll.f k B G P l = some b ∧ impl_TrtAll.f k B G P l = some b := by
  obtain ⟨k, rfl⟩ : ∃ m, k = m + 1 := ⟨k - 1, by omega⟩
  unfold spec_TrtAll.f impl_TrtAll.f
  rw [spec_TrtOk_eq B G k (by omega) (by omega) hB hG, impl_TrtOk_eq]; simp only [Option.bind_some]
  cases trtB B G with
  | false => exact ⟨false, by simp [spec_TrtAll.j0], by simp [impl_TrtAll.j0]⟩
  | true =>
    rw [if_pos rfl, if_pos rfl]
    simp only [spec_TrtAll.j0, impl_TrtAll.j0]
    cases ((l.length : Int) != (G.length : Int)) with
    | true => exact ⟨false, rfl, rfl⟩
    | false => exact all_loopK B G P l hB hG hP hw (by omega) hv l.length k 0 (by omega) (by omega)

theorem FnExactTrtAll : laws_FnExactTrtAll.Pure := by
  intro B G P l hB hG hP hl
  obtain ⟨k, hk⟩ : ∃ k : Nat, 6000000 < k := ⟨6000001, by omega⟩
  refine ⟨k, ?_⟩
  unfold laws_FnExactTrtAll.f
  obtain ⟨t, e, h⟩ := sz_trt B G 1048576 (by omega) (by omega) hB.1 hG.1
  rw [e]; simp only [Option.bind_some, if_true, bne_self_eq_false, Bool.false_eq_true, if_false]
  rcases h with h | ⟨h1, h2⟩
  · rw [if_pos h]
  rw [if_neg (by omega)]
  obtain ⟨u, e2, g⟩ := sz_ssn P k t (by omega) (by omega) (by omega) hP.1 (fun x hx => (hP.2 x hx).1)
  rw [e2]; simp only [Option.bind_some, if_true, bne_self_eq_false, Bool.false_eq_true, if_false]
  rcases g with g | ⟨g1, g2, g3, g4⟩
  · rw [if_pos g]
  rw [if_neg (by omega)]
  obtain ⟨v, e3, f⟩ := sz_ssn l k u (by omega) (by omega) (by omega) hl.1 (fun x hx => (hl.2 x hx).1)
  rw [e3]; simp only [Option.bind_some, if_true, bne_self_eq_false, Bool.false_eq_true, if_false]
  rcases f with f | ⟨f1, f2, f3, f4⟩
  · rw [if_pos f]
  obtain ⟨b, hs, hi⟩ := allK_eq B G P l k (by omega) (by omega) (by omega) g3 g4 f3 f4
  rw [if_neg (by omega), to_trt B G k (by omega) (by omega) (by omega) (by omega)]; simp only [Option.bind_some, if_true, bne_self_eq_false, Bool.false_eq_true, if_false]
  rw [to_ss P k (by omega) g3 g4]; simp only [Option.bind_some, if_true, bne_self_eq_false, Bool.false_eq_true, if_false]
  rw [to_ss l k (by omega) f3 f4]; simp only [Option.bind_some, if_true, bne_self_eq_false, Bool.false_eq_true, if_false]
  rw [hs]; simp only [Option.bind_some, if_true, bne_self_eq_false, Bool.false_eq_true, if_false]
  rw [hi]; simp only [Option.bind_some, if_true, bne_self_eq_false, Bool.false_eq_true, if_false]
  rw [eq_trt B G k (by omega) (by omega) (by omega) (by omega)]; simp only [Option.bind_some, if_true, bne_self_eq_false, Bool.false_eq_true, if_false]
  rw [eq_ss P k (by omega) g3 g4]; simp only [Option.bind_some, if_true, bne_self_eq_false, Bool.false_eq_true, if_false]
  rw [eq_ss l k (by omega) f3 f4]; simp only [Option.bind_some, if_true, bne_self_eq_false, Bool.false_eq_true, if_false]

end Go.Proofs.Ytkklkpoelkangaa.Pure
