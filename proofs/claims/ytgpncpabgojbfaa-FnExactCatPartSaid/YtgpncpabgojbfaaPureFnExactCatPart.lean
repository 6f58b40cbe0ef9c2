/- The plain law FnExactCatPart: what the printed functions compute answers as the statement says. -/
import Derived.Test.YtgpncpabgojbfaaQFnExactCatPartx3
import Derived.OpenShut
set_option linter.unusedVariables false
set_option linter.unusedSimpArgs false
namespace Go.Proofs.Ytgpncpabgojbfaa.Pure
open Go.RowKit Go.Proofs.Ytgpncpabgojbfaa.QFnExactCatPart Go.Proofs.YtgpncpabgojbfaaW.PrintWords Go.Proofs.YtgpncpabgojbfaaW.PrintLast Go.Proofs.Ytgpncpabgojbfaa.HWords

theorem bd64 {x : Int} (h : (Lit.int .i64 x).wf = true) : -9223372036854775808 ≤ x ∧ x ≤ 9223372036854775807 := bounds_i64 h
theorem wrap_id {x : Int} (h0 : -9223372036854775808 ≤ x) (h1 : x ≤ 9223372036854775807) : wrap64 x = x := by unfold wrap64; omega
theorem wrap_l (x y : Int) : wrap64 (wrap64 x + y) = wrap64 (x + y) := by unfold wrap64; omega
theorem wrap_r (x y : Int) : wrap64 (x + wrap64 y) = wrap64 (x + y) := by unfold wrap64; omega
theorem wrap_ll (x y z : Int) : wrap64 (wrap64 x + y + z) = wrap64 (x + y + z) := by unfold wrap64; omega
theorem wrap_lr (x y z : Int) : wrap64 (x + wrap64 y + z) = wrap64 (x + y + z) := by unfold wrap64; omega
theorem getD_at (l : List Int) (i : Nat) (h : i < l.length) : rd l (i : Int) = l[i] := by
  unfold rd
  rw [show ((i : Int)).toNat = i from by omega, List.getD_eq_getElem?_getD, List.getElem?_eq_getElem h]
  rfl
/-- The plain 'within bounds'. -/
def ibB (n lo hi : Int) : Bool := decide (lo ≤ n) && decide (n ≤ hi)
/-- As many as must be, each within a bound. -/
def okB (l : List Int) (n m : Int) : Bool := decide ((l.length : Int) = n) && l.all (fun x => ibB x (wrap64 (-m)) m)
theorem ibB_iff {n lo hi : Int} : ibB n lo hi = true ↔ lo ≤ n ∧ n ≤ hi := by unfold ibB; simp
theorem okB_iff {l : List Int} {n m : Int} : okB l n m = true ↔ (l.length : Int) = n ∧ ∀ x ∈ l, wrap64 (-m) ≤ x ∧ x ≤ m := by
  unfold okB ibB; simp

theorem sz_int (l : List Int) (n : Int) (h0 : 0 ≤ n) (h1 : n ≤ 1048576) (hl : l.length ≤ 9223372036854775807) :
    ∃ t, laws_szIntS.f l n = some t ∧ (t < 0 ∨ (0 ≤ t ∧ t + l.length = n)) := by
  unfold laws_szIntS.f
  have e : wrap64 (n - (l.length : Int)) = n - (l.length : Int) := wrap_id (by omega) (by omega)
  rw [e]
  by_cases h : n - (l.length : Int) < 0
  · rw [if_pos h]; exact ⟨_, rfl, .inl (by decide)⟩
  · rw [if_neg h]; exact ⟨_, rfl, .inr ⟨by omega, by omega⟩⟩

theorem sz_frm (C D : List Int) (K : Int) (n : Int) (h0 : 0 ≤ n) (h1 : n ≤ 1048576) (hc : C.length ≤ 9223372036854775807) (hd : D.length ≤ 9223372036854775807) :
    ∃ t, laws_szFrmForm.f C D K n = some t ∧ (t < 0 ∨ (0 ≤ t ∧ t + C.length + D.length = n)) := by
  unfold laws_szFrmForm.f
  obtain ⟨t, e, h⟩ := sz_int C n h0 h1 hc
  rw [e]; simp only [Option.bind_some, if_true, bne_self_eq_false, Bool.false_eq_true, if_false]
  rcases h with h | ⟨ha, hb⟩
  · rw [if_pos h]; exact ⟨_, rfl, .inl (by decide)⟩
  · rw [if_neg (by omega)]
    obtain ⟨u, e2, h2⟩ := sz_int D t ha (by omega) hd
    rw [e2]; simp only [Option.bind_some, if_true, bne_self_eq_false, Bool.false_eq_true, if_false]
    rcases h2 with h2 | ⟨hc2, hd2⟩
    · rw [if_pos h2]; exact ⟨_, rfl, .inl (by decide)⟩
    · rw [if_neg (by omega)]; exact ⟨_, rfl, .inr ⟨by omega, by omega⟩⟩

theorem set_take (l : List Int) (i : Nat) (h : i < l.length) :
    (l.take i ++ List.replicate (l.length - i) (0 : Int)).set i l[i] = l.take (i + 1) ++ List.replicate (l.length - (i + 1)) 0 := by
  rw [List.set_append_right _ _ (by rw [List.length_take]; omega), List.length_take, Nat.min_eq_left (by omega), Nat.sub_self]
  obtain ⟨m, hm⟩ : ∃ m, l.length - i = m + 1 := ⟨l.length - i - 1, by omega⟩
  rw [hm, List.replicate_succ, List.set_cons_zero, show l.length - (i + 1) = m from by omega, List.take_succ_eq_append_getElem h, List.append_assoc]
  rfl
theorem to_loop (l : List Int) (hl : l.length ≤ 1048576) (d : Nat) : ∀ (k i : Nat), i + d = l.length → d < k →
    laws_toIntS.l0 k l (l.take i ++ List.replicate (l.length - i) 0) (i : Int) = some l := by
  induction d with
  | zero =>
    intro k i hi hk
    obtain ⟨k, rfl⟩ : ∃ m, k = m + 1 := ⟨k - 1, by omega⟩
    simp only [laws_toIntS.l0]
    rw [if_neg (by omega), show i = l.length from by omega]
    simp
  | succ d ih =>
    intro k i hi hk
    obtain ⟨k, rfl⟩ : ∃ m, k = m + 1 := ⟨k - 1, by omega⟩
    have hlt : i < l.length := by omega
    simp only [laws_toIntS.l0]
    have hlen : (l.take i ++ List.replicate (l.length - i) (0 : Int)).length = l.length := by simp; omega
    rw [if_pos (by omega), if_pos (by omega), if_pos (by rw [hlen]; omega), getD_at l i hlt, show ((i : Int)).toNat = i from by omega, set_take l i hlt,
      wrap_id (by omega) (by omega), show (i : Int) + 1 = ((i + 1 : Nat) : Int) from by omega]
    exact ih k (i + 1) (by omega) (by omega)
theorem to_int (l : List Int) (k : Nat) (hk : l.length < k) (hl : l.length ≤ 1048576) : laws_toIntS.f k l = some l := by
  unfold laws_toIntS.f
  rw [if_pos (by omega), if_pos (by omega), show ((l.length : Int)).toNat = l.length from by omega]
  have := to_loop l hl l.length k 0 (by omega) hk
  simpa using this

theorem to_frm (C D : List Int) (K : Int) (k : Nat) (hc : C.length < k) (hd : D.length < k) (hc2 : C.length ≤ 1048576) (hd2 : D.length ≤ 1048576) : laws_toFrmForm.f k C D K = some (C, D, K) := by
  unfold laws_toFrmForm.f
  rw [to_int C k hc hc2]; simp only [Option.bind_some, if_true, bne_self_eq_false, Bool.false_eq_true, if_false]
  rw [to_int D k hd hd2]; simp only [Option.bind_some, if_true, bne_self_eq_false, Bool.false_eq_true, if_false]

theorem eq_loop (l : List Int) (hl : l.length ≤ 1048576) (d : Nat) : ∀ (k i : Nat), i + d = l.length → d < k → laws_eqIntS.l0 k l l (i : Int) = some true := by
  induction d with
  | zero =>
    intro k i hi hk
    obtain ⟨k, rfl⟩ : ∃ m, k = m + 1 := ⟨k - 1, by omega⟩
    simp only [laws_eqIntS.l0]
    rw [if_neg (by omega)]
  | succ d ih =>
    intro k i hi hk
    obtain ⟨k, rfl⟩ : ∃ m, k = m + 1 := ⟨k - 1, by omega⟩
    simp only [laws_eqIntS.l0, if_true]
    rw [if_pos (by omega), if_pos (by omega), if_pos (by omega), wrap_id (by omega) (by omega), show (i : Int) + 1 = ((i + 1 : Nat) : Int) from by omega]
    exact ih k (i + 1) (by omega) (by omega)
theorem eq_int (l : List Int) (k : Nat) (hk : l.length < k) (hl : l.length ≤ 1048576) : laws_eqIntS.f k l l = some true := by
  unfold laws_eqIntS.f
  rw [if_pos rfl]
  exact eq_loop l hl l.length k 0 (by omega) hk

theorem eq_frm (C D : List Int) (K : Int) (k : Nat) (hc : C.length < k) (hd : D.length < k) (hc2 : C.length ≤ 1048576) (hd2 : D.length ≤ 1048576) : laws_eqFrmForm.f k C D K C D K = some true := by
  unfold laws_eqFrmForm.f
  rw [eq_int C k hc hc2]; simp only [Option.bind_some, if_true, bne_self_eq_false, Bool.false_eq_true, if_false]
  rw [eq_int D k hd hd2]; simp only [Option.bind_some, if_true, bne_self_eq_false, Bool.false_eq_true, if_false]

/-- The numbers from m on, so many. -/
def seqI (m : Int) (n : Nat) : List Int := (List.range n).map fun (i : Nat) => m + (i : Int)
theorem seqI_length (m : Int) (n : Nat) : (seqI m n).length = n := by simp [seqI]
theorem seqI_at (m : Int) (n i : Nat) (h : i < n) : rd (seqI m n) (i : Int) = m + i := by
  rw [getD_at _ _ (by rw [seqI_length]; exact h)]
  simp [seqI]
theorem seqI_set (l : List Int) (m : Int) (i : Nat) (h : i < l.length) : (seqI m i ++ l.drop i).set i (m + i) = seqI m (i + 1) ++ l.drop (i + 1) := by
  rw [List.set_append_right _ _ (by rw [seqI_length]; omega), seqI_length, Nat.sub_self, List.drop_eq_getElem_cons h, List.set_cons_zero]
  unfold seqI
  rw [List.range_succ]
  simp
theorem mark_loop (l : List Int) (m : Int) (hl : l.length ≤ 1048576) (h0 : 0 ≤ m) (h1 : m ≤ 1099511627776) (d : Nat) : ∀ (k i : Nat), i + d = l.length → d < k →
    laws_markIntS.l0 k (seqI m i ++ l.drop i) (m + i) (i : Int) = some (m + l.length, seqI m l.length) := by
  induction d with
  | zero =>
    intro k i hi hk
    obtain ⟨k, rfl⟩ : ∃ m, k = m + 1 := ⟨k - 1, by omega⟩
    have hi' : i = l.length := by omega
    subst hi'
    simp only [laws_markIntS.l0]
    rw [if_neg (by simp [seqI_length])]
    simp
  | succ d ih =>
    intro k i hi hk
    obtain ⟨k, rfl⟩ : ∃ m, k = m + 1 := ⟨k - 1, by omega⟩
    have hlt : i < l.length := by omega
    simp only [laws_markIntS.l0]
    rw [if_pos (by simp [seqI_length]; omega), if_pos (by omega), show ((i : Int)).toNat = i from by omega, seqI_set l m i hlt, wrap_id (by omega) (by omega), wrap_id (by omega) (by omega),
      show m + (i : Int) + 1 = m + ((i + 1 : Nat) : Int) from by omega, show (i : Int) + 1 = ((i + 1 : Nat) : Int) from by omega]
    exact ih k (i + 1) (by omega) (by omega)
theorem mark_int (l : List Int) (m : Int) (k : Nat) (hk : l.length < k) (hl : l.length ≤ 1048576) (h0 : 0 ≤ m) (h1 : m ≤ 1099511627776) : laws_markIntS.f k l m = some (m + l.length, seqI m l.length) := by
  unfold laws_markIntS.f
  have := mark_loop l m hl h0 h1 l.length k 0 (by omega) hk
  simpa [seqI] using this
theorem held_loop (n : Nat) (m : Int) (hl : n ≤ 1048576) (h0 : 0 ≤ m) (h1 : m ≤ 1099511627776) (d : Nat) : ∀ (k i : Nat), i + d = n → d < k →
    laws_heldIntS.l0 k (seqI m n) (m + i) (i : Int) = some (m + n) := by
  induction d with
  | zero =>
    intro k i hi hk
    obtain ⟨k, rfl⟩ : ∃ m, k = m + 1 := ⟨k - 1, by omega⟩
    have hi' : i = n := by omega
    subst hi'
    simp only [laws_heldIntS.l0]
    rw [if_neg (by simp [seqI_length])]
  | succ d ih =>
    intro k i hi hk
    obtain ⟨k, rfl⟩ : ∃ m, k = m + 1 := ⟨k - 1, by omega⟩
    have hlt : i < n := by omega
    simp only [laws_heldIntS.l0]
    rw [if_pos (by simp [seqI_length]; omega), if_pos (by omega), if_pos (seqI_at m n i hlt), wrap_id (by omega) (by omega), wrap_id (by omega) (by omega),
      show m + (i : Int) + 1 = m + ((i + 1 : Nat) : Int) from by omega, show (i : Int) + 1 = ((i + 1 : Nat) : Int) from by omega]
    exact ih k (i + 1) (by omega) (by omega)
theorem held_int (n : Nat) (m : Int) (k : Nat) (hk : n < k) (hl : n ≤ 1048576) (h0 : 0 ≤ m) (h1 : m ≤ 1099511627776) : laws_heldIntS.f k (seqI m n) m = some (m + n) := by
  unfold laws_heldIntS.f
  have := held_loop n m hl h0 h1 n k 0 (by omega) hk
  simpa using this

theorem mark_frm (C D : List Int) (K m : Int) (k : Nat) (hc : C.length < k) (hd : D.length < k) (hc2 : C.length ≤ 1048576) (hd2 : D.length ≤ 1048576) (h0 : 0 ≤ m) (h1 : m ≤ 1048576) :
    laws_markFrmForm.f k C D K m = some (m + C.length + D.length, seqI m C.length, seqI (m + C.length) D.length) := by
  unfold laws_markFrmForm.f
  rw [mark_int C m k hc hc2 h0 (by omega)]; simp only [Option.bind_some, if_true, bne_self_eq_false, Bool.false_eq_true, if_false]
  rw [mark_int D _ k hd hd2 (by omega) (by omega)]; simp only [Option.bind_some, if_true, bne_self_eq_false, Bool.false_eq_true, if_false]

def frmB (C D : List Int) (K : Int) : Bool := okB C 3 10000000 && (okB D 2 10000000 && ibB K (-10000000) 10000000)

/-- The form that is one pot, or nothing. -/
def potF (v : Int) : List Int × List Int × Int := if v = 0 then ([1, 0, 0], [0, 0], 0) else if v = 1 then ([0, 1, 0], [0, 0], 0) else if v = 2 then ([0, 0, 1], [0, 0], 0) else ([], [], 0)
theorem potF_len (v : Int) : (potF v).1.length ≤ 3 ∧ (potF v).2.1.length ≤ 2 := by
  unfold potF; repeat' split
  all_goals simp

theorem len3 {l : List Int} (h : (l.length : Int) = 3) : ∃ a b c, l = [a, b, c] := by
  match l, h with
  | [a, b, c], _ => exact ⟨a, b, c, rfl⟩
  | [], h => simp at h
  | [_], h => simp at h
  | [_, _], h => simp at h
  | _ :: _ :: _ :: _ :: _, h => simp at h; omega
theorem len2 {l : List Int} (h : (l.length : Int) = 2) : ∃ a b, l = [a, b] := by
  match l, h with
  | [a, b], _ => exact ⟨a, b, rfl⟩
  | [], h => simp at h
  | [_], h => simp at h
  | _ :: _ :: _ :: _, h => simp at h; omega
theorem okB_len {l : List Int} {n m : Int} (h : okB l n m = true) : (l.length : Int) = n := (okB_iff.mp h).1
theorem frmB_len {C D : List Int} {K : Int} (h : frmB C D K = true) : (C.length : Int) = 3 ∧ (D.length : Int) = 2 := by
  unfold frmB at h
  simp only [Bool.and_eq_true] at h
  exact ⟨okB_len h.1, okB_len h.2.1⟩

theorem set_takeG {α : Type} (z : α) (l : List α) (i : Nat) (h : i < l.length) :
    (l.take i ++ List.replicate (l.length - i) z).set i l[i] = l.take (i + 1) ++ List.replicate (l.length - (i + 1)) z := by
  rw [List.set_append_right _ _ (by rw [List.length_take]; omega), List.length_take, Nat.min_eq_left (by omega), Nat.sub_self]
  obtain ⟨m, hm⟩ : ∃ m, l.length - i = m + 1 := ⟨l.length - i - 1, by omega⟩
  rw [hm, List.replicate_succ, List.set_cons_zero, show l.length - (i + 1) = m from by omega, List.take_succ_eq_append_getElem h, List.append_assoc]
  rfl
theorem getDG {α : Type} (z : α) (l : List α) (i : Nat) (h : i < l.length) : l.getD ((i : Int)).toNat z = l[i] := by
  rw [show ((i : Int)).toNat = i from by omega, List.getD_eq_getElem?_getD, List.getElem?_eq_getElem h]
  rfl

def trtB (B G : List Int) : Bool := okB B 3 10000 && (ibB (G.length : Int) 1 3 && G.all fun x => ibB x 0 50)

/-- So many times a form, or nothing. -/
def timesF (C D : List Int) (K n : Int) : List Int × List Int × Int :=
  if frmB C D K && ibB n (-10000000) 10000000 then
    (let x := C.map fun c => wrap64 (wrap64 (n * c)); let y := D.map fun c => wrap64 (wrap64 (n * c)); let z := wrap64 (wrap64 (n * K))
     if frmB x y z then (x, y, z) else ([], [], 0))
  else ([], [], 0)
theorem timesF_len (C D : List Int) (K n : Int) : (timesF C D K n).1.length ≤ 3 ∧ (timesF C D K n).2.1.length ≤ 2 := by
  unfold timesF
  split
  · rename_i h
    simp only [Bool.and_eq_true] at h
    obtain ⟨h1, h2⟩ := frmB_len h.1
    simp only
    split
    · simp only [List.length_map]; omega
    · simp
  · simp

def partsB (P : List (List Int)) : Bool := P.all fun p => okB p 3 10000000
theorem partsB_len {P : List (List Int)} (h : partsB P = true) : ∀ p ∈ P, p.length = 3 := fun p hp => by
  have := okB_len (List.all_eq_true.mp h p hp)
  omega

def smallB (C D : List Int) (K : Int) : Bool := okB C 3 2 && (okB D 2 2 && ibB K (-20) 20)
def lineB (a b c : Int) (C D : List Int) (K : Int) : Bool :=
  if a = 1 then decide (b = 0) && (ibB c 1 6 && smallB C D K)
  else if a = 2 then ibB b 0 2 && (decide (c = 0) && smallB C D K)
  else if a = 3 then decide (b = 0) && (decide (c = 0) && smallB C D K)
  else if a = 4 then decide (b = 0) && (decide (c = 0) && (decide (C = []) && (decide (D = []) && decide (K = 0))))
  else false

theorem idx_hit0 (q : Int → Bool) (x : Int) (xs : List Int) (h : q x = true) : idxOf q (x :: xs) = 0 := by
  unfold idxOf; rw [List.findIdx?_cons, if_pos h]; rfl
theorem idx_miss0 (q : Int → Bool) (x : Int) (xs : List Int) (h : q x = false) : (idxOf q xs = -1 ∧ idxOf q (x :: xs) = -1) ∨ (0 ≤ idxOf q xs ∧ idxOf q (x :: xs) = idxOf q xs + 1) := by
  unfold idxOf; rw [List.findIdx?_cons, if_neg (by rw [h]; decide)]
  cases hf : xs.findIdx? q with
  | none => exact .inl ⟨rfl, rfl⟩
  | some i => refine .inr ⟨by simp, ?_⟩; simp
def ngL (C : List Int) : List Int := C.map fun x => wrap64 (-x)
def catI (C : List Int) : List Int := if 0 ≤ idxOf (fun x : Int => x != 0) C ∧ rd C (idxOf (fun x : Int => x != 0) C) < 0 then C.map (fun x => wrap64 (-x)) else C
theorem catI_length (C : List Int) : (catI C).length = C.length := by unfold catI; split <;> simp
def catSgn (s x : Int) : Int := if s = 0 then (if x > 0 then 1 else if x < 0 then -1 else 0) else s
def catL : Int → List Int → List Int
  | _, [] => []
  | s, x :: xs => wrap64 (catSgn s x * x) :: catL (catSgn s x) xs
theorem catL_one : ∀ (C : List Int), (∀ x ∈ C, (Lit.int .i64 x).wf = true) → catL 1 C = C
  | [], _ => rfl
  | x :: xs, h => by
    have := bd64 (h x (List.mem_cons_self ..))
    simp only [catL, catSgn, show ¬ ((1 : Int) = 0) from by decide, if_false]
    rw [catL_one xs (fun y hy => h y (List.mem_cons_of_mem _ hy)), Int.one_mul, wrap_id this.1 this.2]
theorem catL_neg : ∀ (C : List Int), catL (-1) C = C.map fun x => wrap64 (-x)
  | [] => rfl
  | x :: xs => by
    simp only [catL, catSgn, show ¬ ((-1 : Int) = 0) from by decide, if_false, List.map_cons]
    rw [catL_neg xs, show (-1 : Int) * x = -x from by omega]
theorem catL_zero : ∀ (C : List Int), (∀ x ∈ C, (Lit.int .i64 x).wf = true) → catL 0 C = catI C
  | [], _ => by simp [catL, catI]
  | x :: xs, h => by
    have hb := bd64 (h x (List.mem_cons_self ..))
    have ht : ∀ y ∈ xs, (Lit.int .i64 y).wf = true := fun y hy => h y (List.mem_cons_of_mem _ hy)
    simp only [catL, catSgn, if_true]
    by_cases h1 : x > 0
    · rw [if_pos h1, catL_one xs ht, Int.one_mul, wrap_id hb.1 hb.2]
      unfold catI
      rw [idx_hit0 _ x xs (by simp; omega), if_neg (by rintro ⟨_, h2⟩; have : rd (x :: xs) 0 = x := rfl; omega)]
    · rw [if_neg h1]
      by_cases h2 : x < 0
      · rw [if_pos h2, catL_neg xs, show (-1 : Int) * x = -x from by omega]
        unfold catI
        rw [idx_hit0 _ x xs (by simp; omega), if_pos ⟨by omega, by have : rd (x :: xs) 0 = x := rfl; omega⟩]
        rfl
      · have h0 : x = 0 := by omega
        subst h0
        rw [if_neg h2, catL_zero xs ht, Int.zero_mul, wrap_id (by decide) (by decide)]
        unfold catI
        rcases idx_miss0 (fun x : Int => x != 0) 0 xs (by decide) with ⟨e1, e2⟩ | ⟨e1, e2⟩
        · rw [e1, e2, if_neg (by omega), if_neg (by omega)]
        · rw [e2, show rd (0 :: xs) (idxOf (fun x : Int => x != 0) xs + 1) = rd xs (idxOf (fun x : Int => x != 0) xs) from by
            unfold rd
            rw [show (idxOf (fun x : Int => x != 0) xs + 1).toNat = (idxOf (fun x : Int => x != 0) xs).toNat + 1 from by omega, List.getD_cons_succ]]
          by_cases h3 : rd xs (idxOf (fun x : Int => x != 0) xs) < 0
          · rw [if_pos ⟨e1, h3⟩, if_pos ⟨by omega, h3⟩, List.map_cons, show wrap64 (-0) = 0 from wrap_id (by decide) (by decide)]
          · rw [if_neg (fun hh => h3 hh.2), if_neg (fun hh => h3 hh.2)]

theorem impl_Part_eq (C D : List Int) (K : Int) (hC : C.length ≤ 1048576) : impl_CatPart.f C D K = some (catI C) := by
  unfold impl_CatPart.f catI
  rw [if_pos (by omega)]

theorem spec_part_loop (C D : List Int) (K : Int) (hC : C.length ≤ 1048576) (d : Nat) : ∀ (k i : Nat) (out : List Int) (s : Int), i + d = C.length → 2 * d < k → out.length = i →
    spec_CatPart.l0 k out s (i : Int) C D K = some (out ++ catL s (C.drop i)) := by
  induction d with
  | zero =>
    intro k i out s hi hk ho
    obtain ⟨k, rfl⟩ : ∃ m, k = m + 1 := ⟨k - 1, by omega⟩
    simp only [spec_CatPart.l0]
    rw [if_neg (by omega), List.drop_of_length_le (by omega)]
    simp [catL]
  | succ d ih =>
    intro k i out s hi hk ho
    obtain ⟨k, rfl⟩ : ∃ m, k = m + 2 := ⟨k - 2, by omega⟩
    have hlt : i < C.length := by omega
    have hw : wrap64 ((i : Int) + 1) = ((i + 1 : Nat) : Int) := by rw [wrap_id (by omega) (by omega)]; omega
    have step : ∀ (k : Nat) (s' : Int), 2 * d < k → catSgn s C[i] = s' → spec_CatPart.l0 k (out ++ [wrap64 (s' * C[i])]) s' ((i + 1 : Nat) : Int) C D K = some (out ++ catL s (C.drop i)) := by
      intro k s' hk' hs
      rw [ih k (i + 1) _ s' (by omega) hk' (by simp; omega), List.drop_eq_getElem_cons hlt]
      simp only [catL]
      rw [hs, List.append_assoc]
      rfl
    simp only [spec_CatPart.l0, spec_CatPart.j1]
    rw [getD_at C i hlt, hw]
    by_cases h0 : s = 0
    · subst h0
      simp only [show (i : Int) < (C.length : Int) from by omega, show (0 : Int) ≤ (i : Int) from by omega, show out.length < 17592186044416 from by omega, if_true, show ¬ ((1 : Int) = 0) from by decide, if_false]
      by_cases h1 : C[i] > 0
      · rw [if_pos (decide_eq_true h1)]
        have h9 := step k 1 (by omega) (by unfold catSgn; rw [if_pos rfl, if_pos h1])
        rw [Int.one_mul] at h9
        exact h9
      · rw [if_neg (by rw [decide_eq_false h1]; decide)]
        by_cases h2 : C[i] < 0
        · rw [if_pos h2]
          have h9 := step k (-1) (by omega) (by unfold catSgn; rw [if_pos rfl, if_neg h1, if_pos h2])
          rw [show (-1 : Int) * C[i] = -C[i] from by omega] at h9
          exact h9
        · rw [if_neg h2]
          exact step k 0 (by omega) (by unfold catSgn; rw [if_pos rfl, if_neg h1, if_neg h2])
    · simp only [show (i : Int) < (C.length : Int) from by omega, show (0 : Int) ≤ (i : Int) from by omega, show out.length < 17592186044416 from by omega, if_true, h0, if_false, Bool.false_eq_true]
      exact step k s (by omega) (by unfold catSgn; rw [if_neg h0])
theorem spec_Part_eq (C D : List Int) (K : Int) (k : Nat) (hk : 2097155 < k) (hC : C.length ≤ 1048576) (hw : ∀ x ∈ C, (Lit.int .i64 x).wf = true) : spec_CatPart.f k C D K = some (catI C) := by
  unfold spec_CatPart.f
  have := spec_part_loop C D K hC C.length k 0 [] 0 (by omega) (by omega) rfl
  rw [← catL_zero C hw]
  simpa using this

theorem FnExactCatPart : laws_FnExactCatPart.Pure := by
  intro C D K hC hD hK
  refine ⟨4000002, ?_⟩
  unfold laws_FnExactCatPart.f
  obtain ⟨t, e, h⟩ := sz_frm C D K 1048576 (by omega) (by omega) hC.1 hD.1
  rw [e]; simp only [Option.bind_some, if_true, bne_self_eq_false, Bool.false_eq_true, if_false]
  rcases h with h | ⟨h1, h2⟩
  · rw [if_pos h]
  have hl := catI_length C
  rw [if_neg (by omega), to_frm C D K _ (by omega) (by omega) (by omega) (by omega)]; simp only [Option.bind_some, if_true, bne_self_eq_false, Bool.false_eq_true, if_false]
  rw [spec_Part_eq C D K _ (by omega) (by omega) hC.2]; simp only [Option.bind_some, if_true, bne_self_eq_false, Bool.false_eq_true, if_false]
  rw [impl_Part_eq C D K (by omega)]; simp only [Option.bind_some, if_true, bne_self_eq_false, Bool.false_eq_true, if_false]
  rw [eq_int (catI C) _ (by omega) (by omega)]; simp only [Option.bind_some, if_true, bne_self_eq_false, Bool.false_eq_true, if_false]
  rw [eq_frm C D K _ (by omega) (by omega) (by omega) (by omega)]; simp only [Option.bind_some, if_true, bne_self_eq_false, Bool.false_eq_true, if_false]
  rw [mark_frm C D K 1 _ (by omega) (by omega) (by omega) (by omega) (by omega) (by omega)]; simp only [Option.bind_some, if_true, bne_self_eq_false, Bool.false_eq_true, if_false]
  rw [if_neg (by omega)]
  simp only [laws_FnExactCatPart.j0, Bool.not_true, Bool.false_eq_true, if_false]
  rw [mark_int (catI C) 1 _ (by omega) (by omega) (by omega) (by omega)]; simp only [Option.bind_some, if_true, bne_self_eq_false, Bool.false_eq_true, if_false]
  rw [held_int (catI C).length 1 _ (by omega) (by omega) (by omega) (by omega)]; simp only [Option.bind_some, if_true, bne_self_eq_false, Bool.false_eq_true, if_false]
  rw [if_neg (by omega), to_frm C D K _ (by omega) (by omega) (by omega) (by omega)]; simp only [Option.bind_some, if_true, bne_self_eq_false, Bool.false_eq_true, if_false]
  rw [impl_Part_eq C D K (by omega)]; simp only [Option.bind_some, if_true, bne_self_eq_false, Bool.false_eq_true, if_false]
  rw [eq_int (catI C) _ (by omega) (by omega)]; simp only [Option.bind_some, if_true, bne_self_eq_false, Bool.false_eq_true, if_false]
  rw [if_neg (by omega)]

end Go.Proofs.Ytgpncpabgojbfaa.Pure
