/- The plain law FnValOk: what the printed functions compute answers as the statement says. -/
import Derived.Test.YtjfjfdcmliaigaaQFnValOkx2
import Derived.OpenShut
set_option linter.unusedVariables false
set_option linter.unusedSimpArgs false
namespace Go.Proofs.Ytjfjfdcmliaigaa.Pure
open Go.RowKit Go.Proofs.Ytjfjfdcmliaigaa.QFnValOk Go.Proofs.YtjfjfdcmliaigaaW.PrintWords Go.Proofs.YtjfjfdcmliaigaaW.PrintLast Go.Proofs.Ytjfjfdcmliaigaa.HWords

theorem bd64 {x : Int} (h : (Lit.int .i64 x).wf = true) : -9223372036854775808 ≤ x ∧ x ≤ 9223372036854775807 := bounds_i64 h
theorem wrap_id {x : Int} (h0 : -9223372036854775808 ≤ x) (h1 : x ≤ 9223372036854775807) : wrap64 x = x := by unfold wrap64; omega
theorem wrap_l (x y : Int) : wrap64 (wrap64 x + y) = wrap64 (x + y) := by unfold wrap64; omega
theorem wrap_r (x y : Int) : wrap64 (x + wrap64 y) = wrap64 (x + y) := by unfold wrap64; omega
theorem wrap_ll (x y z : Int) : wrap64 (wrap64 x + y + z) = wrap64 (x + y + z) := by unfold wrap64; omega
theorem wrap_lr (x y z : Int) : wrap64 (x + wrap64 y + z) = wrap64 (x + y + z) := by unfold wrap64; omega
theorem getD_at (l : List Int) (i : Nat) (h : i < l.length) : rd l (i : Int) = l[i] := by
  unfold rd
  rw [show ((i : Int)).toNat = i from by omega, List.getD_eq_getElem?_getD, List.getElem?_eq_getElem h]
  rfl
/-- The plain 'within bounds'. -/
def ibB (n lo hi : Int) : Bool := decide (lo ≤ n) && decide (n ≤ hi)
/-- As many as must be, each within a bound. -/
def okB (l : List Int) (n m : Int) : Bool := decide ((l.length : Int) = n) && l.all (fun x => ibB x (wrap64 (-m)) m)
theorem ibB_iff {n lo hi : Int} : ibB n lo hi = true ↔ lo ≤ n ∧ n ≤ hi := by unfold ibB; simp
theorem okB_iff {l : List Int} {n m : Int} : okB l n m = true ↔ (l.length : Int) = n ∧ ∀ x ∈ l, wrap64 (-m) ≤ x ∧ x ≤ m := by
  unfold okB ibB; simp

theorem l1In_eq (n lo hi : Int) : spec_l1In.f n lo hi = some (ibB n lo hi) := by
  unfold spec_l1In.f ibB
  by_cases h : n ≥ lo
  · rw [if_pos h]; simp [h]
  · rw [if_neg h]; simp [h]

theorem in_eq (n lo hi : Int) : impl_in.f n lo hi = some (ibB n lo hi) := by
  unfold impl_in.f ibB
  by_cases h : n ≥ lo
  · rw [if_pos h]; simp [h]
  · rw [if_neg h]; simp [h]

theorem within_eq (l : List Int) (n m : Int) : impl_within.f l n m = some (okB l n m) := by
  unfold impl_within.f okB
  rw [List.all_eq_not_any_not]
  rfl

theorem all_loop (l : List Int) (m : Int) (hl : l.length ≤ 1048576) (d : Nat) : ∀ (k i : Nat), i + d = l.length → d < k → spec_l1All.l0 k l m (i : Int) = some ((l.drop i).all fun x => ibB x (wrap64 (-m)) m) := by
  induction d with
  | zero =>
    intro k i hi hk
    obtain ⟨k, rfl⟩ : ∃ m, k = m + 1 := ⟨k - 1, by omega⟩
    simp only [spec_l1All.l0]
    rw [if_neg (by omega), List.drop_of_length_le (by omega)]
    rfl
  | succ d ih =>
    intro k i hi hk
    obtain ⟨k, rfl⟩ : ∃ m, k = m + 1 := ⟨k - 1, by omega⟩
    have hlt : i < l.length := by omega
    simp only [spec_l1All.l0]
    rw [if_pos (by omega), if_pos (by omega), l1In_eq, getD_at l i hlt, List.drop_eq_getElem_cons hlt, List.all_cons]
    simp only [Option.bind_some, if_true, bne_self_eq_false, Bool.false_eq_true, if_false]
    cases ibB l[i] (wrap64 (-m)) m with
    | false => rfl
    | true =>
      rw [if_pos rfl, wrap_id (by omega) (by omega), show (i : Int) + 1 = ((i + 1 : Nat) : Int) from by omega, ih k (i + 1) (by omega) (by omega)]
      rfl
theorem l1All_eq (l : List Int) (n m : Int) (k : Nat) (hk : l.length < k) (hl : l.length ≤ 1048576) : spec_l1All.f k l n m = some (okB l n m) := by
  unfold spec_l1All.f okB
  by_cases h : (l.length : Int) = n
  · rw [if_pos h, decide_eq_true h, Bool.true_and]
    have := all_loop l m hl l.length k 0 (by omega) hk
    simpa using this
  · rw [if_neg h, decide_eq_false h, Bool.false_and]

theorem spec_Val_eq (l : List Int) (k : Nat) (hk : l.length < k) (hl : l.length ≤ 1048576) : spec_ValOk.f k l = some (okB l 3 10000) := by
  unfold spec_ValOk.f
  rw [l1All_eq l _ _ k hk hl]; rfl

theorem impl_Val_eq (l : List Int) : impl_ValOk.f l = some (okB l 3 10000) := by
  unfold impl_ValOk.f
  rw [within_eq]; rfl

theorem spec_Arg_eq (l : List Int) (k : Nat) (hk : l.length < k) (hl : l.length ≤ 1048576) : spec_ArgOk.f k l = some (okB l 2 9) := by
  unfold spec_ArgOk.f
  rw [l1All_eq l _ _ k hk hl]; rfl

theorem impl_Arg_eq (l : List Int) : impl_ArgOk.f l = some (okB l 2 9) := by
  unfold impl_ArgOk.f
  rw [within_eq]; rfl

def frmB (C D : List Int) (K : Int) : Bool := okB C 3 10000000 && (okB D 2 10000000 && ibB K (-10000000) 10000000)

/-- The form that is one pot, or nothing. -/
def potF (v : Int) : List Int × List Int × Int := if v = 0 then ([1, 0, 0], [0, 0], 0) else if v = 1 then ([0, 1, 0], [0, 0], 0) else if v = 2 then ([0, 0, 1], [0, 0], 0) else ([], [], 0)
theorem potF_len (v : Int) : (potF v).1.length ≤ 3 ∧ (potF v).2.1.length ≤ 2 := by
  unfold potF; repeat' split
  all_goals simp

theorem len3 {l : List Int} (h : (l.length : Int) = 3) : ∃ a b c, l = [a, b, c] := by
  match l, h with
  | [a, b, c], _ => exact ⟨a, b, c, rfl⟩
  | [], h => simp at h
  | [_], h => simp at h
  | [_, _], h => simp at h
  | _ :: _ :: _ :: _ :: _, h => simp at h; omega
theorem len2 {l : List Int} (h : (l.length : Int) = 2) : ∃ a b, l = [a, b] := by
  match l, h with
  | [a, b], _ => exact ⟨a, b, rfl⟩
  | [], h => simp at h
  | [_], h => simp at h
  | _ :: _ :: _ :: _, h => simp at h; omega
theorem okB_len {l : List Int} {n m : Int} (h : okB l n m = true) : (l.length : Int) = n := (okB_iff.mp h).1
theorem frmB_len {C D : List Int} {K : Int} (h : frmB C D K = true) : (C.length : Int) = 3 ∧ (D.length : Int) = 2 := by
  unfold frmB at h
  simp only [Bool.and_eq_true] at h
  exact ⟨okB_len h.1, okB_len h.2.1⟩

theorem inB_ib (n lo hi : Int) : inB n lo hi = ibB n lo hi := rfl

theorem set_takeG {α : Type} (z : α) (l : List α) (i : Nat) (h : i < l.length) :
    (l.take i ++ List.replicate (l.length - i) z).set i l[i] = l.take (i + 1) ++ List.replicate (l.length - (i + 1)) z := by
  rw [List.set_append_right _ _ (by rw [List.length_take]; omega), List.length_take, Nat.min_eq_left (by omega), Nat.sub_self]
  obtain ⟨m, hm⟩ : ∃ m, l.length - i = m + 1 := ⟨l.length - i - 1, by omega⟩
  rw [hm, List.replicate_succ, List.set_cons_zero, show l.length - (i + 1) = m from by omega, List.take_succ_eq_append_getElem h, List.append_assoc]
  rfl
theorem getDG {α : Type} (z : α) (l : List α) (i : Nat) (h : i < l.length) : l.getD ((i : Int)).toNat z = l[i] := by
  rw [show ((i : Int)).toNat = i from by omega, List.getD_eq_getElem?_getD, List.getElem?_eq_getElem h]
  rfl

def trtB (B G : List Int) : Bool := okB B 3 10000 && (ibB (G.length : Int) 1 3 && G.all fun x => ibB x 0 50)

/-- So many times a form, or nothing. -/
def timesF (C D : List Int) (K n : Int) : List Int × List Int × Int :=
  if frmB C D K && ibB n (-10000000) 10000000 then
    (let x := C.map fun c => wrap64 (wrap64 (n * c)); let y := D.map fun c => wrap64 (wrap64 (n * c)); let z := wrap64 (wrap64 (n * K))
     if frmB x y z then (x, y, z) else ([], [], 0))
  else ([], [], 0)
theorem timesF_len (C D : List Int) (K n : Int) : (timesF C D K n).1.length ≤ 3 ∧ (timesF C D K n).2.1.length ≤ 2 := by
  unfold timesF
  split
  · rename_i h
    simp only [Bool.and_eq_true] at h
    obtain ⟨h1, h2⟩ := frmB_len h.1
    simp only
    split
    · simp only [List.length_map]; omega
    · simp
  · simp

def partsB (P : List (List Int)) : Bool := P.all fun p => okB p 3 10000000
theorem partsB_len {P : List (List Int)} (h : partsB P = true) : ∀ p ∈ P, p.length = 3 := fun p hp => by
  have := okB_len (List.all_eq_true.mp h p hp)
  omega

def preB (B G : List Int) (P : List (List Int)) (s : Int) (A : List Int) : Bool := trtB B G && (partsB P && (ibB s 0 (wrap64 ((G.length : Int) - 1)) && okB A 3 20000))
theorem preB_facts {B G : List Int} {P : List (List Int)} {s : Int} {A : List Int} (hG : G.length ≤ 1048576) (h : preB B G P s A = true) : (∀ p ∈ P, p.length = 3) ∧ 0 ≤ s ∧ s < (G.length : Int) ∧ A.length = 3 := by
  unfold preB at h
  simp only [Bool.and_eq_true] at h
  obtain ⟨_, h2, h3, h4⟩ := h
  obtain ⟨h5, h6⟩ := ibB_iff.mp h3
  have h7 := okB_len h4
  rw [wrap_id (by omega) (by omega)] at h6
  exact ⟨partsB_len h2, h5, by omega, by omega⟩

def smallB (C D : List Int) (K : Int) : Bool := okB C 3 2 && (okB D 2 2 && ibB K (-20) 20)
def lineB (a b c : Int) (C D : List Int) (K : Int) : Bool :=
  if a = 1 then decide (b = 0) && (ibB c 1 6 && smallB C D K)
  else if a = 2 then ibB b 0 2 && (decide (c = 0) && smallB C D K)
  else if a = 3 then decide (b = 0) && (decide (c = 0) && smallB C D K)
  else if a = 4 then decide (b = 0) && (decide (c = 0) && (decide (C = []) && (decide (D = []) && decide (K = 0))))
  else false

theorem idx_hit0 (q : Int → Bool) (x : Int) (xs : List Int) (h : q x = true) : idxOf q (x :: xs) = 0 := by
  unfold idxOf; rw [List.findIdx?_cons, if_pos h]; rfl
theorem idx_miss0 (q : Int → Bool) (x : Int) (xs : List Int) (h : q x = false) : (idxOf q xs = -1 ∧ idxOf q (x :: xs) = -1) ∨ (0 ≤ idxOf q xs ∧ idxOf q (x :: xs) = idxOf q xs + 1) := by
  unfold idxOf; rw [List.findIdx?_cons, if_neg (by rw [h]; decide)]
  cases hf : xs.findIdx? q with
  | none => exact .inl ⟨rfl, rfl⟩
  | some i => refine .inr ⟨by simp, ?_⟩; simp
def ngL (C : List Int) : List Int := C.map fun x => wrap64 (-x)
def catI (C : List Int) : List Int := if 0 ≤ idxOf (fun x : Int => x != 0) C ∧ rd C (idxOf (fun x : Int => x != 0) C) < 0 then C.map (fun x => wrap64 (-x)) else C
theorem catI_length (C : List Int) : (catI C).length = C.length := by unfold catI; split <;> simp
def catSgn (s x : Int) : Int := if s = 0 then (if x > 0 then 1 else if x < 0 then -1 else 0) else s
def catL : Int → List Int → List Int
  | _, [] => []
  | s, x :: xs => wrap64 (catSgn s x * x) :: catL (catSgn s x) xs
theorem catL_one : ∀ (C : List Int), (∀ x ∈ C, (Lit.int .i64 x).wf = true) → catL 1 C = C
  | [], _ => rfl
  | x :: xs, h => by
    have := bd64 (h x (List.mem_cons_self ..))
    simp only [catL, catSgn, show ¬ ((1 : Int) = 0) from by decide, if_false]
    rw [catL_one xs (fun y hy => h y (List.mem_cons_of_mem _ hy)), Int.one_mul, wrap_id this.1 this.2]
theorem catL_neg : ∀ (C : List Int), catL (-1) C = C.map fun x => wrap64 (-x)
  | [] => rfl
  | x :: xs => by
    simp only [catL, catSgn, show ¬ ((-1 : Int) = 0) from by decide, if_false, List.map_cons]
    rw [catL_neg xs, show (-1 : Int) * x = -x from by omega]
theorem catL_zero : ∀ (C : List Int), (∀ x ∈ C, (Lit.int .i64 x).wf = true) → catL 0 C = catI C
  | [], _ => by simp [catL, catI]
  | x :: xs, h => by
    have hb := bd64 (h x (List.mem_cons_self ..))
    have ht : ∀ y ∈ xs, (Lit.int .i64 y).wf = true := fun y hy => h y (List.mem_cons_of_mem _ hy)
    simp only [catL, catSgn, if_true]
    by_cases h1 : x > 0
    · rw [if_pos h1, catL_one xs ht, Int.one_mul, wrap_id hb.1 hb.2]
      unfold catI
      rw [idx_hit0 _ x xs (by simp; omega), if_neg (by rintro ⟨_, h2⟩; have : rd (x :: xs) 0 = x := rfl; omega)]
    · rw [if_neg h1]
      by_cases h2 : x < 0
      · rw [if_pos h2, catL_neg xs, show (-1 : Int) * x = -x from by omega]
        unfold catI
        rw [idx_hit0 _ x xs (by simp; omega), if_pos ⟨by omega, by have : rd (x :: xs) 0 = x := rfl; omega⟩]
        rfl
      · have h0 : x = 0 := by omega
        subst h0
        rw [if_neg h2, catL_zero xs ht, Int.zero_mul, wrap_id (by decide) (by decide)]
        unfold catI
        rcases idx_miss0 (fun x : Int => x != 0) 0 xs (by decide) with ⟨e1, e2⟩ | ⟨e1, e2⟩
        · rw [e1, e2, if_neg (by omega), if_neg (by omega)]
        · rw [e2, show rd (0 :: xs) (idxOf (fun x : Int => x != 0) xs + 1) = rd xs (idxOf (fun x : Int => x != 0) xs) from by
            unfold rd
            rw [show (idxOf (fun x : Int => x != 0) xs + 1).toNat = (idxOf (fun x : Int => x != 0) xs).toNat + 1 from by omega, List.getD_cons_succ]]
          by_cases h3 : rd xs (idxOf (fun x : Int => x != 0) xs) < 0
          · rw [if_pos ⟨e1, h3⟩, if_pos ⟨by omega, h3⟩, List.map_cons, show wrap64 (-0) = 0 from wrap_id (by decide) (by decide)]
          · rw [if_neg (fun hh => h3 hh.2), if_neg (fun hh => h3 hh.2)]

theorem bd8 {x : Int} (h : (Lit.int .u8 x).wf = true) : 0 ≤ x ∧ x ≤ 255 := bounds_u8 h
theorem rd8 (L : List Int) (hL : ∀ x ∈ L, (Lit.int .u8 x).wf = true) (i : Int) (h0 : 0 ≤ i) (h1 : i < (L.length : Int)) : 0 ≤ rd L i ∧ rd L i ≤ 255 := by
  obtain ⟨n, rfl⟩ := Int.eq_ofNat_of_zero_le h0
  have hn : n < L.length := by omega
  rw [getD_at L n hn]
  exact bd8 (hL _ (List.getElem_mem hn))
theorem xor_nonneg (x y : Int) (h0 : 0 ≤ x) (h1 : x < 4611686018427387904) (h2 : 0 ≤ y) (h3 : y < 4611686018427387904) : 0 ≤ Go.bits .xor .i64 x y := by
  obtain ⟨a, rfl⟩ := Int.eq_ofNat_of_zero_le h0
  obtain ⟨b, rfl⟩ := Int.eq_ofNat_of_zero_le h2
  have ha : a < 2 ^ 62 := by omega
  have hb : b < 2 ^ 62 := by omega
  have hx := Nat.xor_lt_two_pow ha hb
  have ha' : a % 2 ^ IntKind.i64.bits = a := Nat.mod_eq_of_lt (Nat.lt_of_lt_of_le ha (by decide))
  have hb' : b % 2 ^ IntKind.i64.bits = b := Nat.mod_eq_of_lt (Nat.lt_of_lt_of_le hb (by decide))
  simp only [Go.bits, BitVec.ofInt_natCast, BitVec.toNat_xor, BitVec.toNat_ofNat, ha', hb']
  rw [IntKind.wrap_i64]
  omega
theorem pick_eq (L : List Int) (hL : ∀ x ∈ L, (Lit.int .u8 x).wf = true) (hl : L.length ≤ 2000) (s n : Int) (k : Nat) (hk : 1 ≤ k) (h0 : 0 ≤ s) (h1 : s ≤ 1000000) (hn : 1 ≤ n) : ∃ v, spec_l20Rd_pick.f k L s n = some (v, s + 1) ∧ 0 ≤ v ∧ v < n := by
  obtain ⟨k, rfl⟩ : ∃ m, k = m + 1 := ⟨k - 1, by omega⟩
  have e1 : wrap64 (s + 1) = s + 1 := wrap_id (by omega) (by omega)
  have e2 : wrap64 (s + 1 - 1) = s := by rw [wrap_id (by omega) (by omega)]; omega
  unfold spec_l20Rd_pick.f
  rw [if_neg (by omega)]
  simp only [spec_l20Rd_pick.j0, e1, e2]
  by_cases hz : (L.length : Int) = 0
  · rw [if_pos (beq_iff_eq.mpr hz)]
    exact ⟨0, rfl, by omega, by omega⟩
  rw [if_neg (by rw [beq_eq_false_iff_ne.mpr hz]; decide)]
  have hp : 0 < (L.length : Int) := by omega
  by_cases hs : s < (L.length : Int)
  · have := rd8 L hL s h0 hs
    rw [if_pos hs, if_pos h0, if_neg (by omega), wrap_id (by omega) (by omega)]
    exact ⟨_, rfl, Int.tmod_nonneg _ this.1, Int.tmod_lt_of_pos _ (by omega)⟩
  · rw [if_neg hs, if_neg hz]
    have i1 : 0 ≤ Int.tmod s (L.length : Int) := Int.tmod_nonneg _ h0
    have i2 : Int.tmod s (L.length : Int) < (L.length : Int) := Int.tmod_lt_of_pos _ hp
    have e3 : wrap64 (wrap64 (s * 7) + 3) = s * 7 + 3 := by rw [wrap_id (x := s * 7) (by omega) (by omega), wrap_id (by omega) (by omega)]
    rw [e3]
    have j1 : 0 ≤ Int.tmod (s * 7 + 3) (L.length : Int) := Int.tmod_nonneg _ (by omega)
    have j2 : Int.tmod (s * 7 + 3) (L.length : Int) < (L.length : Int) := Int.tmod_lt_of_pos _ hp
    have ra := rd8 L hL _ i1 i2
    have rb := rd8 L hL _ j1 j2
    have q1 : 0 ≤ Int.tdiv s (L.length : Int) := Int.tdiv_nonneg h0 (by omega)
    have q2 : Int.tdiv s (L.length : Int) ≤ s := Int.tdiv_le_self _ h0
    rw [if_pos i1, if_pos i2, if_pos j1, if_pos j2, if_neg (by omega)]
    generalize rd L (Int.tmod s (L.length : Int)) = a at ra ⊢
    generalize rd L (Int.tmod (s * 7 + 3) (L.length : Int)) = b at rb ⊢
    generalize Int.tdiv s (L.length : Int) = q at q1 q2 ⊢
    have ex : wrap64 (wrap64 (wrap64 (wrap64 (wrap64 a * 131) + wrap64 (wrap64 b * 1117)) + wrap64 (s * 29)) + wrap64 (wrap64 q * 53)) = a * 131 + b * 1117 + s * 29 + q * 53 := by
      rw [wrap_id (x := a) (by omega) (by omega), wrap_id (x := b) (by omega) (by omega), wrap_id (x := q) (by omega) (by omega), wrap_id (x := a * 131) (by omega) (by omega), wrap_id (x := b * 1117) (by omega) (by omega), wrap_id (x := s * 29) (by omega) (by omega), wrap_id (x := q * 53) (by omega) (by omega),
        wrap_id (x := a * 131 + b * 1117) (by omega) (by omega), wrap_id (x := a * 131 + b * 1117 + s * 29) (by omega) (by omega), wrap_id (by omega) (by omega)]
    rw [ex]
    generalize hX : a * 131 + b * 1117 + s * 29 + q * 53 = X
    have x1 : 0 ≤ X := by omega
    have x2 : X ≤ 1000000000 := by omega
    have y1 : 0 ≤ Int.tdiv X 64 := Int.tdiv_nonneg x1 (by omega)
    have y2 : Int.tdiv X 64 ≤ X := Int.tdiv_le_self _ x1
    rw [wrap_id (x := Int.tdiv X 64) (by omega) (by omega)]
    exact ⟨_, rfl, Int.tmod_nonneg _ (xor_nonneg _ _ x1 (by omega) y1 (by omega)), Int.tmod_lt_of_pos _ (by omega)⟩

theorem open_eq (L : List Int) (hL : ∀ x ∈ L, (Lit.int .u8 x).wf = true) : ∃ M, spec_l20Open.f L = some (M, 0) ∧ (∀ x ∈ M, (Lit.int .u8 x).wf = true) ∧ M.length ≤ 2000 := by
  unfold spec_l20Open.f
  by_cases h : (L.length : Int) > 2000
  · rw [if_pos h, if_pos (by omega)]
    exact ⟨_, rfl, fun x hx => hL x (List.mem_of_mem_take hx), by rw [List.length_take]; omega⟩
  · rw [if_neg h]
    exact ⟨_, rfl, hL, by omega⟩

/-- Drawn numbers: few, and each small. -/
def smallL (l : List Int) (m : Nat) (b : Int) : Prop := l.length ≤ m ∧ ∀ x ∈ l, -b ≤ x ∧ x ≤ b
theorem rd_mem (l : List Int) (i : Int) (h0 : 0 ≤ i) (h1 : i < (l.length : Int)) : rd l i ∈ l := by
  obtain ⟨n, rfl⟩ := Int.eq_ofNat_of_zero_le h0
  have hn : n < l.length := by omega
  rw [getD_at l n hn]
  exact List.getElem_mem hn
theorem smallL.push {l : List Int} {m : Nat} {b x : Int} (h : smallL l m b) (h0 : -b ≤ x) (h1 : x ≤ b) : smallL (l ++ [x]) (m + 1) b :=
  ⟨by rw [List.length_append]; have := h.1; simp; omega, fun y hy => by rcases List.mem_append.mp hy with hy | hy; exact h.2 y hy; rw [List.mem_singleton.mp hy]; exact ⟨h0, h1⟩⟩
theorem smallL.set {l : List Int} {m : Nat} {b x : Int} {i : Nat} (h : smallL l m b) (h0 : -b ≤ x) (h1 : x ≤ b) : smallL (l.set i x) m b :=
  ⟨by rw [List.length_set]; exact h.1, fun y hy => by rcases List.mem_or_eq_of_mem_set hy with hy | rfl; exact h.2 y hy; exact ⟨h0, h1⟩⟩
theorem smallL.take {l : List Int} {m : Nat} {b : Int} {i : Nat} (h : smallL l m b) : smallL (l.take i) m b :=
  ⟨by rw [List.length_take]; have := h.1; omega, fun y hy => h.2 y (List.mem_of_mem_take hy)⟩
theorem smallL.mono {l : List Int} {m n : Nat} {b c : Int} (h : smallL l m b) (h1 : m ≤ n) (h2 : b ≤ c) : smallL l n c := ⟨Nat.le_trans h.1 h1, fun x hx => by have := h.2 x hx; omega⟩
theorem smallL.rd {l : List Int} {m : Nat} {b : Int} (h : smallL l m b) (i : Int) (h0 : 0 ≤ i) (h1 : i < (l.length : Int)) : -b ≤ rd l i ∧ rd l i ≤ b := h.2 _ (rd_mem l i h0 h1)
theorem vals_loop (L : List Int) (hL : ∀ x ∈ L, (Lit.int .u8 x).wf = true) (hl : L.length ≤ 2000) (n : Int) (hn : 1 ≤ n) (d : Nat) : ∀ (k i : Nat) (out : List Int) (s : Int), i + d = 3 → d + 5 < k → 0 ≤ s → s + d ≤ 900003 → out.length = i → smallL out 3 10001 →
    ∃ v s', spec_l20Vals.l0 k n out (i : Int) L s = some (v, s') ∧ s ≤ s' ∧ s' ≤ s + d + 4 ∧ smallL v 4 10001 := by
  induction d with
  | zero =>
    intro k i out s hi hk h0 h1 ho hs
    obtain ⟨k, rfl⟩ : ∃ m, k = m + 1 := ⟨k - 1, by omega⟩
    have hi3 : i = 3 := by omega
    subst hi3
    simp only [spec_l20Vals.l0]
    rw [if_neg (by omega)]
    obtain ⟨v1, e1, a1, b1⟩ := pick_eq L hL hl s n k (by omega) h0 (by omega) hn
    rw [e1]; simp only [Option.bind_some, if_true, bne_self_eq_false, Bool.false_eq_true, if_false]
    by_cases c1 : v1 = 0
    · rw [if_pos c1]
      obtain ⟨v2, e2, a2, b2⟩ := pick_eq L hL hl (s + 1) 3 k (by omega) (by omega) (by omega) (by omega)
      rw [e2]; simp only [Option.bind_some, if_true, bne_self_eq_false, Bool.false_eq_true, if_false]
      by_cases c2 : v2 = 0
      · rw [if_pos c2, if_pos (by omega)]
        exact ⟨_, _, rfl, by omega, by omega, hs.take.mono (by omega) (by omega)⟩
      · rw [if_neg c2]
        by_cases c3 : v2 = 1
        · rw [if_pos c3, if_pos (by omega)]
          exact ⟨_, _, rfl, by omega, by omega, hs.push (by omega) (by omega)⟩
        · rw [if_neg c3]
          obtain ⟨v3, e3, a3, b3⟩ := pick_eq L hL hl (s + 1 + 1) 3 k (by omega) (by omega) (by omega) (by omega)
          rw [e3]; simp only [Option.bind_some, if_true, bne_self_eq_false, Bool.false_eq_true, if_false]
          obtain ⟨v4, e4, a4, b4⟩ := pick_eq L hL hl (s + 1 + 1 + 1) 2 k (by omega) (by omega) (by omega) (by omega)
          rw [e4]; simp only [Option.bind_some, if_true, bne_self_eq_false, Bool.false_eq_true, if_false]
          have hq : smallL [10001, -10001] 2 10001 := ⟨by simp, by simp⟩
          have hq2 := hq.rd v4 a4 (by simpa using b4)
          rw [if_pos a4, if_pos (by simpa using b4), if_pos a3, if_pos (by omega)]
          exact ⟨_, _, rfl, by omega, by omega, (hs.set hq2.1 hq2.2).mono (by omega) (by omega)⟩
    · rw [if_neg c1]
      exact ⟨_, _, rfl, by omega, by omega, hs.mono (by omega) (by omega)⟩
  | succ d ih =>
    intro k i out s hi hk h0 h1 ho hs
    obtain ⟨k, rfl⟩ : ∃ m, k = m + 1 := ⟨k - 1, by omega⟩
    simp only [spec_l20Vals.l0]
    rw [if_pos (by omega)]; simp only [Option.bind_some, if_true, bne_self_eq_false, Bool.false_eq_true, if_false]
    obtain ⟨v1, e1, a1, b1⟩ := pick_eq L hL hl s 9 k (by omega) h0 (by omega) (by omega)
    rw [e1]; simp only [Option.bind_some, if_true, bne_self_eq_false, Bool.false_eq_true, if_false]
    have hq : smallL [0, 1, 5, 20, -3, 60, 10000, -10000, 9996] 9 10001 := ⟨by simp, by simp⟩
    have hq2 := hq.rd v1 a1 (by simpa using b1)
    rw [if_pos a1, if_pos (by simpa using b1), if_pos (by omega), show wrap64 ((i : Int) + 1) = ((i + 1 : Nat) : Int) from by rw [wrap_id (by omega) (by omega)]; omega]
    have hp : smallL (out ++ [rd [0, 1, 5, 20, -3, 60, 10000, -10000, 9996] v1]) 3 10001 := by
      have := hs.push hq2.1 hq2.2
      exact ⟨by simp; omega, this.2⟩
    obtain ⟨v, s', e, p, q, r⟩ := ih k (i + 1) _ (s + 1) (by omega) (by omega) (by omega) (by omega) (by simp; omega) hp
    exact ⟨v, s', e, by omega, by omega, r⟩
theorem vals_eq (L : List Int) (hL : ∀ x ∈ L, (Lit.int .u8 x).wf = true) (hl : L.length ≤ 2000) (s n : Int) (k : Nat) (hk : 9 ≤ k) (h0 : 0 ≤ s) (h1 : s ≤ 900000) (hn : 1 ≤ n) :
    ∃ v s', spec_l20Vals.f k L s n = some (v, s') ∧ s ≤ s' ∧ s' ≤ s + 7 ∧ smallL v 4 10001 := by
  unfold spec_l20Vals.f
  obtain ⟨v, s', e, p, q, r⟩ := vals_loop L hL hl n hn 3 k 0 [] s rfl (by omega) h0 (by omega) rfl ⟨by simp, by simp⟩
  exact ⟨v, s', e, p, by omega, r⟩

theorem args_eq (L : List Int) (hL : ∀ x ∈ L, (Lit.int .u8 x).wf = true) (hl : L.length ≤ 2000) (s n : Int) (k : Nat) (hk : 9 ≤ k) (h0 : 0 ≤ s) (h1 : s ≤ 900000) (hn : 1 ≤ n) :
    ∃ v s', spec_l20Args.f k L s n = some (v, s') ∧ s ≤ s' ∧ s' ≤ s + 7 ∧ smallL v 3 10 := by
  unfold spec_l20Args.f
  obtain ⟨u1, f1, g1, j1⟩ := pick_eq L hL hl s 19 k (by omega) h0 (by omega) (by omega)
  rw [f1]; simp only [Option.bind_some, if_true, bne_self_eq_false, Bool.false_eq_true, if_false]
  obtain ⟨u2, f2, g2, j2⟩ := pick_eq L hL hl (s + 1) 19 k (by omega) (by omega) (by omega) (by omega)
  rw [f2]; simp only [Option.bind_some, if_true, bne_self_eq_false, Bool.false_eq_true, if_false]
  rw [wrap_id (x := u1 - 9) (by omega) (by omega), wrap_id (x := u2 - 9) (by omega) (by omega)]
  have hs : smallL [u1 - 9, u2 - 9] 2 10 := ⟨by simp, by simp; omega⟩
  have ho : [u1 - 9, u2 - 9].length = 2 := rfl
  generalize [u1 - 9, u2 - 9] = out at hs ho ⊢
  obtain ⟨v1, e1, a1, b1⟩ := pick_eq L hL hl (s + 1 + 1) n k (by omega) (by omega) (by omega) hn
  rw [e1]; simp only [Option.bind_some, if_true, bne_self_eq_false, Bool.false_eq_true, if_false]
  by_cases c1 : v1 = 0
  · rw [if_pos c1]
    obtain ⟨v2, e2, a2, b2⟩ := pick_eq L hL hl (s + 1 + 1 + 1) 3 k (by omega) (by omega) (by omega) (by omega)
    rw [e2]; simp only [Option.bind_some, if_true, bne_self_eq_false, Bool.false_eq_true, if_false]
    by_cases c2 : v2 = 0
    · rw [if_pos c2, if_pos (by omega)]
      exact ⟨_, _, rfl, by omega, by omega, hs.take.mono (by omega) (by omega)⟩
    · rw [if_neg c2]
      by_cases c3 : v2 = 1
      · rw [if_pos c3, if_pos (by omega)]
        exact ⟨_, _, rfl, by omega, by omega, hs.push (by omega) (by omega)⟩
      · rw [if_neg c3]
        obtain ⟨v3, e3, a3, b3⟩ := pick_eq L hL hl (s + 1 + 1 + 1 + 1) 2 k (by omega) (by omega) (by omega) (by omega)
        rw [e3]; simp only [Option.bind_some, if_true, bne_self_eq_false, Bool.false_eq_true, if_false]
        obtain ⟨v4, e4, a4, b4⟩ := pick_eq L hL hl (s + 1 + 1 + 1 + 1 + 1) 2 k (by omega) (by omega) (by omega) (by omega)
        rw [e4]; simp only [Option.bind_some, if_true, bne_self_eq_false, Bool.false_eq_true, if_false]
        have hq : smallL [10, -10] 2 10 := ⟨by simp, by simp⟩
        have hq2 := hq.rd v4 a4 (by simpa using b4)
        rw [if_pos a4, if_pos (by simpa using b4), if_pos a3, if_pos (by omega)]
        exact ⟨_, _, rfl, by omega, by omega, (hs.set hq2.1 hq2.2).mono (by omega) (by omega)⟩
  · rw [if_neg c1]
    exact ⟨_, _, rfl, by omega, by omega, hs.mono (by omega) (by omega)⟩

theorem drawVal_eq (L : List Int) (hL : ∀ x ∈ L, (Lit.int .u8 x).wf = true) (k : Nat) (hk : 9 ≤ k) : ∃ v, spec_DrawValOk.f k L = some v ∧ smallL v 4 10001 := by
  unfold spec_DrawValOk.f
  obtain ⟨M, e1, hM, hl⟩ := open_eq L hL
  rw [e1]; simp only [Option.bind_some, if_true, bne_self_eq_false, Bool.false_eq_true, if_false]
  obtain ⟨v, s, e2, _, _, h⟩ := vals_eq M hM hl 0 2 k hk (by omega) (by omega) (by omega)
  rw [e2]; simp only [Option.bind_some, if_true, bne_self_eq_false, Bool.false_eq_true, if_false]
  exact ⟨v, rfl, h⟩

theorem drawArg_eq (L : List Int) (hL : ∀ x ∈ L, (Lit.int .u8 x).wf = true) (k : Nat) (hk : 9 ≤ k) : ∃ v, spec_DrawArgOk.f k L = some v ∧ smallL v 3 10 := by
  unfold spec_DrawArgOk.f
  obtain ⟨M, e1, hM, hl⟩ := open_eq L hL
  rw [e1]; simp only [Option.bind_some, if_true, bne_self_eq_false, Bool.false_eq_true, if_false]
  obtain ⟨v, s, e2, _, _, h⟩ := args_eq M hM hl 0 2 k hk (by omega) (by omega) (by omega)
  rw [e2]; simp only [Option.bind_some, if_true, bne_self_eq_false, Bool.false_eq_true, if_false]
  exact ⟨v, rfl, h⟩

theorem val1 (v : Int) : okB [0, v, 0] 3 10000 = ibB v (wrap64 (-10000)) 10000 := by
  have w : wrap64 (-10000) = -10000 := wrap_id (by decide) (by decide)
  unfold okB
  rw [w]
  simp [ibB]
theorem arg1 (v : Int) : okB [v, 0] 2 9 = ibB v (wrap64 (-9)) 9 := by
  have w : wrap64 (-9) = -9 := wrap_id (by decide) (by decide)
  unfold okB
  rw [w]
  simp [ibB]
theorem l1_loop (V A : List Int) (x7 : Bool) (hV : V.length ≤ 4) (hA : A.length ≤ 4) (h7 : okB V 3 10000 = x7) (d : Nat) : ∀ (k i : Nat) (b : Bool), i + d = A.length → d + 10 < k → okB A 2 9 = (b && (A.drop i).all fun v => ibB v (wrap64 (-9)) 9) → laws_FnValOk.l1 k V A x7 b (i : Int) = some true := by
  induction d with
  | zero =>
    intro k i b hi hk hb
    obtain ⟨k, rfl⟩ : ∃ m, k = m + 1 := ⟨k - 1, by omega⟩
    rw [List.drop_of_length_le (by omega), List.all_nil, Bool.and_true] at hb
    simp only [laws_FnValOk.l1]
    rw [if_neg (by omega), impl_Val_eq]; simp only [Option.bind_some, if_true, bne_self_eq_false, Bool.false_eq_true, if_false]
    rw [if_pos (by rw [h7]; simp), impl_Arg_eq]; simp only [Option.bind_some, if_true, bne_self_eq_false, Bool.false_eq_true, if_false]
    rw [if_pos (by rw [hb]; simp), spec_Val_eq V k (by omega) (by omega)]; simp only [Option.bind_some, if_true, bne_self_eq_false, Bool.false_eq_true, if_false]
    rw [if_pos (by simp), spec_Arg_eq A k (by omega) (by omega)]; simp only [Option.bind_some, if_true, bne_self_eq_false, Bool.false_eq_true, if_false]
    rw [if_pos (by simp), impl_Val_eq]; simp only [Option.bind_some, if_true, bne_self_eq_false, Bool.false_eq_true, if_false]
    rw [show okB [0, -10000, 10000] 3 10000 = true from okB_iff.mpr ⟨rfl, by rw [show wrap64 (-10000) = -10000 from wrap_id (by decide) (by decide)]; simp⟩]
  | succ d ih =>
    intro k i b hi hk hb
    obtain ⟨k, rfl⟩ : ∃ m, k = m + 1 := ⟨k - 1, by omega⟩
    have hlt : i < A.length := by omega
    rw [List.drop_eq_getElem_cons hlt, List.all_cons] at hb
    simp only [laws_FnValOk.l1]
    rw [if_pos (by omega), show wrap64 ((i : Int) + 1) = ((i + 1 : Nat) : Int) from by rw [wrap_id (by omega) (by omega)]; omega]
    cases b with
    | false =>
      rw [if_neg (by decide)]
      exact ih k (i + 1) false (by omega) (by omega) (by simpa using hb)
    | true =>
      rw [if_pos rfl, if_pos (by omega), impl_Arg_eq, getD_at A i hlt, arg1]; simp only [Option.bind_some, if_true, bne_self_eq_false, Bool.false_eq_true, if_false]
      exact ih k (i + 1) _ (by omega) (by omega) (by simpa using hb)
theorem l0_loop (V A : List Int) (hV : V.length ≤ 4) (hA : A.length ≤ 4) (d : Nat) : ∀ (k i : Nat) (b : Bool), i + d = V.length → d + 20 < k → okB V 3 10000 = (b && (V.drop i).all fun v => ibB v (wrap64 (-10000)) 10000) → laws_FnValOk.l0 k V A b (i : Int) = some true := by
  induction d with
  | zero =>
    intro k i b hi hk hb
    obtain ⟨k, rfl⟩ : ∃ m, k = m + 1 := ⟨k - 1, by omega⟩
    rw [List.drop_of_length_le (by omega), List.all_nil, Bool.and_true] at hb
    simp only [laws_FnValOk.l0]
    rw [if_neg (by omega)]
    exact l1_loop V A b hV hA hb A.length k 0 _ (by omega) (by omega) (by unfold okB; rw [List.drop_zero]; rfl)
  | succ d ih =>
    intro k i b hi hk hb
    obtain ⟨k, rfl⟩ : ∃ m, k = m + 1 := ⟨k - 1, by omega⟩
    have hlt : i < V.length := by omega
    rw [List.drop_eq_getElem_cons hlt, List.all_cons] at hb
    simp only [laws_FnValOk.l0]
    rw [if_pos (by omega), show wrap64 ((i : Int) + 1) = ((i + 1 : Nat) : Int) from by rw [wrap_id (by omega) (by omega)]; omega]
    cases b with
    | false =>
      rw [if_neg (by decide)]
      exact ih k (i + 1) false (by omega) (by omega) (by simpa using hb)
    | true =>
      rw [if_pos rfl, if_pos (by omega), impl_Val_eq, getD_at V i hlt, val1]; simp only [Option.bind_some, if_true, bne_self_eq_false, Bool.false_eq_true, if_false]
      exact ih k (i + 1) _ (by omega) (by omega) (by simpa using hb)
theorem FnValOk : laws_FnValOk.Pure := by
  intro L M hL hM
  refine ⟨100, ?_⟩
  have h0 : ∀ b, b = true → laws_FnValOk.j0 100 L M b = some true := by intro b hb; subst hb; simp [laws_FnValOk.j0]
  unfold laws_FnValOk.f
  by_cases h1 : (L.length : Int) > 1048576
  · rw [if_pos h1]; exact h0 _ rfl
  rw [if_neg h1]
  by_cases h2 : (M.length : Int) > 1048576
  · exact h0 _ (decide_eq_true h2)
  rw [decide_eq_false h2]
  simp only [laws_FnValOk.j0, Bool.false_eq_true, if_false]
  obtain ⟨V, e1, hV⟩ := drawVal_eq L hL.2 99 (by omega)
  rw [e1]; simp only [Option.bind_some, if_true, bne_self_eq_false, Bool.false_eq_true, if_false]
  obtain ⟨A, e2, hA⟩ := drawArg_eq M hM.2 99 (by omega)
  rw [e2]; simp only [Option.bind_some, if_true, bne_self_eq_false, Bool.false_eq_true, if_false]
  have := hA.1
  have := hV.1
  exact l0_loop V A (by omega) (by omega) V.length 99 0 _ (by omega) (by omega) (by unfold okB; rw [List.drop_zero]; rfl)

end Go.Proofs.Ytjfjfdcmliaigaa.Pure
