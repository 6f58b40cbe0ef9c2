/- The plain law FnTrtOthers: what the printed functions compute answers as the statement says. -/
import Derived.Test.YtjfjfdcmliaigaaQFnTrtOthersx3
import Derived.OpenShut
set_option linter.unusedVariables false
set_option linter.unusedSimpArgs false
namespace Go.Proofs.Ytjfjfdcmliaigaa.Pure
open Go.RowKit Go.Proofs.Ytjfjfdcmliaigaa.QFnTrtOthers Go.Proofs.YtjfjfdcmliaigaaW.PrintWords Go.Proofs.YtjfjfdcmliaigaaW.PrintLast Go.Proofs.Ytjfjfdcmliaigaa.HWords

theorem bd64 {x : Int} (h : (Lit.int .i64 x).wf = true) : -9223372036854775808 ≤ x ∧ x ≤ 9223372036854775807 := bounds_i64 h
theorem wrap_id {x : Int} (h0 : -9223372036854775808 ≤ x) (h1 : x ≤ 9223372036854775807) : wrap64 x = x := by unfold wrap64; omega
theorem wrap_l (x y : Int) : wrap64 (wrap64 x + y) = wrap64 (x + y) := by unfold wrap64; omega
theorem wrap_r (x y : Int) : wrap64 (x + wrap64 y) = wrap64 (x + y) := by unfold wrap64; omega
theorem wrap_ll (x y z : Int) : wrap64 (wrap64 x + y + z) = wrap64 (x + y + z) := by unfold wrap64; omega
theorem wrap_lr (x y z : Int) : wrap64 (x + wrap64 y + z) = wrap64 (x + y + z) := by unfold wrap64; omega
theorem getD_at (l : List Int) (i : Nat) (h : i < l.length) : rd l (i : Int) = l[i] := by
  unfold rd
  rw [show ((i : Int)).toNat = i from by omega, List.getD_eq_getElem?_getD, List.getElem?_eq_getElem h]
  rfl
/-- The plain 'within bounds'. -/
def ibB (n lo hi : Int) : Bool := decide (lo ≤ n) && decide (n ≤ hi)
/-- As many as must be, each within a bound. -/
def okB (l : List Int) (n m : Int) : Bool := decide ((l.length : Int) = n) && l.all (fun x => ibB x (wrap64 (-m)) m)
theorem ibB_iff {n lo hi : Int} : ibB n lo hi = true ↔ lo ≤ n ∧ n ≤ hi := by unfold ibB; simp
theorem okB_iff {l : List Int} {n m : Int} : okB l n m = true ↔ (l.length : Int) = n ∧ ∀ x ∈ l, wrap64 (-m) ≤ x ∧ x ≤ m := by
  unfold okB ibB; simp

def frmB (C D : List Int) (K : Int) : Bool := okB C 3 10000000 && (okB D 2 10000000 && ibB K (-10000000) 10000000)

/-- The form that is one pot, or nothing. -/
def potF (v : Int) : List Int × List Int × Int := if v = 0 then ([1, 0, 0], [0, 0], 0) else if v = 1 then ([0, 1, 0], [0, 0], 0) else if v = 2 then ([0, 0, 1], [0, 0], 0) else ([], [], 0)
theorem potF_len (v : Int) : (potF v).1.length ≤ 3 ∧ (potF v).2.1.length ≤ 2 := by
  unfold potF; repeat' split
  all_goals simp

theorem others_loop (C l : List Int) (s : Int) (hl : l.length ≤ 1048576) (d : Nat) : ∀ (k i : Nat) (acc : Int), i + d = l.length → d < k →
    ∃ v, spec_TrtOthers.l0 k s acc (i : Int) C l = some v ∧ impl_TrtOthers.l0 k s acc l (l.length : Int) (i : Int) = some v := by
  induction d with
  | zero =>
    intro k i acc hi hk
    obtain ⟨k, rfl⟩ : ∃ m, k = m + 1 := ⟨k - 1, by omega⟩
    refine ⟨acc, ?_, ?_⟩
    · simp only [spec_TrtOthers.l0]; rw [if_neg (by omega)]
    · simp only [impl_TrtOthers.l0]; rw [if_neg (by omega)]
  | succ d ih =>
    intro k i acc hi hk
    obtain ⟨k, rfl⟩ : ∃ m, k = m + 1 := ⟨k - 1, by omega⟩
    simp only [spec_TrtOthers.l0, impl_TrtOthers.l0]
    have p1 : (i : Int) < (l.length : Int) := by omega
    have p2 : (0 : Int) ≤ (i : Int) := by omega
    have p3 : wrap64 ((i : Int) + 1) = ((i + 1 : Nat) : Int) := by rw [wrap_id (by omega) (by omega)]; omega
    simp only [p1, p2, p3, if_true]
    by_cases h : (i : Int) = s
    · simp only [if_pos h]; exact ih k (i + 1) acc (by omega) (by omega)
    · simp only [if_neg h]; exact ih k (i + 1) _ (by omega) (by omega)
theorem others_eq (C l : List Int) (s : Int) (k : Nat) (hk : l.length < k) (hl : l.length ≤ 1048576) : ∃ v, spec_TrtOthers.f k C l s = some v ∧ impl_TrtOthers.f k C l s = some v :=
  others_loop C l s hl l.length k 0 0 (by omega) hk

theorem len3 {l : List Int} (h : (l.length : Int) = 3) : ∃ a b c, l = [a, b, c] := by
  match l, h with
  | [a, b, c], _ => exact ⟨a, b, c, rfl⟩
  | [], h => simp at h
  | [_], h => simp at h
  | [_, _], h => simp at h
  | _ :: _ :: _ :: _ :: _, h => simp at h; omega
theorem len2 {l : List Int} (h : (l.length : Int) = 2) : ∃ a b, l = [a, b] := by
  match l, h with
  | [a, b], _ => exact ⟨a, b, rfl⟩
  | [], h => simp at h
  | [_], h => simp at h
  | _ :: _ :: _ :: _, h => simp at h; omega
theorem okB_len {l : List Int} {n m : Int} (h : okB l n m = true) : (l.length : Int) = n := (okB_iff.mp h).1
theorem frmB_len {C D : List Int} {K : Int} (h : frmB C D K = true) : (C.length : Int) = 3 ∧ (D.length : Int) = 2 := by
  unfold frmB at h
  simp only [Bool.and_eq_true] at h
  exact ⟨okB_len h.1, okB_len h.2.1⟩

theorem set_takeG {α : Type} (z : α) (l : List α) (i : Nat) (h : i < l.length) :
    (l.take i ++ List.replicate (l.length - i) z).set i l[i] = l.take (i + 1) ++ List.replicate (l.length - (i + 1)) z := by
  rw [List.set_append_right _ _ (by rw [List.length_take]; omega), List.length_take, Nat.min_eq_left (by omega), Nat.sub_self]
  obtain ⟨m, hm⟩ : ∃ m, l.length - i = m + 1 := ⟨l.length - i - 1, by omega⟩
  rw [hm, List.replicate_succ, List.set_cons_zero, show l.length - (i + 1) = m from by omega, List.take_succ_eq_append_getElem h, List.append_assoc]
  rfl
theorem getDG {α : Type} (z : α) (l : List α) (i : Nat) (h : i < l.length) : l.getD ((i : Int)).toNat z = l[i] := by
  rw [show ((i : Int)).toNat = i from by omega, List.getD_eq_getElem?_getD, List.getElem?_eq_getElem h]
  rfl

def trtB (B G : List Int) : Bool := okB B 3 10000 && (ibB (G.length : Int) 1 3 && G.all fun x => ibB x 0 50)

/-- So many times a form, or nothing. -/
def timesF (C D : List Int) (K n : Int) : List Int × List Int × Int :=
  if frmB C D K && ibB n (-10000000) 10000000 then
    (let x := C.map fun c => wrap64 (wrap64 (n * c)); let y := D.map fun c => wrap64 (wrap64 (n * c)); let z := wrap64 (wrap64 (n * K))
     if frmB x y z then (x, y, z) else ([], [], 0))
  else ([], [], 0)
theorem timesF_len (C D : List Int) (K n : Int) : (timesF C D K n).1.length ≤ 3 ∧ (timesF C D K n).2.1.length ≤ 2 := by
  unfold timesF
  split
  · rename_i h
    simp only [Bool.and_eq_true] at h
    obtain ⟨h1, h2⟩ := frmB_len h.1
    simp only
    split
    · simp only [List.length_map]; omega
    · simp
  · simp

def partsB (P : List (List Int)) : Bool := P.all fun p => okB p 3 10000000
theorem partsB_len {P : List (List Int)} (h : partsB P = true) : ∀ p ∈ P, p.length = 3 := fun p hp => by
  have := okB_len (List.all_eq_true.mp h p hp)
  omega

def preB (B G : List Int) (P : List (List Int)) (s : Int) (A : List Int) : Bool := trtB B G && (partsB P && (ibB s 0 (wrap64 ((G.length : Int) - 1)) && okB A 3 20000))
theorem preB_facts {B G : List Int} {P : List (List Int)} {s : Int} {A : List Int} (hG : G.length ≤ 1048576) (h : preB B G P s A = true) : (∀ p ∈ P, p.length = 3) ∧ 0 ≤ s ∧ s < (G.length : Int) ∧ A.length = 3 := by
  unfold preB at h
  simp only [Bool.and_eq_true] at h
  obtain ⟨_, h2, h3, h4⟩ := h
  obtain ⟨h5, h6⟩ := ibB_iff.mp h3
  have h7 := okB_len h4
  rw [wrap_id (by omega) (by omega)] at h6
  exact ⟨partsB_len h2, h5, by omega, by omega⟩

def smallB (C D : List Int) (K : Int) : Bool := okB C 3 2 && (okB D 2 2 && ibB K (-20) 20)
def lineB (a b c : Int) (C D : List Int) (K : Int) : Bool :=
  if a = 1 then decide (b = 0) && (ibB c 1 6 && smallB C D K)
  else if a = 2 then ibB b 0 2 && (decide (c = 0) && smallB C D K)
  else if a = 3 then decide (b = 0) && (decide (c = 0) && smallB C D K)
  else if a = 4 then decide (b = 0) && (decide (c = 0) && (decide (C = []) && (decide (D = []) && decide (K = 0))))
  else false

theorem idx_hit0 (q : Int → Bool) (x : Int) (xs : List Int) (h : q x = true) : idxOf q (x :: xs) = 0 := by
  unfold idxOf; rw [List.findIdx?_cons, if_pos h]; rfl
theorem idx_miss0 (q : Int → Bool) (x : Int) (xs : List Int) (h : q x = false) : (idxOf q xs = -1 ∧ idxOf q (x :: xs) = -1) ∨ (0 ≤ idxOf q xs ∧ idxOf q (x :: xs) = idxOf q xs + 1) := by
  unfold idxOf; rw [List.findIdx?_cons, if_neg (by rw [h]; decide)]
  cases hf : xs.findIdx? q with
  | none => exact .inl ⟨rfl, rfl⟩
  | some i => refine .inr ⟨by simp, ?_⟩; simp
def ngL (C : List Int) : List Int := C.map fun x => wrap64 (-x)
def catI (C : List Int) : List Int := if 0 ≤ idxOf (fun x : Int => x != 0) C ∧ rd C (idxOf (fun x : Int => x != 0) C) < 0 then C.map (fun x => wrap64 (-x)) else C
theorem catI_length (C : List Int) : (catI C).length = C.length := by unfold catI; split <;> simp
def catSgn (s x : Int) : Int := if s = 0 then (if x > 0 then 1 else if x < 0 then -1 else 0) else s
def catL : Int → List Int → List Int
  | _, [] => []
  | s, x :: xs => wrap64 (catSgn s x * x) :: catL (catSgn s x) xs
theorem catL_one : ∀ (C : List Int), (∀ x ∈ C, (Lit.int .i64 x).wf = true) → catL 1 C = C
  | [], _ => rfl
  | x :: xs, h => by
    have := bd64 (h x (List.mem_cons_self ..))
    simp only [catL, catSgn, show ¬ ((1 : Int) = 0) from by decide, if_false]
    rw [catL_one xs (fun y hy => h y (List.mem_cons_of_mem _ hy)), Int.one_mul, wrap_id this.1 this.2]
theorem catL_neg : ∀ (C : List Int), catL (-1) C = C.map fun x => wrap64 (-x)
  | [] => rfl
  | x :: xs => by
    simp only [catL, catSgn, show ¬ ((-1 : Int) = 0) from by decide, if_false, List.map_cons]
    rw [catL_neg xs, show (-1 : Int) * x = -x from by omega]
theorem catL_zero : ∀ (C : List Int), (∀ x ∈ C, (Lit.int .i64 x).wf = true) → catL 0 C = catI C
  | [], _ => by simp [catL, catI]
  | x :: xs, h => by
    have hb := bd64 (h x (List.mem_cons_self ..))
    have ht : ∀ y ∈ xs, (Lit.int .i64 y).wf = true := fun y hy => h y (List.mem_cons_of_mem _ hy)
    simp only [catL, catSgn, if_true]
    by_cases h1 : x > 0
    · rw [if_pos h1, catL_one xs ht, Int.one_mul, wrap_id hb.1 hb.2]
      unfold catI
      rw [idx_hit0 _ x xs (by simp; omega), if_neg (by rintro ⟨_, h2⟩; have : rd (x :: xs) 0 = x := rfl; omega)]
    · rw [if_neg h1]
      by_cases h2 : x < 0
      · rw [if_pos h2, catL_neg xs, show (-1 : Int) * x = -x from by omega]
        unfold catI
        rw [idx_hit0 _ x xs (by simp; omega), if_pos ⟨by omega, by have : rd (x :: xs) 0 = x := rfl; omega⟩]
        rfl
      · have h0 : x = 0 := by omega
        subst h0
        rw [if_neg h2, catL_zero xs ht, Int.zero_mul, wrap_id (by decide) (by decide)]
        unfold catI
        rcases idx_miss0 (fun x : Int => x != 0) 0 xs (by decide) with ⟨e1, e2⟩ | ⟨e1, e2⟩
        · rw [e1, e2, if_neg (by omega), if_neg (by omega)]
        · rw [e2, show rd (0 :: xs) (idxOf (fun x : Int => x != 0) xs + 1) = rd xs (idxOf (fun x : Int => x != 0) xs) from by
            unfold rd
            rw [show (idxOf (fun x : Int => x != 0) xs + 1).toNat = (idxOf (fun x : Int => x != 0) xs).toNat + 1 from by omega, List.getD_cons_succ]]
          by_cases h3 : rd xs (idxOf (fun x : Int => x != 0) xs) < 0
          · rw [if_pos ⟨e1, h3⟩, if_pos ⟨by omega, h3⟩, List.map_cons, show wrap64 (-0) = 0 from wrap_id (by decide) (by decide)]
          · rw [if_neg (fun hh => h3 hh.2), if_neg (fun hh => h3 hh.2)]

theorem bd8 {x : Int} (h : (Lit.int .u8 x).wf = true) : 0 ≤ x ∧ x ≤ 255 := bounds_u8 h
theorem rd8 (L : List Int) (hL : ∀ x ∈ L, (Lit.int .u8 x).wf = true) (i : Int) (h0 : 0 ≤ i) (h1 : i < (L.length : Int)) : 0 ≤ rd L i ∧ rd L i ≤ 255 := by
  obtain ⟨n, rfl⟩ := Int.eq_ofNat_of_zero_le h0
  have hn : n < L.length := by omega
  rw [getD_at L n hn]
  exact bd8 (hL _ (List.getElem_mem hn))
theorem xor_nonneg (x y : Int) (h0 : 0 ≤ x) (h1 : x < 4611686018427387904) (h2 : 0 ≤ y) (h3 : y < 4611686018427387904) : 0 ≤ Go.bits .xor .i64 x y := by
  obtain ⟨a, rfl⟩ := Int.eq_ofNat_of_zero_le h0
  obtain ⟨b, rfl⟩ := Int.eq_ofNat_of_zero_le h2
  have ha : a < 2 ^ 62 := by omega
  have hb : b < 2 ^ 62 := by omega
  have hx := Nat.xor_lt_two_pow ha hb
  have ha' : a % 2 ^ IntKind.i64.bits = a := Nat.mod_eq_of_lt (Nat.lt_of_lt_of_le ha (by decide))
  have hb' : b % 2 ^ IntKind.i64.bits = b := Nat.mod_eq_of_lt (Nat.lt_of_lt_of_le hb (by decide))
  simp only [Go.bits, BitVec.ofInt_natCast, BitVec.toNat_xor, BitVec.toNat_ofNat, ha', hb']
  rw [IntKind.wrap_i64]
  omega
theorem pick_eq (L : List Int) (hL : ∀ x ∈ L, (Lit.int .u8 x).wf = true) (hl : L.length ≤ 2000) (s n : Int) (k : Nat) (hk : 1 ≤ k) (h0 : 0 ≤ s) (h1 : s ≤ 1000000) (hn : 1 ≤ n) : ∃ v, spec_l20Rd_pick.f k L s n = some (v, s + 1) ∧ 0 ≤ v ∧ v < n := by
  obtain ⟨k, rfl⟩ : ∃ m, k = m + 1 := ⟨k - 1, by omega⟩
  have e1 : wrap64 (s + 1) = s + 1 := wrap_id (by omega) (by omega)
  have e2 : wrap64 (s + 1 - 1) = s := by rw [wrap_id (by omega) (by omega)]; omega
  unfold spec_l20Rd_pick.f
  rw [if_neg (by omega)]
  simp only [spec_l20Rd_pick.j0, e1, e2]
  by_cases hz : (L.length : Int) = 0
  · rw [if_pos (beq_iff_eq.mpr hz)]
    exact ⟨0, rfl, by omega, by omega⟩
  rw [if_neg (by rw [beq_eq_false_iff_ne.mpr hz]; decide)]
  have hp : 0 < (L.length : Int) := by omega
  by_cases hs : s < (L.length : Int)
  · have := rd8 L hL s h0 hs
    rw [if_pos hs, if_pos h0, if_neg (by omega), wrap_id (by omega) (by omega)]
    exact ⟨_, rfl, Int.tmod_nonneg _ this.1, Int.tmod_lt_of_pos _ (by omega)⟩
  · rw [if_neg hs, if_neg hz]
    have i1 : 0 ≤ Int.tmod s (L.length : Int) := Int.tmod_nonneg _ h0
    have i2 : Int.tmod s (L.length : Int) < (L.length : Int) := Int.tmod_lt_of_pos _ hp
    have e3 : wrap64 (wrap64 (s * 7) + 3) = s * 7 + 3 := by rw [wrap_id (x := s * 7) (by omega) (by omega), wrap_id (by omega) (by omega)]
    rw [e3]
    have j1 : 0 ≤ Int.tmod (s * 7 + 3) (L.length : Int) := Int.tmod_nonneg _ (by omega)
    have j2 : Int.tmod (s * 7 + 3) (L.length : Int) < (L.length : Int) := Int.tmod_lt_of_pos _ hp
    have ra := rd8 L hL _ i1 i2
    have rb := rd8 L hL _ j1 j2
    have q1 : 0 ≤ Int.tdiv s (L.length : Int) := Int.tdiv_nonneg h0 (by omega)
    have q2 : Int.tdiv s (L.length : Int) ≤ s := Int.tdiv_le_self _ h0
    rw [if_pos i1, if_pos i2, if_pos j1, if_pos j2, if_neg (by omega)]
    generalize rd L (Int.tmod s (L.length : Int)) = a at ra ⊢
    generalize rd L (Int.tmod (s * 7 + 3) (L.length : Int)) = b at rb ⊢
    generalize Int.tdiv s (L.length : Int) = q at q1 q2 ⊢
    have ex : wrap64 (wrap64 (wrap64 (wrap64 (wrap64 a * 131) + wrap64 (wrap64 b * 1117)) + wrap64 (s * 29)) + wrap64 (wrap64 q * 53)) = a * 131 + b * 1117 + s * 29 + q * 53 := by
      rw [wrap_id (x := a) (by omega) (by omega), wrap_id (x := b) (by omega) (by omega), wrap_id (x := q) (by omega) (by omega), wrap_id (x := a * 131) (by omega) (by omega), wrap_id (x := b * 1117) (by omega) (by omega), wrap_id (x := s * 29) (by omega) (by omega), wrap_id (x := q * 53) (by omega) (by omega),
        wrap_id (x := a * 131 + b * 1117) (by omega) (by omega), wrap_id (x := a * 131 + b * 1117 + s * 29) (by omega) (by omega), wrap_id (by omega) (by omega)]
    rw [ex]
    generalize hX : a * 131 + b * 1117 + s * 29 + q * 53 = X
    have x1 : 0 ≤ X := by omega
    have x2 : X ≤ 1000000000 := by omega
    have y1 : 0 ≤ Int.tdiv X 64 := Int.tdiv_nonneg x1 (by omega)
    have y2 : Int.tdiv X 64 ≤ X := Int.tdiv_le_self _ x1
    rw [wrap_id (x := Int.tdiv X 64) (by omega) (by omega)]
    exact ⟨_, rfl, Int.tmod_nonneg _ (xor_nonneg _ _ x1 (by omega) y1 (by omega)), Int.tmod_lt_of_pos _ (by omega)⟩

theorem open_eq (L : List Int) (hL : ∀ x ∈ L, (Lit.int .u8 x).wf = true) : ∃ M, spec_l20Open.f L = some (M, 0) ∧ (∀ x ∈ M, (Lit.int .u8 x).wf = true) ∧ M.length ≤ 2000 := by
  unfold spec_l20Open.f
  by_cases h : (L.length : Int) > 2000
  · rw [if_pos h, if_pos (by omega)]
    exact ⟨_, rfl, fun x hx => hL x (List.mem_of_mem_take hx), by rw [List.length_take]; omega⟩
  · rw [if_neg h]
    exact ⟨_, rfl, hL, by omega⟩

/-- Drawn numbers: few, and each small. -/
def smallL (l : List Int) (m : Nat) (b : Int) : Prop := l.length ≤ m ∧ ∀ x ∈ l, -b ≤ x ∧ x ≤ b
theorem rd_mem (l : List Int) (i : Int) (h0 : 0 ≤ i) (h1 : i < (l.length : Int)) : rd l i ∈ l := by
  obtain ⟨n, rfl⟩ := Int.eq_ofNat_of_zero_le h0
  have hn : n < l.length := by omega
  rw [getD_at l n hn]
  exact List.getElem_mem hn
theorem smallL.push {l : List Int} {m : Nat} {b x : Int} (h : smallL l m b) (h0 : -b ≤ x) (h1 : x ≤ b) : smallL (l ++ [x]) (m + 1) b :=
  ⟨by rw [List.length_append]; have := h.1; simp; omega, fun y hy => by rcases List.mem_append.mp hy with hy | hy; exact h.2 y hy; rw [List.mem_singleton.mp hy]; exact ⟨h0, h1⟩⟩
theorem smallL.set {l : List Int} {m : Nat} {b x : Int} {i : Nat} (h : smallL l m b) (h0 : -b ≤ x) (h1 : x ≤ b) : smallL (l.set i x) m b :=
  ⟨by rw [List.length_set]; exact h.1, fun y hy => by rcases List.mem_or_eq_of_mem_set hy with hy | rfl; exact h.2 y hy; exact ⟨h0, h1⟩⟩
theorem smallL.take {l : List Int} {m : Nat} {b : Int} {i : Nat} (h : smallL l m b) : smallL (l.take i) m b :=
  ⟨by rw [List.length_take]; have := h.1; omega, fun y hy => h.2 y (List.mem_of_mem_take hy)⟩
theorem smallL.mono {l : List Int} {m n : Nat} {b c : Int} (h : smallL l m b) (h1 : m ≤ n) (h2 : b ≤ c) : smallL l n c := ⟨Nat.le_trans h.1 h1, fun x hx => by have := h.2 x hx; omega⟩
theorem smallL.rd {l : List Int} {m : Nat} {b : Int} (h : smallL l m b) (i : Int) (h0 : 0 ≤ i) (h1 : i < (l.length : Int)) : -b ≤ rd l i ∧ rd l i ≤ b := h.2 _ (rd_mem l i h0 h1)
theorem vals_loop (L : List Int) (hL : ∀ x ∈ L, (Lit.int .u8 x).wf = true) (hl : L.length ≤ 2000) (n : Int) (hn : 1 ≤ n) (d : Nat) : ∀ (k i : Nat) (out : List Int) (s : Int), i + d = 3 → d + 5 < k → 0 ≤ s → s + d ≤ 900003 → out.length = i → smallL out 3 10001 →
    ∃ v s', spec_l20Vals.l0 k n out (i : Int) L s = some (v, s') ∧ s ≤ s' ∧ s' ≤ s + d + 4 ∧ smallL v 4 10001 := by
  induction d with
  | zero =>
    intro k i out s hi hk h0 h1 ho hs
    obtain ⟨k, rfl⟩ : ∃ m, k = m + 1 := ⟨k - 1, by omega⟩
    have hi3 : i = 3 := by omega
    subst hi3
    simp only [spec_l20Vals.l0]
    rw [if_neg (by omega)]
    obtain ⟨v1, e1, a1, b1⟩ := pick_eq L hL hl s n k (by omega) h0 (by omega) hn
    rw [e1]; simp only [Option.bind_some, if_true, bne_self_eq_false, Bool.false_eq_true, if_false]
    by_cases c1 : v1 = 0
    · rw [if_pos c1]
      obtain ⟨v2, e2, a2, b2⟩ := pick_eq L hL hl (s + 1) 3 k (by omega) (by omega) (by omega) (by omega)
      rw [e2]; simp only [Option.bind_some, if_true, bne_self_eq_false, Bool.false_eq_true, if_false]
      by_cases c2 : v2 = 0
      · rw [if_pos c2, if_pos (by omega)]
        exact ⟨_, _, rfl, by omega, by omega, hs.take.mono (by omega) (by omega)⟩
      · rw [if_neg c2]
        by_cases c3 : v2 = 1
        · rw [if_pos c3, if_pos (by omega)]
          exact ⟨_, _, rfl, by omega, by omega, hs.push (by omega) (by omega)⟩
        · rw [if_neg c3]
          obtain ⟨v3, e3, a3, b3⟩ := pick_eq L hL hl (s + 1 + 1) 3 k (by omega) (by omega) (by omega) (by omega)
          rw [e3]; simp only [Option.bind_some, if_true, bne_self_eq_false, Bool.false_eq_true, if_false]
          obtain ⟨v4, e4, a4, b4⟩ := pick_eq L hL hl (s + 1 + 1 + 1) 2 k (by omega) (by omega) (by omega) (by omega)
          rw [e4]; simp only [Option.bind_some, if_true, bne_self_eq_false, Bool.false_eq_true, if_false]
          have hq : smallL [10001, -10001] 2 10001 := ⟨by simp, by simp⟩
          have hq2 := hq.rd v4 a4 (by simpa using b4)
          rw [if_pos a4, if_pos (by simpa using b4), if_pos a3, if_pos (by omega)]
          exact ⟨_, _, rfl, by omega, by omega, (hs.set hq2.1 hq2.2).mono (by omega) (by omega)⟩
    · rw [if_neg c1]
      exact ⟨_, _, rfl, by omega, by omega, hs.mono (by omega) (by omega)⟩
  | succ d ih =>
    intro k i out s hi hk h0 h1 ho hs
    obtain ⟨k, rfl⟩ : ∃ m, k = m + 1 := ⟨k - 1, by omega⟩
    simp only [spec_l20Vals.l0]
    rw [if_pos (by omega)]; simp only [Option.bind_some, if_true, bne_self_eq_false, Bool.false_eq_true, if_false]
    obtain ⟨v1, e1, a1, b1⟩ := pick_eq L hL hl s 9 k (by omega) h0 (by omega) (by omega)
    rw [e1]; simp only [Option.bind_some, if_true, bne_self_eq_false, Bool.false_eq_true, if_false]
    have hq : smallL [0, 1, 5, 20, -3, 60, 10000, -10000, 9996] 9 10001 := ⟨by simp, by simp⟩
    have hq2 := hq.rd v1 a1 (by simpa using b1)
    rw [if_pos a1, if_pos (by simpa using b1), if_pos (by omega), show wrap64 ((i : Int) + 1) = ((i + 1 : Nat) : Int) from by rw [wrap_id (by omega) (by omega)]; omega]
    have hp : smallL (out ++ [rd [0, 1, 5, 20, -3, 60, 10000, -10000, 9996] v1]) 3 10001 := by
      have := hs.push hq2.1 hq2.2
      exact ⟨by simp; omega, this.2⟩
    obtain ⟨v, s', e, p, q, r⟩ := ih k (i + 1) _ (s + 1) (by omega) (by omega) (by omega) (by omega) (by simp; omega) hp
    exact ⟨v, s', e, by omega, by omega, r⟩
theorem vals_eq (L : List Int) (hL : ∀ x ∈ L, (Lit.int .u8 x).wf = true) (hl : L.length ≤ 2000) (s n : Int) (k : Nat) (hk : 9 ≤ k) (h0 : 0 ≤ s) (h1 : s ≤ 900000) (hn : 1 ≤ n) :
    ∃ v s', spec_l20Vals.f k L s n = some (v, s') ∧ s ≤ s' ∧ s' ≤ s + 7 ∧ smallL v 4 10001 := by
  unfold spec_l20Vals.f
  obtain ⟨v, s', e, p, q, r⟩ := vals_loop L hL hl n hn 3 k 0 [] s rfl (by omega) h0 (by omega) rfl ⟨by simp, by simp⟩
  exact ⟨v, s', e, p, by omega, r⟩

theorem treaty_loop (L : List Int) (hL : ∀ x ∈ L, (Lit.int .u8 x).wf = true) (hl : L.length ≤ 2000) (n : Int) (hn : 1 ≤ n) (B : List Int) (hB : smallL B 4 10001) (d : Nat) : ∀ (k m : Nat) (G : List Int) (s : Int), d + 12 < k → 0 ≤ s → s + d ≤ 800000 → d + m ≤ 3 → smallL G m 51 → (d = 0 → 0 < G.length) →
    ∃ B' G' s', spec_l20Treaty.l0 k n (d : Int) L s B G = some (B', G', s') ∧ s ≤ s' ∧ s' ≤ s + d + 20 ∧ smallL B' 4 10001 ∧ smallL G' 3 51 := by
  induction d with
  | zero =>
    intro k m G s hk h0 h1 hm hG hp
    have hp := hp rfl
    obtain ⟨k, rfl⟩ : ∃ m, k = m + 1 := ⟨k - 1, by omega⟩
    simp only [spec_l20Treaty.l0]
    rw [if_neg (by omega)]
    obtain ⟨v1, e1, a1, b1⟩ := pick_eq L hL hl s n k (by omega) h0 (by omega) hn
    rw [e1]; simp only [Option.bind_some, if_true, bne_self_eq_false, Bool.false_eq_true, if_false]
    by_cases c1 : v1 > 0
    · rw [if_pos c1]
      exact ⟨_, _, _, rfl, by omega, by omega, hB, hG.mono (by omega) (by omega)⟩
    · rw [if_neg c1]
      obtain ⟨v2, e2, a2, b2⟩ := pick_eq L hL hl (s + 1) 3 k (by omega) (by omega) (by omega) (by omega)
      rw [e2]; simp only [Option.bind_some, if_true, bne_self_eq_false, Bool.false_eq_true, if_false]
      by_cases c2 : v2 = 0
      · rw [if_pos c2]
        obtain ⟨v, s3, e3, a3, b3, h3⟩ := vals_eq L hL hl (s + 1 + 1) 1 k (by omega) (by omega) (by omega) (by omega)
        rw [e3]; simp only [Option.bind_some, if_true, bne_self_eq_false, Bool.false_eq_true, if_false]
        exact ⟨_, _, _, rfl, by omega, by omega, h3, hG.mono (by omega) (by omega)⟩
      · rw [if_neg c2]
        by_cases c3 : v2 = 1
        · rw [if_pos c3]
          exact ⟨_, _, _, rfl, by omega, by omega, hB, ⟨by simp, by simp⟩⟩
        · rw [if_neg c3]
          obtain ⟨v4, e4, a4, b4⟩ := pick_eq L hL hl (s + 1 + 1) 2 k (by omega) (by omega) (by omega) (by omega)
          rw [e4]; simp only [Option.bind_some, if_true, bne_self_eq_false, Bool.false_eq_true, if_false]
          have hq : smallL [-1, 51] 2 51 := ⟨by simp, by simp⟩
          have hq2 := hq.rd v4 a4 (by simpa using b4)
          rw [if_pos a4, if_pos (by simpa using b4), if_pos (by omega)]
          exact ⟨_, _, _, rfl, by omega, by omega, hB, (hG.set hq2.1 hq2.2).mono (by omega) (by omega)⟩
  | succ d ih =>
    intro k m G s hk h0 h1 hm hG hp
    obtain ⟨k, rfl⟩ : ∃ m, k = m + 1 := ⟨k - 1, by omega⟩
    simp only [spec_l20Treaty.l0]
    rw [if_pos (by omega)]; simp only [Option.bind_some, if_true, bne_self_eq_false, Bool.false_eq_true, if_false]
    obtain ⟨v1, e1, a1, b1⟩ := pick_eq L hL hl s 5 k (by omega) h0 (by omega) (by omega)
    rw [e1]; simp only [Option.bind_some, if_true, bne_self_eq_false, Bool.false_eq_true, if_false]
    have hq : smallL [0, 3, 10, 30, 50] 5 51 := ⟨by simp, by simp⟩
    have hq2 := hq.rd v1 a1 (by simpa using b1)
    have hg := hG.1
    rw [if_pos a1, if_pos (by simpa using b1), if_pos (by omega), show wrap64 (((d + 1 : Nat) : Int) - 1) = (d : Int) from by rw [wrap_id (by omega) (by omega)]; omega]
    obtain ⟨B', G', s', e, p, q, r, t⟩ := ih k (m + 1) _ (s + 1) (by omega) (by omega) (by omega) (by omega) (hG.push hq2.1 hq2.2) (fun _ => by simp)
    exact ⟨B', G', s', e, by omega, by omega, r, t⟩
theorem treaty_eq (L : List Int) (hL : ∀ x ∈ L, (Lit.int .u8 x).wf = true) (hl : L.length ≤ 2000) (s n : Int) (k : Nat) (hk : 20 ≤ k) (h0 : 0 ≤ s) (h1 : s ≤ 700000) (hn : 1 ≤ n) :
    ∃ B G s', spec_l20Treaty.f k L s n = some (B, G, s') ∧ s ≤ s' ∧ s' ≤ s + 40 ∧ smallL B 4 10001 ∧ smallL G 3 51 := by
  unfold spec_l20Treaty.f
  obtain ⟨v, s1, e1, a1, b1, hv⟩ := vals_eq L hL hl s 99 k (by omega) h0 (by omega) (by omega)
  rw [e1]; simp only [Option.bind_some, if_true, bne_self_eq_false, Bool.false_eq_true, if_false]
  obtain ⟨u, e2, a2, b2⟩ := pick_eq L hL hl s1 3 k (by omega) (by omega) (by omega) (by omega)
  rw [e2]; simp only [Option.bind_some, if_true, bne_self_eq_false, Bool.false_eq_true, if_false]
  obtain ⟨d, hd⟩ : ∃ d : Nat, wrap64 (1 + u) = (d : Int) := ⟨(1 + u).toNat, by rw [wrap_id (by omega) (by omega)]; omega⟩
  have hd2 : (d : Int) = 1 + u := by rw [← hd, wrap_id (by omega) (by omega)]
  rw [hd]
  obtain ⟨B', G', s', e, p, q, r, t⟩ := treaty_loop L hL hl n hn v hv d k 0 [] (s1 + 1) (by omega) (by omega) (by omega) (by omega) ⟨by simp, by simp⟩ (fun h => by omega)
  exact ⟨B', G', s', e, by omega, by omega, r, t⟩

/-- The sum of all but one, from a place on. -/
def restS (s : Int) : Int → List Int → Int
  | _, [] => 0
  | i, x :: xs => (if i = s then 0 else x) + restS s (i + 1) xs
theorem restS_none (s : Int) : ∀ (l : List Int) (i : Int), (s < i ∨ i + l.length ≤ s) → restS s i l = l.foldr (· + ·) 0
  | [], _, _ => rfl
  | x :: xs, i, h => by
    simp only [List.length_cons] at h
    simp only [restS, List.foldr_cons]
    rw [if_neg (by omega), restS_none s xs (i + 1) (by omega)]
theorem restS_one (s : Int) : ∀ (l : List Int) (i : Int) (n : Nat), s = i + n → (h : n < l.length) → restS s i l + l[n] = l.foldr (· + ·) 0
  | [], _, _, _, h => by simp at h
  | x :: xs, i, 0, e, _ => by
    have e' : i = s := by omega
    simp only [restS, List.foldr_cons, List.getElem_cons_zero]
    rw [if_pos e', restS_none s xs (i + 1) (by omega)]
    omega
  | x :: xs, i, n + 1, e, h => by
    simp only [restS, List.foldr_cons, List.getElem_cons_succ]
    rw [if_neg (by omega)]
    have := restS_one s xs (i + 1) n (by omega) (by simpa using h)
    omega
theorem sum_small (l : List Int) (h : ∀ x ∈ l, -51 ≤ x ∧ x ≤ 51) : -51 * (l.length : Int) ≤ l.foldr (· + ·) 0 ∧ l.foldr (· + ·) 0 ≤ 51 * (l.length : Int) := by
  induction l with
  | nil => simp
  | cons x xs ih =>
    have h1 := h x (List.mem_cons_self ..)
    have h2 := ih (fun y hy => h y (List.mem_cons_of_mem _ hy))
    simp only [List.length_cons, List.foldr_cons]
    omega
theorem others_rest (B G : List Int) (s : Int) (hG : smallL G 3 51) (d : Nat) : ∀ (k i : Nat) (a : Int), i + d = G.length → d < k → -1000 + 51 * d ≤ a → a ≤ 1000 - 51 * d → impl_TrtOthers.l0 k s a G (G.length : Int) (i : Int) = some (a + restS s (i : Int) (G.drop i)) := by
  have hg := hG.1
  induction d with
  | zero =>
    intro k i a hi hk h0 h1
    obtain ⟨k, rfl⟩ : ∃ m, k = m + 1 := ⟨k - 1, by omega⟩
    simp only [impl_TrtOthers.l0]
    rw [if_neg (by omega), List.drop_of_length_le (by omega)]
    simp [restS]
  | succ d ih =>
    intro k i a hi hk h0 h1
    obtain ⟨k, rfl⟩ : ∃ m, k = m + 1 := ⟨k - 1, by omega⟩
    have hlt : i < G.length := by omega
    have hx := hG.2 _ (List.getElem_mem hlt)
    simp only [impl_TrtOthers.l0]
    rw [if_pos (by omega), if_pos (by omega), if_pos (by omega), getD_at G i hlt, show wrap64 ((i : Int) + 1) = ((i + 1 : Nat) : Int) from by rw [wrap_id (by omega) (by omega)]; omega, List.drop_eq_getElem_cons hlt]
    simp only [restS]
    by_cases hs : (i : Int) = s
    · rw [if_pos hs, if_pos hs, ih k (i + 1) a (by omega) (by omega) (by omega) (by omega), show ((i + 1 : Nat) : Int) = (i : Int) + 1 from by omega]
      congr 1; omega
    · rw [if_neg hs, if_neg hs, wrap_id (by omega) (by omega), ih k (i + 1) _ (by omega) (by omega) (by omega) (by omega), show ((i + 1 : Nat) : Int) = (i : Int) + 1 from by omega]
      congr 1; omega
theorem others_rest0 (B G : List Int) (s : Int) (hG : smallL G 3 51) (k : Nat) (hk : 10 ≤ k) : impl_TrtOthers.f k B G s = some (restS s 0 G) := by
  have hg := hG.1
  unfold impl_TrtOthers.f
  have := others_rest B G s hG G.length k 0 0 (by omega) (by omega) (by omega) (by omega)
  simpa using this
theorem last_eq (k : Nat) (hk : 10 ≤ k) : impl_TrtOthers.f k [] [2, 3] 0 = some 3 := by
  rw [others_rest0 [] [2, 3] 0 ⟨by simp, by simp⟩ k hk]; rfl
theorem law_loop (B G : List Int) (s n all : Int) (hG : smallL G 3 51) (ha : all = G.foldr (· + ·) 0) (hn : n = restS s 0 G) (d : Nat) : ∀ (k i : Nat), i + d = G.length → d + 12 < k → laws_FnTrtOthers.l0 k s n all (i : Int) B G = some true := by
  have hg := hG.1
  induction d with
  | zero =>
    intro k i hi hk
    obtain ⟨k, rfl⟩ : ∃ m, k = m + 1 := ⟨k - 1, by omega⟩
    simp only [laws_FnTrtOthers.l0]
    rw [if_neg (by omega), last_eq k (by omega)]; simp only [Option.bind_some, if_true, bne_self_eq_false, Bool.false_eq_true, if_false]
    by_cases h1 : s ≥ 0
    · rw [if_pos h1]
      by_cases h2 : s < (G.length : Int)
      · rw [if_pos h2]; rfl
      · rw [if_neg h2, if_pos (by rw [hn, ha, restS_none s G 0 (by omega)])]; rfl
    · rw [if_neg h1, if_pos (by rw [hn, ha, restS_none s G 0 (by omega)])]; rfl
  | succ d ih =>
    intro k i hi hk
    obtain ⟨k, rfl⟩ : ∃ m, k = m + 1 := ⟨k - 1, by omega⟩
    have hlt : i < G.length := by omega
    simp only [laws_FnTrtOthers.l0]
    have hs := sum_small G hG.2
    rw [if_pos (by omega), others_rest0 B G i hG k (by omega)]; simp only [Option.bind_some, if_true, bne_self_eq_false, Bool.false_eq_true, if_false]
    rw [if_pos (by omega), getD_at G i hlt, restS_one i G 0 i (by omega) hlt, wrap_id (by omega) (by omega), if_pos ha.symm, show wrap64 ((i : Int) + 1) = ((i + 1 : Nat) : Int) from by rw [wrap_id (by omega) (by omega)]; omega]
    exact ih k (i + 1) (by omega) (by omega)
theorem FnTrtOthers : laws_FnTrtOthers.Pure := by
  intro L hL
  refine ⟨100, ?_⟩
  unfold laws_FnTrtOthers.f
  by_cases h1 : (L.length : Int) > 1048576
  · rw [if_pos h1]
  rw [if_neg h1]
  unfold spec_DrawTrtOthers.f
  obtain ⟨M, e1, hM, hl⟩ := open_eq L hL.2
  rw [e1]; simp only [Option.bind_some, if_true, bne_self_eq_false, Bool.false_eq_true, if_false]
  obtain ⟨B, G, s1, e2, a2, b2, hB, hG⟩ := treaty_eq M hM hl 0 8 100 (by omega) (by omega) (by omega) (by omega)
  rw [e2]; simp only [Option.bind_some, if_true, bne_self_eq_false, Bool.false_eq_true, if_false]
  obtain ⟨u, e3, a3, b3⟩ := pick_eq M hM hl s1 5 100 (by omega) (by omega) (by omega) (by omega)
  rw [e3]; simp only [Option.bind_some, if_true, bne_self_eq_false, Bool.false_eq_true, if_false]
  have hg := hG.1
  obtain ⟨v, hv1, hv2⟩ := others_eq B G (wrap64 (u - 1)) 100 (by omega) (by omega)
  rw [hv1, hv2]; simp only [Option.bind_some, if_true, bne_self_eq_false, Bool.false_eq_true, if_false]
  have hv : v = restS (wrap64 (u - 1)) 0 G := by
    have := others_rest0 B G (wrap64 (u - 1)) hG 100 (by omega)
    rw [hv2] at this
    exact Option.some.inj this
  rw [others_rest0 B G (-1) hG 100 (by omega)]; simp only [Option.bind_some, if_true, bne_self_eq_false, Bool.false_eq_true, if_false]
  exact law_loop B G _ v _ hG (restS_none (-1) G 0 (by omega)) hv G.length 100 0 (by omega) (by omega)

end Go.Proofs.Ytjfjfdcmliaigaa.Pure
