/- The plain law FnResText: what the printed functions compute answers as the statement says. -/
import Derived.Test.YtcafmfmlnfaogaaDoorQFnResTextx9
import Derived.OpenShut
set_option linter.unusedVariables false
set_option linter.unusedSimpArgs false
namespace Go.Proofs.YtcafmfmlnfaogaaDoor.Pure
open Go.RowKit Go.Proofs.YtcafmfmlnfaogaaDoor.QFnResText Go.Proofs.YtcafmfmlnfaogaaDoorW.PrintWords Go.Proofs.YtcafmfmlnfaogaaDoorW.PrintLast Go.Proofs.YtcafmfmlnfaogaaDoor.HWords

theorem bd64 {x : Int} (h : (Lit.int .i64 x).wf = true) : -9223372036854775808 ≤ x ∧ x ≤ 9223372036854775807 := bounds_i64 h
theorem wrap_id {x : Int} (h0 : -9223372036854775808 ≤ x) (h1 : x ≤ 9223372036854775807) : wrap64 x = x := by unfold wrap64; omega
theorem wrap_l (x y : Int) : wrap64 (wrap64 x + y) = wrap64 (x + y) := by unfold wrap64; omega
theorem wrap_r (x y : Int) : wrap64 (x + wrap64 y) = wrap64 (x + y) := by unfold wrap64; omega
theorem wrap_ll (x y z : Int) : wrap64 (wrap64 x + y + z) = wrap64 (x + y + z) := by unfold wrap64; omega
theorem wrap_lr (x y z : Int) : wrap64 (x + wrap64 y + z) = wrap64 (x + y + z) := by unfold wrap64; omega
theorem getD_at (l : List Int) (i : Nat) (h : i < l.length) : rd l (i : Int) = l[i] := by
 unfold rd
 rw [show ((i : Int)).toNat = i from by omega, List.getD_eq_getElem?_getD, List.getElem?_eq_getElem h]
 rfl
/-- The plain 'within bounds'. -/
def ibB (n lo hi : Int) : Bool := decide (lo ≤ n) && decide (n ≤ hi)
/-- As many as must be, each within a bound. -/
def okB (l : List Int) (n m : Int) : Bool := decide ((l.length : Int) = n) && l.all (fun x => ibB x (wrap64 (-m)) m)
theorem ibB_iff {n lo hi : Int} : ibB n lo hi = true ↔ lo ≤ n ∧ n ≤ hi := by unfold ibB; simp
theorem okB_iff {l : List Int} {n m : Int} : okB l n m = true ↔ (l.length : Int) = n ∧ ∀ x ∈ l, wrap64 (-m) ≤ x ∧ x ≤ m := by
 unfold okB ibB; simp

theorem l1In_eq (n lo hi : Int) : spec_l1In.f n lo hi = some (ibB n lo hi) := by
 unfold spec_l1In.f ibB
 by_cases h : n ≥ lo
 ·rw [if_pos h]; simp [h]
 ·rw [if_neg h]; simp [h]

theorem in_eq (n lo hi : Int) : impl_in.f n lo hi = some (ibB n lo hi) := by
 unfold impl_in.f ibB
 by_cases h : n ≥ lo
 ·rw [if_pos h]; simp [h]
 ·rw [if_neg h]; simp [h]

theorem within_eq (l : List Int) (n m : Int) : impl_within.f l n m = some (okB l n m) := by
 unfold impl_within.f okB
 rw [List.all_eq_not_any_not]
 rfl

theorem all_loop (l : List Int) (m : Int) (hl : l.length ≤ 1048576) (d : Nat) : ∀ (k i : Nat), i + d = l.length → d < k → spec_l1All.l0 k l m (i : Int) = some ((l.drop i).all fun x => ibB x (wrap64 (-m)) m) := by
 induction d with
 | zero =>
  intro k i hi hk
  obtain ⟨k, rfl⟩ : ∃ m, k = m + 1 := ⟨k - 1, by omega⟩
  simp only [spec_l1All.l0]
  rw [if_neg (by omega), List.drop_of_length_le (by omega)]
  rfl
 | succ d ih =>
  intro k i hi hk
  obtain ⟨k, rfl⟩ : ∃ m, k = m + 1 := ⟨k - 1, by omega⟩
  have hlt : i < l.length := by omega
  simp only [spec_l1All.l0]
  rw [if_pos (by omega), if_pos (by omega), l1In_eq, getD_at l i hlt, List.drop_eq_getElem_cons hlt, List.all_cons]
  simp only [Option.bind_some, if_true, bne_self_eq_false, Bool.false_eq_true, if_false]
  cases ibB l[i] (wrap64 (-m)) m with
  | false => rfl
  | true =>
   rw [if_pos rfl, wrap_id (by omega) (by omega), show (i : Int) + 1 = ((i + 1 : Nat) : Int) from by omega, ih k (i + 1) (by omega) (by omega)]
   rfl
theorem l1All_eq (l : List Int) (n m : Int) (k : Nat) (hk : l.length < k) (hl : l.length ≤ 1048576) : spec_l1All.f k l n m = some (okB l n m) := by
 unfold spec_l1All.f okB
 by_cases h : (l.length : Int) = n
 ·rw [if_pos h, decide_eq_true h, Bool.true_and]
  have := all_loop l m hl l.length k 0 (by omega) hk
  simpa using this
 ·rw [if_neg h, decide_eq_false h, Bool.false_and]

theorem bd8 {x : Int} (h : (Lit.int .u8 x).wf = true) : 0 ≤ x ∧ x ≤ 255 := bounds_u8 h
theorem rd8 (L : List Int) (hL : ∀ x ∈ L, (Lit.int .u8 x).wf = true) (i : Int) (h0 : 0 ≤ i) (h1 : i < (L.length : Int)) : 0 ≤ rd L i ∧ rd L i ≤ 255 := by
 obtain ⟨n, rfl⟩ := Int.eq_ofNat_of_zero_le h0
 have hn : n < L.length := by omega
 rw [getD_at L n hn]
 exact bd8 (hL _ (List.getElem_mem hn))
theorem xor_nonneg (x y : Int) (h0 : 0 ≤ x) (h1 : x < 4611686018427387904) (h2 : 0 ≤ y) (h3 : y < 4611686018427387904) : 0 ≤ Go.bits .xor .i64 x y := by
 obtain ⟨a, rfl⟩ := Int.eq_ofNat_of_zero_le h0
 obtain ⟨b, rfl⟩ := Int.eq_ofNat_of_zero_le h2
 have ha : a < 2 ^ 62 := by omega
 have hb : b < 2 ^ 62 := by omega
 have hx := Nat.xor_lt_two_pow ha hb
 have ha' : a % 2 ^ IntKind.i64.bits = a := Nat.mod_eq_of_lt (Nat.lt_of_lt_of_le ha (by decide))
 have hb' : b % 2 ^ IntKind.i64.bits = b := Nat.mod_eq_of_lt (Nat.lt_of_lt_of_le hb (by decide))
 simp only [Go.bits, BitVec.ofInt_natCast, BitVec.toNat_xor, BitVec.toNat_ofNat, ha', hb']
 rw [IntKind.wrap_i64]
 omega
theorem pick_eq (L : List Int) (hL : ∀ x ∈ L, (Lit.int .u8 x).wf = true) (hl : L.length ≤ 2000) (s n : Int) (k : Nat) (hk : 1 ≤ k) (h0 : 0 ≤ s) (h1 : s ≤ 1000000) (hn : 1 ≤ n) : ∃ v, spec_l20Rd_pick.f k L s n = some (v, s + 1) ∧ 0 ≤ v ∧ v < n := by
 obtain ⟨k, rfl⟩ : ∃ m, k = m + 1 := ⟨k - 1, by omega⟩
 have e1 : wrap64 (s + 1) = s + 1 := wrap_id (by omega) (by omega)
 have e2 : wrap64 (s + 1 - 1) = s := by rw [wrap_id (by omega) (by omega)]; omega
 unfold spec_l20Rd_pick.f
 rw [if_neg (by omega)]
 simp only [spec_l20Rd_pick.j0, e1, e2]
 by_cases hz : (L.length : Int) = 0
 ·rw [if_pos (beq_iff_eq.mpr hz)]
  exact ⟨0, rfl, by omega, by omega⟩
 rw [if_neg (by rw [beq_eq_false_iff_ne.mpr hz]; decide)]
 have hp : 0 < (L.length : Int) := by omega
 by_cases hs : s < (L.length : Int)
 ·have := rd8 L hL s h0 hs
  rw [if_pos hs, if_pos h0, if_neg (by omega), wrap_id (by omega) (by omega)]
  exact ⟨_, rfl, Int.tmod_nonneg _ this.1, Int.tmod_lt_of_pos _ (by omega)⟩
 ·rw [if_neg hs, if_neg hz]
  have i1 : 0 ≤ Int.tmod s (L.length : Int) := Int.tmod_nonneg _ h0
  have i2 : Int.tmod s (L.length : Int) < (L.length : Int) := Int.tmod_lt_of_pos _ hp
  have e3 : wrap64 (wrap64 (s * 7) + 3) = s * 7 + 3 := by rw [wrap_id (x := s * 7) (by omega) (by omega), wrap_id (by omega) (by omega)]
  rw [e3]
  have j1 : 0 ≤ Int.tmod (s * 7 + 3) (L.length : Int) := Int.tmod_nonneg _ (by omega)
  have j2 : Int.tmod (s * 7 + 3) (L.length : Int) < (L.length : Int) := Int.tmod_lt_of_pos _ hp
  have ra := rd8 L hL _ i1 i2
  have rb := rd8 L hL _ j1 j2
  have q1 : 0 ≤ Int.tdiv s (L.length : Int) := Int.tdiv_nonneg h0 (by omega)
  have q2 : Int.tdiv s (L.length : Int) ≤ s := Int.tdiv_le_self _ h0
  rw [if_pos i1, if_pos i2, if_pos j1, if_pos j2, if_neg (by omega)]
  generalize rd L (Int.tmod s (L.length : Int)) = a at ra ⊢
  generalize rd L (Int.tmod (s * 7 + 3) (L.length : Int)) = b at rb ⊢
  generalize Int.tdiv s (L.length : Int) = q at q1 q2 ⊢
  have ex : wrap64 (wrap64 (wrap64 (wrap64 (wrap64 a * 131) + wrap64 (wrap64 b * 1117)) + wrap64 (s * 29)) + wrap64 (wrap64 q * 53)) = a * 131 + b * 1117 + s * 29 + q * 53 := by
   rw [wrap_id (x := a) (by omega) (by omega), wrap_id (x := b) (by omega) (by omega), wrap_id (x := q) (by omega) (by omega), wrap_id (x := a * 131) (by omega) (by omega), wrap_id (x := b * 1117) (by omega) (by omega), wrap_id (x := s * 29) (by omega) (by omega), wrap_id (x := q * 53) (by omega) (by omega),
    wrap_id (x := a * 131 + b * 1117) (by omega) (by omega), wrap_id (x := a * 131 + b * 1117 + s * 29) (by omega) (by omega), wrap_id (by omega) (by omega)]
  rw [ex]
  generalize hX : a * 131 + b * 1117 + s * 29 + q * 53 = X
  have x1 : 0 ≤ X := by omega
  have x2 : X ≤ 1000000000 := by omega
  have y1 : 0 ≤ Int.tdiv X 64 := Int.tdiv_nonneg x1 (by omega)
  have y2 : Int.tdiv X 64 ≤ X := Int.tdiv_le_self _ x1
  rw [wrap_id (x := Int.tdiv X 64) (by omega) (by omega)]
  exact ⟨_, rfl, Int.tmod_nonneg _ (xor_nonneg _ _ x1 (by omega) y1 (by omega)), Int.tmod_lt_of_pos _ (by omega)⟩

theorem open_eq (L : List Int) (hL : ∀ x ∈ L, (Lit.int .u8 x).wf = true) : ∃ M, spec_l20Open.f L = some (M, 0) ∧ (∀ x ∈ M, (Lit.int .u8 x).wf = true) ∧ M.length ≤ 2000 := by
 unfold spec_l20Open.f
 by_cases h : (L.length : Int) > 2000
 ·rw [if_pos h, if_pos (by omega)]
  exact ⟨_, rfl, fun x hx => hL x (List.mem_of_mem_take hx), by rw [List.length_take]; omega⟩
 ·rw [if_neg h]
  exact ⟨_, rfl, hL, by omega⟩

theorem co_loop (x y : List Int) (hl : x.length = y.length) (hm : x.length ≤ 1048576) (d : Nat) : ∀ (k i : Nat), i + d = x.length → d < k → (x.take i = y.take i) → laws_coInts.l0 k x y (i : Int) = some (decide (x = y)) := by
 induction d with
 | zero =>
  intro k i hi hk he
  obtain ⟨k, rfl⟩ : ∃ m, k = m + 1 := ⟨k - 1, by omega⟩
  simp only [laws_coInts.l0]
  rw [if_neg (by omega)]
  rw [List.take_of_length_le (by omega), List.take_of_length_le (by omega)] at he
  rw [decide_eq_true he]
 | succ d ih =>
  intro k i hi hk he
  obtain ⟨k, rfl⟩ : ∃ m, k = m + 1 := ⟨k - 1, by omega⟩
  have h1 : i < x.length := by omega
  have h2 : i < y.length := by omega
  simp only [laws_coInts.l0]
  rw [if_pos (by omega), if_pos (by omega), if_pos (by omega), getD_at x i h1, getD_at y i h2]
  by_cases hq : x[i] = y[i]
  ·rw [if_pos hq, show wrap64 ((i : Int) + 1) = ((i + 1 : Nat) : Int) from by rw [wrap_id (by omega) (by omega)]; omega]
   exact ih k (i + 1) (by omega) (by omega) (by rw [List.take_succ_eq_append_getElem h1, List.take_succ_eq_append_getElem h2, he, hq])
  ·rw [if_neg hq, decide_eq_false (fun e => hq (by subst e; rfl))]
theorem co_eq (x y : List Int) (k : Nat) (hk : x.length < k) (hm : x.length ≤ 1048576) : laws_coInts.f k x y = some (decide (x = y)) := by
 unfold laws_coInts.f
 by_cases h : x.length = y.length
 ·rw [if_pos (by omega)]
  exact co_loop x y h hm x.length k 0 (by omega) hk rfl
 ·rw [if_neg (by omega), decide_eq_false (fun e => h (by rw [e]))]

theorem byte_one (x : Nat) (h : x < 256) : strOfNums [wrap64 (x : Int) % 256] = ⟨#[UInt8.ofNat x]⟩ := by
 rw [wrap_id (by omega) (by omega)]
 have e : ((x : Int) % 256) = (x : Int) := by omega
 rw [e]
 simp [strOfNums]
theorem dig_loop (d : Nat) : ∀ (u : Nat) (acc : List UInt8) (k : Nat), u < 10 ^ (d + 1) → u < 9223372036854775807 → acc.length + d ≤ 1000 → d < k →
  spec_l1Digits.l0 k (u : Int) ⟨acc.toArray⟩ = some ⟨(Go.Lib.decDigits u ++ acc).toArray⟩ := by
 induction d with
 | zero =>
  intro u acc k hu hu2 ha hk
  obtain ⟨k, rfl⟩ : ∃ m, k = m + 1 := ⟨k - 1, by omega⟩
  have h10 : u < 10 := by simpa using hu
  simp only [spec_l1Digits.l0]
  rw [if_neg (by omega), show (48 : Int) + (u : Int) = ((48 + u : Nat) : Int) by omega]
  simp only [Option.bind_some]
  rw [byte_one _ (by omega), if_pos (by simp [ByteArray.size]; omega), Go.Lib.decDigits, dif_pos h10]
  congr 1
 | succ d ih =>
  intro u acc k hu hu2 ha hk
  obtain ⟨k, rfl⟩ : ∃ m, k = m + 1 := ⟨k - 1, by omega⟩
  by_cases h10 : u < 10
  ·simp only [spec_l1Digits.l0]
   rw [if_neg (by omega), show (48 : Int) + (u : Int) = ((48 + u : Nat) : Int) by omega]
   simp only [Option.bind_some]
   rw [byte_one _ (by omega), if_pos (by simp [ByteArray.size]; omega), Go.Lib.decDigits, dif_pos h10]
   congr 1
  ·simp only [spec_l1Digits.l0]
   have e1 : Int.tmod (u : Int) 10 = ((u % 10 : Nat) : Int) := by rw [Int.tmod_eq_emod_of_nonneg (by omega)]; omega
   have e2 : Int.tdiv (u : Int) 10 = ((u / 10 : Nat) : Int) := by rw [Int.tdiv_eq_ediv_of_nonneg (by omega)]; omega
   rw [if_pos (by omega), e1, e2, show (48 : Int) + ((u % 10 : Nat) : Int) = ((48 + u % 10 : Nat) : Int) by omega]
   simp only [Option.bind_some]
   rw [byte_one _ (by omega), if_pos (by simp [ByteArray.size]; omega), wrap_id (by omega) (by omega)]
   have e3 : (⟨#[UInt8.ofNat (48 + u % 10)]⟩ : ByteArray) ++ ⟨acc.toArray⟩ = ⟨(UInt8.ofNat (48 + u % 10) :: acc).toArray⟩ := by
    apply ByteArray.ext
    simp
   rw [e3, ih (u / 10) _ k (by rw [Nat.pow_succ] at hu; exact Nat.div_lt_of_lt_mul (by omega)) (by omega) (by simp; omega) (by omega)]
   rw [Go.Lib.decDigits.eq_1 u, dif_neg h10]
   simp
theorem digits_eq (n : Int) (h0 : -999999999999 ≤ n) (h1 : n ≤ 999999999999) (k : Nat) (hk : 20 < k) : spec_l1Digits.f k n = some ⟨(Go.Lib.itoa n).toArray⟩ := by
 obtain ⟨k, rfl⟩ : ∃ m, k = m + 2 := ⟨k - 2, by omega⟩
 have key : ∀ (u : Nat) (k : Nat), u ≤ 999999999999 → 15 < k → spec_l1Digits.f (k + 1) (u : Int) = some ⟨(Go.Lib.decDigits u).toArray⟩ := by
  intro u k hu hk
  simp only [spec_l1Digits.f]
  rw [if_neg (by omega)]
  have := dig_loop 12 u [] k (by omega) (by omega) (by simp) (by omega)
  simpa using this
 unfold Go.Lib.itoa
 by_cases hn : n < 0
 ·rw [if_pos hn]
  simp only [spec_l1Digits.f]
  rw [if_pos hn, wrap_id (by omega) (by omega), show -n = ((n.natAbs : Nat) : Int) by omega]
  have := key n.natAbs k (by omega) (by omega)
  simp only [spec_l1Digits.f] at this
  rw [this]
  simp only [Option.bind_some]
  have hl := Go.Lib.itoa_length_le (n.natAbs : Int) (by omega) (by omega)
  unfold Go.Lib.itoa at hl
  rw [if_neg (by omega), show ((n.natAbs : Nat) : Int).toNat = n.natAbs by omega] at hl
  rw [if_pos (by simp [ByteArray.size]; omega)]
  congr 1
 ·rw [if_neg hn]
  have := key n.toNat (k + 1) (by omega) (by omega)
  rw [show ((n.toNat : Nat) : Int) = n by omega] at this
  exact this

def wordL (c : Int) : List UInt8 := if c = 1 then [100, 111, 110, 101] else if c = 2 then [115, 116, 111, 112, 112, 101, 100] else [111, 118, 101, 114]
def words4 : List ByteArray := [(⟨#[]⟩ : ByteArray), (⟨#[100, 111, 110, 101]⟩ : ByteArray), (⟨#[115, 116, 111, 112, 112, 101, 100]⟩ : ByteArray), (⟨#[111, 118, 101, 114]⟩ : ByteArray)]
theorem word_at (c : Int) (h0 : 1 ≤ c) (h1 : c ≤ 3) : rdOf ByteArray.empty words4 c = ⟨(wordL c).toArray⟩ := by
 obtain rfl | rfl | rfl : c = 1 ∨ c = 2 ∨ c = 3 := by omega
 all_goals rfl
theorem joinedL_cons (a : Int) (l : List Int) : joinedL (a :: l) = (32 :: Go.Lib.itoa a) ++ joinedL l := by simp [joinedL]
theorem word_len (c : Int) : (wordL c).length ≤ 7 := by unfold wordL; split <;> (try split) <;> simp
/-- What may have come of an act. -/
def resB (c : Int) (l : List Int) : Bool := ibB c 1 3 && ((decide (c = 1) || decide (l.length = 0)) && (decide (l.length ≤ 6) && okB l l.length 999999999999))
/-- Its text. -/
def resT (c : Int) (l : List Int) : ByteArray := if resB c l = true then ⟨(wordL c ++ joinedL l).toArray⟩ else ⟨#[]⟩
theorem resB_of {c : Int} {l : List Int} (h : resB c l = true) : 1 ≤ c ∧ c ≤ 3 ∧ l.length ≤ 6 ∧ ∀ x ∈ l, -999999999999 ≤ x ∧ x ≤ 999999999999 := by
 unfold resB at h
 simp only [Bool.and_eq_true, ibB_iff, decide_eq_true_eq, okB_iff] at h
 exact ⟨h.1.1, h.1.2, h.2.2.1, fun x hx => by have := h.2.2.2.2 x hx; rw [wrap_id (x := -999999999999) (by omega) (by omega)] at this; exact this⟩
theorem res_loop (l : List Int) (hl : l.length ≤ 6) (hx : ∀ x ∈ l, -999999999999 ≤ x ∧ x ≤ 999999999999) (c : Int) (d : Nat) : ∀ (k i : Nat) (acc : List UInt8), i + d = l.length → d + 21 < k → acc.length + 22 * d ≤ 1000 →
  spec_ResText.l0 k ⟨acc.toArray⟩ (i : Int) c l = some ⟨(acc ++ joinedL (l.drop i)).toArray⟩ := by
 induction d with
 | zero =>
  intro k i acc hi hk ha
  obtain ⟨k, rfl⟩ : ∃ m, k = m + 1 := ⟨k - 1, by omega⟩
  simp only [spec_ResText.l0]
  rw [if_neg (by omega), List.drop_of_length_le (by omega)]
  simp [joinedL]
 | succ d ih =>
  intro k i acc hi hk ha
  obtain ⟨k, rfl⟩ : ∃ m, k = m + 1 := ⟨k - 1, by omega⟩
  have hlt : i < l.length := by omega
  have hb := hx l[i] (List.getElem_mem hlt)
  have hil := Go.Lib.itoa_length_le l[i] (by omega) (by omega)
  simp only [spec_ResText.l0]
  rw [if_pos (by omega), if_pos (by simp [ByteArray.size]; omega), if_pos (by omega), getD_at l i hlt, digits_eq l[i] hb.1 hb.2 k (by omega)]
  simp only [Option.bind_some]
  have e1 : (⟨acc.toArray⟩ : ByteArray) ++ ⟨#[32]⟩ ++ ⟨(Go.Lib.itoa l[i]).toArray⟩ = ⟨(acc ++ (32 :: Go.Lib.itoa l[i])).toArray⟩ := by
   apply ByteArray.ext
   simp
  rw [if_pos (by rw [ByteArray.size_append]; simp [ByteArray.size]; omega), e1, wrap_id (by omega) (by omega), show (i : Int) + 1 = ((i + 1 : Nat) : Int) by omega,
   ih k (i + 1) _ (by omega) (by omega) (by simp; omega), List.drop_eq_getElem_cons hlt, joinedL_cons, List.append_assoc]

theorem specRes_eq (c : Int) (l : List Int) (k : Nat) (hk : l.length + 60 < k) (hl : l.length ≤ 1048576) : spec_ResText.f k c l = some (resT c l) := by
 obtain ⟨k, rfl⟩ : ∃ m, k = m + 1 := ⟨k - 1, by omega⟩
 have hj : ∀ b, resB c l = !b → spec_ResText.j0 (k + 1) words4 b c l = some (resT c l) := by
  intro b hb
  simp only [spec_ResText.j0]
  unfold resT
  rw [hb]
  cases b with
  | true => rfl
  | false =>
   obtain ⟨h1, h2, h3, h4⟩ := resB_of (c := c) (l := l) (by rw [hb]; rfl)
   have hw := word_len c
   rw [if_neg (by decide), if_pos (by omega), if_pos (show c < (words4.length : Int) by show c < 4; omega), word_at c h1 h2]
   have := res_loop l h3 h4 c l.length k 0 (wordL c) (by omega) (by omega) (by omega)
   rw [show ((0 : Nat) : Int) = 0 from rfl] at this
   rw [this, if_pos (by rfl)]
   simp
 have hbr : ∀ b, resB c l = !b → spec_ResText.j0 (k + 1) [(⟨#[]⟩ : ByteArray), (⟨#[100, 111, 110, 101]⟩ : ByteArray), (⟨#[115, 116, 111, 112, 112, 101, 100]⟩ : ByteArray), (⟨#[111, 118, 101, 114]⟩ : ByteArray)] b c l = some (resT c l) := hj
 unfold spec_ResText.f
 rw [l1In_eq, l1All_eq l _ _ (k + 1) (by omega) hl]
 simp only [Option.bind_some]
 have hB : resB c l = (ibB c 1 3 && ((decide (c = 1) || decide (l.length = 0)) && (decide (l.length ≤ 6) && okB l l.length 999999999999))) := rfl
 cases hi : ibB c 1 3 with
 | false => rw [if_neg (by decide)]; exact hbr true (by rw [hB, hi]; rfl)
 | true =>
  rw [if_pos rfl]
  by_cases h1 : c = 1
  ·rw [if_pos h1]
   by_cases h6 : (l.length : Int) > 6
   ·rw [if_pos h6]; exact hbr true (by rw [hB, hi, decide_eq_false (show ¬ l.length ≤ 6 by omega)]; simp)
   ·rw [if_neg h6]; exact hbr _ (by rw [hB, hi, decide_eq_true h1, decide_eq_true (show l.length ≤ 6 by omega)]; simp)
  ·rw [if_neg h1]
   by_cases h0 : (l.length : Int) > 0
   ·rw [if_pos h0]; exact hbr true (by rw [hB, hi, decide_eq_false h1, decide_eq_false (show ¬ l.length = 0 by omega)]; simp)
   ·rw [if_neg h0]
    by_cases h6 : (l.length : Int) > 6
    ·omega
    ·rw [if_neg h6]; exact hbr _ (by rw [hB, hi, decide_eq_false h1, decide_eq_true (show l.length = 0 by omega), decide_eq_true (show l.length ≤ 6 by omega)]; simp)

theorem implRes_eq (c : Int) (l : List Int) (k : Nat) (hk : 0 < k) : impl_ResText.f k c l = some (resT c l) := by
 obtain ⟨k, rfl⟩ : ∃ m, k = m + 1 := ⟨k - 1, by omega⟩
 have hbr : ∀ b, resB c l = !b → impl_ResText.j0 (k + 1) b c l = some (resT c l) := by
  intro b hb
  simp only [impl_ResText.j0]
  unfold resT
  rw [hb]
  cases b with
  | true => rfl
  | false =>
   obtain ⟨h1, h2, h3, h4⟩ := resB_of (c := c) (l := l) (by rw [hb]; rfl)
   have hw := word_len c
   have hcw : impl_codeWords.f = some words4 := rfl
   have hjl := joinedL_len l (fun x hx => by have := h4 x hx; omega)
   rw [if_neg (by decide), hcw]
   simp only [Option.bind_some]
   rw [if_pos (by omega), if_pos (show c < (words4.length : Int) by show c < 4; omega), word_at c h1 h2]
   unfold impl_joined.f
   rw [if_pos ⟨h3, List.all_eq_true.mpr fun x hx => by have := h4 x hx; simp [inB, this]⟩]
   simp only [Option.bind_some]
   rw [if_pos (by simp [ByteArray.size]; omega), if_pos (by rfl)]
   congr 1 <;> (apply ByteArray.ext; simp)
 unfold impl_ResText.f
 rw [in_eq, within_eq]
 simp only [Option.bind_some]
 have hB : resB c l = (ibB c 1 3 && ((decide (c = 1) || decide (l.length = 0)) && (decide (l.length ≤ 6) && okB l l.length 999999999999))) := rfl
 cases hi : ibB c 1 3 with
 | false => rw [if_neg (by decide)]; exact hbr true (by rw [hB, hi]; rfl)
 | true =>
  rw [if_pos rfl]
  by_cases h6 : (l.length : Int) > 6
  ·rw [if_pos h6]; exact hbr true (by rw [hB, hi, decide_eq_false (show ¬ l.length ≤ 6 by omega)]; simp)
  ·rw [if_neg h6]
   by_cases h1 : c = 1
   ·rw [if_pos h1]; exact hbr _ (by rw [hB, hi, decide_eq_true h1, decide_eq_true (show l.length ≤ 6 by omega)]; simp)
   ·rw [if_neg h1]
    by_cases h0 : (l.length : Int) > 0
    ·rw [if_pos h0]; exact hbr true (by rw [hB, hi, decide_eq_false h1, decide_eq_false (show ¬ l.length = 0 by omega)]; simp)
    ·rw [if_neg h0]; exact hbr _ (by rw [hB, hi, decide_eq_false h1, decide_eq_true (show l.length = 0 by omega), decide_eq_true (show l.length ≤ 6 by omega)]; simp)

def mkB (l : List UInt8) : ByteArray := ⟨l.toArray⟩
theorem mkB_data (l : List UInt8) : (mkB l).data.toList = l := by simp [mkB]
theorem mkB_toList (l : List UInt8) : (mkB l).toList = l := by rw [ByteArray.toList_eq, mkB_data]
theorem mkB_size (l : List UInt8) : (mkB l).size = l.length := by simp [mkB, ByteArray.size]
theorem mkB_ext {s t : ByteArray} (h : s.data.toList = t.data.toList) : s = t := ByteArray.ext (Array.toList_inj.mp h)
theorem mkB_of (s : ByteArray) : mkB s.data.toList = s := mkB_ext (mkB_data _)
theorem bytes_eq {s t : ByteArray} : s.toList = t.toList ↔ s = t := ⟨fun h => mkB_ext (by rw [← ByteArray.toList_eq, ← ByteArray.toList_eq]; exact h), fun h => by rw [h]⟩
theorem dec_bytes (u : Nat) : ∀ b ∈ Go.Lib.decDigits u, 48 ≤ b.toNat ∧ b.toNat ≤ 57 := by
 induction u using Nat.strongRecOn with
 | ind u ih =>
  intro b hb
  rw [Go.Lib.decDigits] at hb
  split at hb
  ·rename_i h
   simp only [List.mem_singleton] at hb
   subst hb
   simp only [UInt8.toNat_ofNat']
   omega
  ·rename_i h
   rcases List.mem_append.mp hb with hb | hb
   ·exact ih (u / 10) (by omega) b hb
   ·simp only [List.mem_singleton] at hb
    subst hb
    simp only [UInt8.toNat_ofNat']
    omega
theorem decFrom_append (a b : List UInt8) : ∀ acc, Go.Lib.decFrom acc (a ++ b) = (Go.Lib.decFrom acc a).bind fun m => Go.Lib.decFrom m b := by
 induction a with
 | nil => intro acc; rfl
 | cons x a ih =>
  intro acc
  simp only [List.cons_append, Go.Lib.decFrom]
  cases Go.Lib.digitVal x with
  | none => rfl
  | some d => exact ih _
theorem digitVal_dec (d : Nat) (h : d < 10) : Go.Lib.digitVal (UInt8.ofNat (48 + d)) = some d := by
 unfold Go.Lib.digitVal
 have e : (UInt8.ofNat (48 + d)).toNat = 48 + d := by simp only [UInt8.toNat_ofNat']; omega
 rw [e, if_pos (by omega)]
 congr 1
 omega
theorem decFrom_dec (u : Nat) : Go.Lib.decFrom 0 (Go.Lib.decDigits u) = some u := by
 induction u using Nat.strongRecOn with
 | ind u ih =>
  rw [Go.Lib.decDigits]
  split
  ·rename_i h
   simp only [Go.Lib.decFrom, digitVal_dec u h]
   simp
  ·rename_i h
   rw [decFrom_append, ih (u / 10) (by omega)]
   simp only [Option.bind_some, Go.Lib.decFrom, digitVal_dec (u % 10) (by omega)]
   congr 1
   omega
theorem dec_len (d : Nat) : ∀ u : Nat, u < 10 ^ (d + 1) → (Go.Lib.decDigits u).length ≤ d + 1 := by
 induction d with
 | zero =>
  intro u hu
  rw [Go.Lib.decDigits, dif_pos (by simpa using hu)]
  simp
 | succ d ih =>
  intro u hu
  rw [Go.Lib.decDigits]
  split
  ·simp
  ·have := ih (u / 10) (by rw [Nat.pow_succ] at hu; exact Nat.div_lt_of_lt_mul (by omega))
   simp only [List.length_append, List.length_singleton]
   omega
theorem dec_len12 (u : Nat) (h : u ≤ 999999999999) : (Go.Lib.decDigits u).length ≤ 12 := dec_len 11 u (by omega)
/-- The first digit: 0 alone begins with 0. -/
theorem dec_head (u : Nat) : ∃ b r, Go.Lib.decDigits u = b :: r ∧ 48 ≤ b.toNat ∧ b.toNat ≤ 57 ∧ (1 ≤ u → b.toNat ≠ 48) ∧ (u = 0 → r = []) := by
 induction u using Nat.strongRecOn with
 | ind u ih =>
  rw [Go.Lib.decDigits]
  split
  ·rename_i h
   refine ⟨_, _, rfl, ?_, ?_, fun h1 => ?_, fun _ => rfl⟩
   all_goals simp only [UInt8.toNat_ofNat']
   all_goals omega
  ·rename_i h
   obtain ⟨b, r, e, h1, h2, h3, h4⟩ := ih (u / 10) (by omega)
   rw [e]
   exact ⟨b, r ++ [_], rfl, h1, h2, fun _ => h3 (by omega), fun h0 => by omega⟩
theorem itoa_bytes (n : Int) : ∀ b ∈ Go.Lib.itoa n, b ≠ 32 := by
 intro b hb e
 subst e
 unfold Go.Lib.itoa at hb
 split at hb
 ·rcases List.mem_cons.mp hb with hb | hb
  ·exact absurd hb (by decide)
  ·have := dec_bytes _ _ hb
   simp at this
 ·have := dec_bytes _ _ hb
  simp at this
theorem itoa_len13 (n : Int) (h0 : -999999999999 ≤ n) (h1 : n ≤ 999999999999) : (Go.Lib.itoa n).length ≤ 13 := by
 unfold Go.Lib.itoa
 split
 ·have := dec_len12 n.natAbs (by omega)
  simp only [List.length_cons]
  omega
 ·have := dec_len12 n.toNat (by omega)
  omega
theorem decNat_dec (u : Nat) : Go.Lib.decNat (Go.Lib.decDigits u) = some u := by
 obtain ⟨b, r, e, _⟩ := dec_head u
 unfold Go.Lib.decNat
 have h := decFrom_dec u
 rw [e] at h ⊢
 exact h

theorem atoi_itoa (n : Int) : Go.Lib.atoi (Go.Lib.itoa n) = some n := by
 unfold Go.Lib.itoa
 by_cases hn : n < 0
 ·rw [if_pos hn]
  simp only [Go.Lib.atoi, decNat_dec]
  rw [if_pos (by decide)]
  simp only [Option.map_some]
  congr 1
  omega
 ·rw [if_neg hn]
  have h := decNat_dec n.toNat
  obtain ⟨b, r, e, h1, h2, _⟩ := dec_head n.toNat
  rw [e] at h ⊢
  simp only [Go.Lib.atoi]
  have n45 : (b == 45) = false := by
   apply beq_eq_false_iff_ne.mpr
   intro x
   subst x
   simp at h1
  have n43 : (b == 43) = false := by
   apply beq_eq_false_iff_ne.mpr
   intro x
   subst x
   simp at h1
  rw [n45, n43, h]
  simp only [Bool.false_eq_true, if_false, Option.map_some]
  congr 1
  omega
theorem numV_itoa (n : Int) (h0 : -999999999999 ≤ n) (h1 : n ≤ 999999999999) : numV (mkB (Go.Lib.itoa n)) = (n, true) := by
 have hl := itoa_len13 n h0 h1
 unfold numV
 rw [mkB_data, mkB_toList, Go.Lib.atoiAll_short _ (by omega), atoi_itoa]
 simp only [Go.Lib.NumEnd.ofOption, Prod.mk.injEq, true_and]
 rw [Bool.and_eq_true]
 refine ⟨by simp, decide_eq_true ?_⟩
 unfold Go.Lib.trimPrefix Go.Lib.itoa
 by_cases hn : n < 0
 ·rw [if_pos hn]
  have := dec_len12 n.natAbs (by omega)
  have e : Go.Lib.hasPrefix (45 :: Go.Lib.decDigits n.natAbs) [45] = true := by simp [Go.Lib.hasPrefix]
  rw [if_pos e]
  simp
  omega
 ·rw [if_neg hn]
  have := dec_len12 n.toNat (by omega)
  split <;> simp <;> omega

theorem idx32 : ∀ (w r : List UInt8), (∀ b ∈ w, b ≠ 32) → Go.Lib.index (w ++ 32 :: r) [32] = (w.length : Int)
 | [], r, _ => by simp [Go.Lib.index, List.isPrefixOf]
 | b :: w, r, h => by
  have hb : b ≠ 32 := h b (by simp)
  have ih := idx32 w r (fun x hx => h x (by simp [hx]))
  have hp : ([32] : List UInt8).isPrefixOf (b :: (w ++ 32 :: r)) = false := by simp [List.isPrefixOf, Ne.symm hb]
  have hne : ((w.length : Int) == -1) = false := beq_eq_false_iff_ne.mpr (by omega)
  show Go.Lib.index (b :: (w ++ 32 :: r)) [32] = _
  rw [Go.Lib.index, hp, ih, hne]
  simp
theorem idx32_none : ∀ (w : List UInt8), (∀ b ∈ w, b ≠ 32) → Go.Lib.index w [32] = -1
 | [], _ => by simp [Go.Lib.index]
 | b :: w, h => by
  have hb : b ≠ 32 := h b (by simp)
  have ih := idx32_none w (fun x hx => h x (by simp [hx]))
  have hp : ([32] : List UInt8).isPrefixOf (b :: w) = false := by simp [List.isPrefixOf, Ne.symm hb]
  rw [Go.Lib.index, hp, ih]
  simp
def blank : ByteArray := ⟨#[32]⟩
theorem ext_end (l : List UInt8) (a : Nat) : (mkB l).extract a (mkB l).size = mkB (l.drop a) := mkB_ext (by rw [Go.Lib.extract_to_end, mkB_data, mkB_data])
theorem ext_front (l : List UInt8) (a : Nat) : (mkB l).extract 0 a = mkB (l.take a) := mkB_ext (by simp [mkB])
theorem split_words : ∀ (ws : List (List UInt8)) (w : List UInt8), (∀ b ∈ w, b ≠ 32) → (∀ x ∈ ws, ∀ b ∈ x, b ≠ 32) →
  Go.Lib.countB (mkB (w ++ (ws.map (32 :: ·)).flatten)) blank = ws.length ∧
  Go.Lib.splitB blank 0 ws.length (mkB (w ++ (ws.map (32 :: ·)).flatten)) = (w :: ws).map mkB
 | [], w, hw, _ => by
  have hi : Go.Lib.indexB (mkB (w ++ ((([] : List (List UInt8)).map (32 :: ·)).flatten))) blank = -1 := by
   show Go.Lib.index (mkB _).data.toList [32] = -1
   rw [mkB_data]
   simpa using idx32_none w hw
  refine ⟨Go.Lib.countB_miss _ _ hi, ?_⟩
  rw [List.length_nil, Go.Lib.splitB_zero]
  simp
 | v :: ws, w, hw, hws => by
  have ih := split_words ws v (hws v (by simp)) (fun x hx => hws x (by simp [hx]))
  have hi : Go.Lib.indexB (mkB (w ++ (((v :: ws).map (32 :: ·)).flatten))) blank = (w.length : Int) := by
   show Go.Lib.index (mkB _).data.toList [32] = _
   rw [mkB_data]
   exact idx32 w _ hw
  have he : (mkB (w ++ (((v :: ws).map (32 :: ·)).flatten))).extract (w.length + blank.size) (mkB (w ++ (((v :: ws).map (32 :: ·)).flatten))).size = mkB (v ++ (ws.map (32 :: ·)).flatten) := by
   rw [ext_end]
   congr 1
   have e1 : w ++ (((v :: ws).map (32 :: ·)).flatten) = (w ++ [32]) ++ (v ++ (ws.map (32 :: ·)).flatten) := by simp
   rw [e1, List.drop_left' (by simp [blank, ByteArray.size])]
  constructor
  ·rw [Go.Lib.countB_hit _ _ w.length (by decide) hi, he, ih.1, List.length_cons]
   omega
  ·rw [List.length_cons, Go.Lib.splitB_hit _ _ _ _ w.length hi, he, ih.2, ext_front, Nat.add_zero, List.take_left' rfl]
   rfl
theorem split_size : ∀ (k : Nat) (s : ByteArray), ∀ x ∈ Go.Lib.splitB blank 0 k s, x.size ≤ s.size
 | 0, s, x, hx => by
  rw [Go.Lib.splitB_zero] at hx
  simp only [List.mem_singleton] at hx
  subst hx
  exact Nat.le_refl _
 | k + 1, s, x, hx => by
  rcases Go.Lib.indexB_cases s blank with hi | ⟨i, hi, _⟩
  ·rw [Go.Lib.splitB_miss _ _ _ _ hi] at hx
   simp only [List.mem_singleton] at hx
   subst hx
   exact Nat.le_refl _
  ·rw [Go.Lib.splitB_hit _ _ _ _ i hi] at hx
   rcases List.mem_cons.mp hx with rfl | hx
   ·rw [ByteArray.size_extract]
    omega
   ·have := split_size k _ x hx
    rw [ByteArray.size_extract] at this
    omega
/-- The words of a text. -/
def wl : List UInt8 → List UInt8 → List (List UInt8)
 | cur, [] => [cur]
 | cur, b :: r => if b = 32 then cur :: wl [] r else wl (cur ++ [b]) r
theorem wl_len : ∀ (l cur : List UInt8), 1 ≤ (wl cur l).length ∧ (wl cur l).length ≤ l.length + 1
 | [], cur => by simp [wl]
 | b :: r, cur => by
  unfold wl
  split
  ·have := wl_len r []
   simp only [List.length_cons]
   omega
  ·have := wl_len r (cur ++ [b])
   simp only [List.length_cons]
   omega
theorem wl_size : ∀ (l cur : List UInt8), ∀ x ∈ wl cur l, x.length ≤ cur.length + l.length
 | [], cur, x, hx => by
  simp only [wl, List.mem_singleton] at hx
  subst hx
  simp
 | b :: r, cur, x, hx => by
  unfold wl at hx
  split at hx
  ·rcases List.mem_cons.mp hx with rfl | hx
   ·simp
   ·have := wl_size r [] x hx
    simp only [List.length_nil, List.length_cons] at *
    omega
  ·have := wl_size r (cur ++ [b]) x hx
   simp only [List.length_append, List.length_cons, List.length_nil] at *
   omega
theorem wl_step (cur : List UInt8) : ∀ (w r : List UInt8), (∀ b ∈ w, b ≠ 32) → wl cur (w ++ r) = wl (cur ++ w) r := by
 intro w
 induction w generalizing cur with
 | nil => intro r _; simp
 | cons b w ih =>
  intro r h
  rw [List.cons_append, wl, if_neg (h b (by simp)), ih (cur ++ [b]) r (fun x hx => h x (by simp [hx]))]
  simp
theorem wl_words : ∀ (ws : List (List UInt8)) (w : List UInt8), (∀ b ∈ w, b ≠ 32) → (∀ x ∈ ws, ∀ b ∈ x, b ≠ 32) → wl [] (w ++ (ws.map (32 :: ·)).flatten) = w :: ws
 | [], w, hw, _ => by
  rw [wl_step [] w _ hw]
  simp [wl]
 | v :: ws, w, hw, hws => by
  rw [wl_step [] w _ hw, List.map_cons, List.flatten_cons, List.cons_append, wl, if_pos rfl, wl_words ws v (hws v (by simp)) (fun x hx => hws x (by simp [hx]))]
  simp

theorem bt_mk (l : List UInt8) (i : Nat) (h : i < l.length) : bt (mkB l) (i : Int) = (l[i].toNat : Int) := by
 unfold bt
 have e : ((i : Int)).toNat = i := by omega
 have hs : ((i : Int)).toNat < (mkB l).size := by rw [mkB_size, e]; exact h
 rw [dif_pos hs]
 congr 2 <;> simp [mkB, e, ByteArray.getElem_eq_getElem_data]
theorem byte_str (b : UInt8) : strOfNums [(b.toNat : Int)] = mkB [b] := by simp [strOfNums, mkB]
theorem mkB_app (a b : List UInt8) : mkB a ++ mkB b = mkB (a ++ b) := mkB_ext (by simp [mkB])
theorem words_loop (s : List UInt8) (hs : s.length ≤ 120) (d : Nat) : ∀ (k i : Nat) (out : List ByteArray) (cur : List UInt8), i + d = s.length → d < k → cur.length + d ≤ 1000 → out.length + d ≤ 1000 →
  spec_l1Words.l0 k (mkB s) out (mkB cur) (i : Int) = some (out ++ (wl cur (s.drop i)).map mkB) := by
 induction d with
 | zero =>
  intro k i out cur hi hk h1 h2
  obtain ⟨k, rfl⟩ : ∃ m, k = m + 1 := ⟨k - 1, by omega⟩
  simp only [spec_l1Words.l0, mkB_size]
  rw [if_neg (by omega), if_pos (by omega), List.drop_of_length_le (by omega)]
  simp [wl]
 | succ d ih =>
  intro k i out cur hi hk h1 h2
  obtain ⟨k, rfl⟩ : ∃ m, k = m + 1 := ⟨k - 1, by omega⟩
  have hlt : i < s.length := by omega
  simp only [spec_l1Words.l0, mkB_size]
  rw [if_pos (by omega), if_pos (by omega), bt_mk s i hlt, List.drop_eq_getElem_cons hlt]
  by_cases hb : s[i] = 32
  ·rw [hb, if_pos (by decide), if_pos (by omega), wrap_id (by omega) (by omega), show (i : Int) + 1 = ((i + 1 : Nat) : Int) by omega, wl, if_pos rfl]
   have := ih k (i + 1) (out ++ [mkB cur]) [] (by omega) (by omega) (by simp; omega) (by simp; omega)
   rw [show (⟨#[]⟩ : ByteArray) = mkB [] from rfl, this]
   simp
  ·have hn : ¬ ((s[i].toNat : Int) = 32) := fun e => hb (UInt8.toNat_inj.mp (by simp; omega))
   rw [if_neg hn]
   simp only [Option.bind_some]
   rw [byte_str, mkB_size, if_pos (by simp; omega), mkB_app, wrap_id (by omega) (by omega), show (i : Int) + 1 = ((i + 1 : Nat) : Int) by omega, wl, if_neg hb]
   exact ih k (i + 1) out (cur ++ [s[i]]) (by omega) (by omega) (by simp; omega) (by omega)
theorem l1Words_eq (s : List UInt8) (k : Nat) (hk : 200 < k) : spec_l1Words.f k (mkB s) = some (if s.length > 120 then [] else (wl [] s).map mkB) := by
 unfold spec_l1Words.f
 simp only [Option.bind_some, mkB_size]
 by_cases h : s.length > 120
 ·rw [if_pos (by omega), if_pos h]
 ·rw [if_neg (by omega), if_neg h]
  have := words_loop s (by omega) s.length k 0 [] [] (by omega) (by omega) (by simp; omega) (by simp; omega)
  rw [List.nil_append, List.drop_zero] at this
  exact this

theorem num_total0 (x0 : ByteArray) (x4 : Int) (hx : x0.size ≤ 1048576) (d : Nat) : ∀ (k i : Nat) (x5 : Int), i + d = x0.size → d < k → ∃ r, spec_l1Number.l0 k x0 x4 x5 (i : Int) = some r := by
 induction d with
 | zero =>
  intro k i x5 hi hk
  obtain ⟨k, rfl⟩ : ∃ m, k = m + 1 := ⟨k - 1, by omega⟩
  simp only [spec_l1Number.l0]
  rw [if_neg (by omega)]
  exact ⟨_, rfl⟩
 | succ d ih =>
  intro k i x5 hi hk
  obtain ⟨k, rfl⟩ : ∃ m, k = m + 1 := ⟨k - 1, by omega⟩
  simp only [spec_l1Number.l0]
  rw [if_pos (by omega), if_pos (by omega)]
  by_cases h1 : bt x0 (i : Int) < 48
  ·rw [if_pos h1]; exact ⟨_, rfl⟩
  ·rw [if_neg h1]
   by_cases h2 : bt x0 (i : Int) > 57
   ·rw [if_pos h2]; exact ⟨_, rfl⟩
   ·rw [if_neg h2, wrap_id (x := (i : Int) + 1) (by omega) (by omega), show (i : Int) + 1 = ((i + 1 : Nat) : Int) by omega]
    exact ih k (i + 1) _ (by omega) (by omega)
theorem num_total2 (x0 : ByteArray) (x4 : Int) (hx : x0.size ≤ 1048576) (k : Nat) (hk : x0.size < k) (b : Bool) : ∃ r, spec_l1Number.j2 (k + 1) x0 x4 b = some r := by
 cases b with
 | true => simp only [spec_l1Number.j2]; exact ⟨_, rfl⟩
 | false =>
  simp only [spec_l1Number.j2, Bool.false_eq_true, if_false]
  exact num_total0 x0 x4 hx x0.size k 0 0 (by omega) hk
theorem num_total1 (x0 : ByteArray) (x4 : Int) (hx : x0.size ≤ 1048576) (k : Nat) (hk : x0.size < k) : ∃ r, spec_l1Number.j1 (k + 2) x0 x4 = some r := by
 have t2 := num_total2 x0 x4 hx k hk
 simp only [spec_l1Number.j1, l1In_eq, Option.bind_some]
 split
 ·split
  ·rw [if_pos (by omega)]
   split
   ·exact t2 _
   ·split
    ·exact t2 _
    ·exact t2 _
  ·split
   ·exact t2 _
   ·exact t2 _
 ·exact t2 _
theorem num_total (w : ByteArray) (hw : w.size ≤ 1048576) (k : Nat) (hk : w.size < k) : ∃ r, spec_l1Number.f (k + 3) w = some r := by
 unfold spec_l1Number.f
 have j0 : ∀ b : Bool, (b = true → 1 ≤ w.size) → ∃ r, spec_l1Number.j0 (k + 3) w 1 b = some r := by
  intro b hb
  cases b with
  | true =>
   simp only [spec_l1Number.j0, if_true]
   rw [if_pos (by have := hb rfl; omega)]
   exact num_total1 _ _ (by rw [ByteArray.size_extract]; omega) k (by rw [ByteArray.size_extract]; omega)
  | false =>
   simp only [spec_l1Number.j0, Bool.false_eq_true, if_false]
   exact num_total1 w 1 hw k hk
 split
 ·first | (rw [if_pos (by omega)]; exact j0 _ (fun _ => by omega)) | exact j0 _ (fun _ => by omega)
 ·exact j0 false (fun h => by cases h)
theorem decFrom_ge (l : List UInt8) : ∀ (acc n : Nat), Go.Lib.decFrom acc l = some n → acc ≤ n := by
 induction l with
 | nil => intro acc n h; simp only [Go.Lib.decFrom, Option.some.injEq] at h; omega
 | cons b l ih =>
  intro acc n h
  simp only [Go.Lib.decFrom] at h
  cases hd : Go.Lib.digitVal b with
  | none => rw [hd] at h; cases h
  | some d =>
   rw [hd] at h
   have := ih _ _ h
   omega
theorem num_val0 (D : List UInt8) (x4 : Int) (n : Nat) (hn : n ≤ 10000000000000) (hD : D.length ≤ 20) (d : Nat) : ∀ (k i acc : Nat), i + d = D.length → d < k → Go.Lib.decFrom acc (D.drop i) = some n →
  spec_l1Number.l0 k (mkB D) x4 (acc : Int) (i : Int) = some (wrap64 (x4 * n), true) := by
 induction d with
 | zero =>
  intro k i acc hi hk h
  obtain ⟨k, rfl⟩ : ∃ m, k = m + 1 := ⟨k - 1, by omega⟩
  rw [List.drop_of_length_le (by omega)] at h
  simp only [Go.Lib.decFrom, Option.some.injEq] at h
  subst h
  simp only [spec_l1Number.l0, mkB_size]
  rw [if_neg (by omega)]
 | succ d ih =>
  intro k i acc hi hk h
  obtain ⟨k, rfl⟩ : ∃ m, k = m + 1 := ⟨k - 1, by omega⟩
  have hlt : i < D.length := by omega
  rw [List.drop_eq_getElem_cons hlt] at h
  simp only [Go.Lib.decFrom] at h
  unfold Go.Lib.digitVal at h
  by_cases hb : 48 ≤ D[i].toNat ∧ D[i].toNat ≤ 57
  ·rw [if_pos hb] at h
   simp only at h
   have hge := decFrom_ge _ _ _ h
   simp only [spec_l1Number.l0, mkB_size]
   rw [if_pos (by omega), if_pos (by omega), bt_mk D i hlt, if_neg (by omega), if_neg (by omega), wrap_id (x := (acc : Int) * 10) (by omega) (by omega),
    show ((D[i].toNat : Int) - 48) % 256 = ((D[i].toNat - 48 : Nat) : Int) by omega, wrap_id (x := (i : Int) + 1) (by omega) (by omega), wrap_id (by omega) (by omega),
    show (acc : Int) * 10 + ((D[i].toNat - 48 : Nat) : Int) = ((acc * 10 + (D[i].toNat - 48) : Nat) : Int) by omega, show (i : Int) + 1 = ((i + 1 : Nat) : Int) by omega]
   exact ih k (i + 1) _ (by omega) (by omega) h
  ·rw [if_neg hb] at h
   cases h
theorem num_val1 (u : Nat) (hu : u ≤ 999999999999) (sg : Int) (hs : sg = 1 ∨ (sg = -1 ∧ 1 ≤ u)) (k : Nat) (hk : 20 < k) : spec_l1Number.j1 (k + 2) (mkB (Go.Lib.decDigits u)) sg = some (sg * u, true) := by
 have hlen := dec_len12 u hu
 have hdec := decFrom_dec u
 obtain ⟨b, r, e, hb1, hb2, hb3, hb4⟩ := dec_head u
 have v0 : spec_l1Number.j2 (k + 1) (mkB (Go.Lib.decDigits u)) sg false = some (sg * u, true) := by
  simp only [spec_l1Number.j2, Bool.false_eq_true, if_false]
  have := num_val0 (Go.Lib.decDigits u) sg u (by omega) (by omega) (Go.Lib.decDigits u).length k 0 0 (by omega) (by omega) (by simpa using hdec)
  rw [show ((0 : Nat) : Int) = 0 from rfl] at this
  rw [this, wrap_id]
  ·rcases hs with h | ⟨h, _⟩ <;> rw [h] <;> omega
  ·rcases hs with h | ⟨h, _⟩ <;> rw [h] <;> omega
 have hpos : 1 ≤ (Go.Lib.decDigits u).length := by rw [e]; simp
 have hne : 1 ≤ u → ((mkB (Go.Lib.decDigits u)).toList == [48]) = false := by
  intro h1
  rw [mkB_toList, e]
  apply beq_eq_false_iff_ne.mpr
  intro x
  have hx : b = 48 := (List.cons.inj x).1
  exact hb3 h1 (by rw [hx]; decide)
 simp only [spec_l1Number.j1, l1In_eq, Option.bind_some, mkB_size]
 rw [if_pos (by unfold ibB; simp; omega)]
 have hsg : sg < 0 → 1 ≤ u := fun h => by rcases hs with h' | ⟨_, h'⟩ <;> omega
 by_cases h1 : ((Go.Lib.decDigits u).length : Int) > 1
 ·have hu1 : 1 ≤ u := by
   rcases Nat.eq_zero_or_pos u with h0 | h0
   ·have := hb4 h0
    rw [e, this] at h1
    simp at h1
   ·exact h0
  have hbt : bt (mkB (Go.Lib.decDigits u)) 0 = (b.toNat : Int) := by
   have := bt_mk (Go.Lib.decDigits u) 0 hpos
   rw [show ((0 : Nat) : Int) = 0 from rfl] at this
   rw [this]
   simp [e]
  rw [if_pos h1, if_pos (by omega), hbt, if_neg (by have := hb3 hu1; omega)]
  split
  ·rw [hne hu1]; exact v0
  ·exact v0
 ·rw [if_neg h1]
  split
  ·rename_i h; rw [hne (hsg h)]; exact v0
  ·exact v0
theorem num_itoa (n : Int) (h0 : -999999999999 ≤ n) (h1 : n ≤ 999999999999) (k : Nat) (hk : 20 < k) : spec_l1Number.f (k + 3) (mkB (Go.Lib.itoa n)) = some (n, true) := by
 unfold spec_l1Number.f Go.Lib.itoa
 by_cases hn : n < 0
 ·rw [if_pos hn, mkB_size]
  have hbt : bt (mkB (45 :: Go.Lib.decDigits n.natAbs)) 0 = 45 := by
   have := bt_mk (45 :: Go.Lib.decDigits n.natAbs) 0 (by simp)
   rw [show ((0 : Nat) : Int) = 0 from rfl] at this
   rw [this]
   simp
  have hv := num_val1 n.natAbs (by omega) (-1) (.inr ⟨rfl, by omega⟩) k hk
  rw [if_pos (by simp), if_pos (by simp), hbt]
  simp only [spec_l1Number.j0, beq_self_eq_true, if_true, mkB_size]
  have hx := ext_end (45 :: Go.Lib.decDigits n.natAbs) 1
  rw [mkB_size] at hx
  rw [if_pos (by simp; omega), hx, List.drop_one, List.tail_cons, hv]
  congr 2
  omega
 ·rw [if_neg hn, mkB_size]
  have hv := num_val1 n.toNat (by omega) 1 (.inl rfl) k hk
  obtain ⟨b, r, e, hb1, hb2, _⟩ := dec_head n.toNat
  have hbt : bt (mkB (Go.Lib.decDigits n.toNat)) 0 = (b.toNat : Int) := by
   have := bt_mk (Go.Lib.decDigits n.toNat) 0 (by rw [e]; simp)
   rw [show ((0 : Nat) : Int) = 0 from rfl] at this
   rw [this]
   simp [e]
  have hp : ((Go.Lib.decDigits n.toNat).length : Int) > 0 := by rw [e]; simp
  have hf : ((b.toNat : Int) == 45) = false := beq_eq_false_iff_ne.mpr (by omega)
  rw [if_pos hp, if_pos (by omega), hbt, hf]
  simp only [spec_l1Number.j0, Bool.false_eq_true, if_false]
  rw [hv]
  congr 2
  omega

def zeroR : Int × List Int × Bool := (0, [], false)
/-- What the reading ends with. -/
def finR (s : ByteArray) (c : Int) (T : List Int) : Int × List Int × Bool := if (resT c T).toList = ([] : List UInt8) then (0, [], false) else if (resT c T).toList = s.toList then (c, T, true) else (0, [], false)
def finI (s : ByteArray) (c : Int) (T : List Int) (b : Bool) : Int × List Int × Bool :=
 if (s.size : Int) > 120 then (0, [], false) else if b = true then (if s.toList = ([] : List UInt8) then (0, [], false) else if (resT c T).toList = s.toList then (c, T, true) else (0, [], false)) else (0, [], false)
def wordsR (l : List Int) : List (List UInt8) := l.map Go.Lib.itoa
theorem resT_words (c : Int) (l : List Int) (h : resB c l = true) : resT c l = mkB (wordL c ++ ((wordsR l).map (32 :: ·)).flatten) := by
 unfold resT
 rw [if_pos h]
 unfold joinedL wordsR mkB
 simp [List.map_map, Function.comp_def]
theorem word_no (c : Int) : ∀ b ∈ wordL c, b ≠ 32 := by
 unfold wordL
 split
 ·decide
 ·split <;> decide
theorem words_no (l : List Int) : ∀ x ∈ wordsR l, ∀ b ∈ x, b ≠ 32 := by
 intro x hx
 obtain ⟨n, _, rfl⟩ := List.mem_map.mp hx
 exact itoa_bytes n
theorem resT_size (c : Int) (l : List Int) (h : resB c l = true) : (resT c l).size ≤ 120 := by
 obtain ⟨_, _, h3, h4⟩ := resB_of h
 rw [resT_words c l h, mkB_size]
 have hw := word_len c
 have key : ∀ l : List Int, (∀ x ∈ l, -999999999999 ≤ x ∧ x ≤ 999999999999) → (((wordsR l).map (32 :: ·)).flatten).length ≤ 14 * l.length := by
  intro l
  induction l with
  | nil => intro _; simp [wordsR]
  | cons a l ih =>
   intro hx
   have h1 := itoa_len13 a (hx a (by simp)).1 (hx a (by simp)).2
   have h2 := ih (fun x hm => hx x (by simp [hm]))
   simp only [wordsR, List.map_cons, List.flatten_cons, List.length_append, List.length_cons] at *
   omega
 have := key l h4
 simp only [List.length_append]
 omega
theorem resT_ne (c : Int) (l : List Int) (h : resB c l = true) : (resT c l).toList ≠ [] := by
 rw [resT_words c l h, mkB_toList]
 unfold wordL
 split
 ·simp
 ·split <;> simp
theorem resT_bad (c : Int) (l : List Int) (h : (resT c l).toList ≠ []) : resB c l = true := by
 cases hb : resB c l with
 | true => rfl
 | false =>
  exfalso
  apply h
  unfold resT
  rw [hb, if_neg (by decide)]
  exact mkB_toList []
theorem finR_acc (c : Int) (l : List Int) (h : resB c l = true) : finR (resT c l) c l = (c, l, true) := by
 unfold finR
 rw [if_neg (resT_ne c l h), if_pos rfl]
theorem finI_acc (c : Int) (l : List Int) (h : resB c l = true) : finI (resT c l) c l true = (c, l, true) := by
 unfold finI
 have := resT_size c l h
 rw [if_neg (by omega), if_pos rfl, if_neg (resT_ne c l h), if_pos rfl]
theorem finR_not (s : ByteArray) (h : ¬ ∃ c l, resB c l = true ∧ s = resT c l) (c : Int) (T : List Int) : finR s c T = zeroR := by
 unfold finR
 split
 ·rfl
 ·rename_i h1
  split
  ·rename_i h2
   exact absurd ⟨c, T, resT_bad c T h1, (bytes_eq.mp h2).symm⟩ h
  ·rfl
theorem finI_not (s : ByteArray) (h : ¬ ∃ c l, resB c l = true ∧ s = resT c l) (c : Int) (T : List Int) (b : Bool) : finI s c T b = zeroR := by
 unfold finI
 split
 ·rfl
 ·split
  ·split
   ·rfl
   ·rename_i h1
    split
    ·rename_i h2
     exact absurd ⟨c, T, resT_bad c T (by rw [h2]; exact h1), (bytes_eq.mp h2).symm⟩ h
    ·rfl
  ·rfl
theorem getD_rdOf (ws : List ByteArray) (i : Nat) (h : i < ws.length) : rdOf ByteArray.empty ws (i : Int) = ws[i] := by
 unfold rdOf
 rw [show ((i : Int)).toNat = i by omega, List.getD_eq_getElem?_getD, List.getElem?_eq_getElem h]
 rfl
theorem tells_loop (s : ByteArray) (c : Int) (ws : List ByteArray) (hws : ∀ x ∈ ws, x.size ≤ 120) (hlen : ws.length ≤ 200) (d : Nat) : ∀ (k i : Nat) (acc : List Int), i + d = ws.length → d + 1000 < k → acc.length + d ≤ 300 →
  ∃ T : List Int, spec_ResRead.l1 k s ws (i : Int) c acc = some (finR s c (acc ++ T)) ∧ ∀ l : List Int, (∀ x ∈ l, -999999999999 ≤ x ∧ x ≤ 999999999999) → ws.drop i = (wordsR l).map mkB → T = l := by
 induction d with
 | zero =>
  intro k i acc hi hk ha
  obtain ⟨k, rfl⟩ : ∃ m, k = m + 1 := ⟨k - 1, by omega⟩
  refine ⟨[], ?_, fun l _ hl => ?_⟩
  ·simp only [spec_ResRead.l1]
   rw [if_neg (by omega), specRes_eq c acc k (by omega) (by omega)]
   simp only [Option.bind_some, List.append_nil]
   unfold finR
   split
   ·rfl
   ·split <;> rfl
  ·rw [List.drop_of_length_le (by omega)] at hl
   cases l with
   | nil => rfl
   | cons a l => simp [wordsR] at hl
 | succ d ih =>
  intro k i acc hi hk ha
  obtain ⟨k, rfl⟩ : ∃ m, k = m + 1 := ⟨k - 1, by omega⟩
  have hlt : i < ws.length := by omega
  have hwi := hws ws[i] (List.getElem_mem hlt)
  obtain ⟨r, hr⟩ := num_total ws[i] (by omega) (k - 3) (by omega)
  rw [show k - 3 + 3 = k by omega] at hr
  obtain ⟨T, hT, hv⟩ := ih k (i + 1) (acc ++ [r.1]) (by omega) (by omega) (by simp; omega)
  refine ⟨r.1 :: T, ?_, fun l hb hl => ?_⟩
  ·simp only [spec_ResRead.l1]
   rw [if_pos (by omega), if_pos (by omega), getD_rdOf ws i hlt, hr]
   simp only [Option.bind_some]
   rw [if_pos (by omega), wrap_id (by omega) (by omega), show (i : Int) + 1 = ((i + 1 : Nat) : Int) by omega, hT]
   simp
  ·rw [List.drop_eq_getElem_cons hlt] at hl
   cases l with
   | nil => simp [wordsR] at hl; omega
   | cons m l =>
    simp only [wordsR, List.map_cons, List.cons.injEq] at hl
    have hm := hb m (by simp)
    have hn := num_itoa m hm.1 hm.2 (k - 3) (by omega)
    rw [show k - 3 + 3 = k by omega, ← hl.1, hr] at hn
    rw [Option.some.inj hn, hv l (fun x hx => hb x (by simp [hx])) hl.2]
def codeV (w : ByteArray) : Int :=
 let c1 : Int := if (⟨#[100, 111, 110, 101]⟩ : ByteArray).toList = w.toList then 1 else 0
 let c2 : Int := if (⟨#[115, 116, 111, 112, 112, 101, 100]⟩ : ByteArray).toList = w.toList then 2 else c1
 if (⟨#[111, 118, 101, 114]⟩ : ByteArray).toList = w.toList then 3 else c2
theorem codeV_word (c : Int) (h0 : 1 ≤ c) (h1 : c ≤ 3) : codeV (mkB (wordL c)) = c := by
 unfold codeV
 rw [mkB_toList]
 have e1 : (⟨#[100, 111, 110, 101]⟩ : ByteArray).toList = [100, 111, 110, 101] := mkB_toList _
 have e2 : (⟨#[115, 116, 111, 112, 112, 101, 100]⟩ : ByteArray).toList = [115, 116, 111, 112, 112, 101, 100] := mkB_toList _
 have e3 : (⟨#[111, 118, 101, 114]⟩ : ByteArray).toList = [111, 118, 101, 114] := mkB_toList _
 rw [e1, e2, e3]
 obtain rfl | rfl | rfl : c = 1 ∨ c = 2 ∨ c = 3 := by omega
 all_goals decide
theorem code_loop (s : ByteArray) (ws : List ByteArray) (hw : 0 < ws.length) (k : Nat) : spec_ResRead.l0 (k + 4) s ws words4 1 0 = spec_ResRead.j1 k s ws (codeV (rdOf ByteArray.empty ws 0)) := by
 have r1 : rdOf ByteArray.empty words4 1 = ⟨#[100, 111, 110, 101]⟩ := rfl
 have r2 : rdOf ByteArray.empty words4 2 = ⟨#[115, 116, 111, 112, 112, 101, 100]⟩ := rfl
 have r3 : rdOf ByteArray.empty words4 3 = ⟨#[111, 118, 101, 114]⟩ := rfl
 have hl : (words4.length : Int) = 4 := rfl
 have w1 : wrap64 (1 + 1) = 2 := wrap_id (by omega) (by omega)
 have w2 : wrap64 (2 + 1) = 3 := wrap_id (by omega) (by omega)
 have w3 : wrap64 (3 + 1) = 4 := wrap_id (by omega) (by omega)
 have s4 : ∀ c, spec_ResRead.l0 (k + 1) s ws words4 4 c = spec_ResRead.j1 k s ws c := by
  intro c
  simp only [spec_ResRead.l0]
  rw [hl, if_neg (by omega)]
 have step : ∀ (m : Nat) (j c : Int), j < 4 → 0 ≤ j → spec_ResRead.l0 (m + 1) s ws words4 j c = if (rdOf ByteArray.empty words4 j).toList = (rdOf ByteArray.empty ws 0).toList then spec_ResRead.l0 m s ws words4 (wrap64 (j + 1)) j else spec_ResRead.l0 m s ws words4 (wrap64 (j + 1)) c := by
  intro m j c h1 h2
  simp only [spec_ResRead.l0]
  rw [hl, if_pos h1, if_pos h2, if_pos (by omega)]
 have s3 : ∀ c, spec_ResRead.l0 (k + 2) s ws words4 3 c = spec_ResRead.j1 k s ws (if (⟨#[111, 118, 101, 114]⟩ : ByteArray).toList = (rdOf ByteArray.empty ws 0).toList then 3 else c) := by
  intro c
  rw [show k + 2 = (k + 1) + 1 from rfl, step (k + 1) 3 c (by omega) (by omega), r3, w3]
  split
  ·exact s4 _
  ·exact s4 _
 have s2 : ∀ c, spec_ResRead.l0 (k + 3) s ws words4 2 c = spec_ResRead.j1 k s ws (if (⟨#[111, 118, 101, 114]⟩ : ByteArray).toList = (rdOf ByteArray.empty ws 0).toList then 3 else if (⟨#[115, 116, 111, 112, 112, 101, 100]⟩ : ByteArray).toList = (rdOf ByteArray.empty ws 0).toList then 2 else c) := by
  intro c
  rw [show k + 3 = (k + 2) + 1 from rfl, step (k + 2) 2 c (by omega) (by omega), r2, w2]
  split
  ·exact s3 _
  ·exact s3 _
 rw [show k + 4 = (k + 3) + 1 from rfl, step (k + 3) 1 0 (by omega) (by omega), r1, w1]
 unfold codeV
 split
 ·exact s2 _
 ·exact s2 _
theorem specRead_form (s : ByteArray) (hs : s.size ≤ 1048576) (k : Nat) (hk : 3000 < k) :
  ∃ c T, spec_ResRead.f k s = some (finR s c T) ∧ ∀ c0 l0, resB c0 l0 = true → s = resT c0 l0 → c = c0 ∧ T = l0 := by
 obtain ⟨k, rfl⟩ : ∃ m, k = m + 5 := ⟨k - 5, by omega⟩
 have hsd : mkB s.data.toList = s := mkB_of s
 have hsz : s.data.toList.length = s.size := by rw [← mkB_size, hsd]
 have hW := l1Words_eq s.data.toList (k + 5) (by omega)
 rw [hsd] at hW
 unfold spec_ResRead.f
 rw [hW]
 simp only [Option.bind_some]
 by_cases h120 : s.data.toList.length > 120
 ·rw [if_pos h120]
  rw [if_neg (by simp)]
  refine ⟨0, [], ?_, fun c0 l0 hb e => ?_⟩
  ·simp only [spec_ResRead.j1]
   obtain ⟨T, hT, hv⟩ := tells_loop s 0 [] (by simp) (by simp) 0 (k + 4) 0 [] (by simp) (by omega) (by simp)
   have : T = [] := hv [] (by simp) (by simp [wordsR])
   subst this
   simp only [spec_ResRead.l1] at hT ⊢
   rw [if_neg (by simp)]
   rw [if_neg (by simp)] at hT
   exact hT
  ·exfalso
   have := resT_size c0 l0 hb
   rw [← e] at this
   omega
 ·rw [if_neg h120]
  have hwl := wl_len s.data.toList []
  have hlen : ((wl [] s.data.toList).map mkB).length = (wl [] s.data.toList).length := by simp
  have hsz2 : ∀ x ∈ (wl [] s.data.toList).map mkB, x.size ≤ 120 := by
   intro x hx
   obtain ⟨y, hy, rfl⟩ := List.mem_map.mp hx
   have := wl_size s.data.toList [] y hy
   rw [mkB_size]
   simp at this
   omega
  rw [if_pos (by rw [hlen]; omega)]
  have hc := code_loop s ((wl [] s.data.toList).map mkB) (by rw [hlen]; omega) (k + 1)
  rw [show k + 1 + 4 = k + 5 by omega] at hc
  have hc' : spec_ResRead.l0 (k + 5) s ((wl [] s.data.toList).map mkB) [(⟨#[]⟩ : ByteArray), (⟨#[100, 111, 110, 101]⟩ : ByteArray), (⟨#[115, 116, 111, 112, 112, 101, 100]⟩ : ByteArray), (⟨#[111, 118, 101, 114]⟩ : ByteArray)] 1 0 = _ := hc
  rw [hc']
  simp only [spec_ResRead.j1]
  obtain ⟨T, hT, hv⟩ := tells_loop s (codeV (rdOf ByteArray.empty ((wl [] s.data.toList).map mkB) 0)) _ hsz2 (by rw [hlen]; omega) ((wl [] s.data.toList).length - 1) k 1 [] (by rw [hlen]; omega) (by omega) (by simp; omega)
  refine ⟨_, T, by simpa using hT, fun c0 l0 hb e => ?_⟩
  obtain ⟨h1, h2, h3, h4⟩ := resB_of hb
  have ew : wl [] s.data.toList = wordL c0 :: wordsR l0 := by
   rw [e, resT_words c0 l0 hb, mkB_data]
   exact wl_words _ _ (word_no c0) (words_no l0)
  rw [ew] at hv ⊢
  exact ⟨codeV_word c0 h1 h2, hv l0 h4 (by simp)⟩
def numsV : List Int → List ByteArray → List Int × Bool
 | acc, [] => (acc, true)
 | acc, w :: ws => if (numV w).2 = true then numsV (acc ++ [(numV w).1]) ws else ([], false)
theorem numsV_itoa (l : List Int) (h : ∀ x ∈ l, -999999999999 ≤ x ∧ x ≤ 999999999999) : ∀ acc, numsV acc ((wordsR l).map mkB) = (acc ++ l, true) := by
 induction l with
 | nil => intro acc; simp [wordsR, numsV]
 | cons a l ih =>
  intro acc
  have ha := h a (by simp)
  simp only [wordsR, List.map_cons, numsV]
  rw [numV_itoa a ha.1 ha.2, if_pos rfl]
  have := ih (fun x hx => h x (by simp [hx])) (acc ++ [a])
  simp only [wordsR] at this
  rw [this]
  simp
theorem nums_loop (ws : List ByteArray) (hws : ∀ x ∈ ws, x.size ≤ 1048576) (hlen : ws.length ≤ 2097152) (d : Nat) : ∀ (k i : Nat) (acc : List Int), i + d = ws.length → d < k → acc.length + d ≤ 4194304 →
  impl_numbersOf.l0 k acc ws (ws.length : Int) (i : Int) = some (numsV acc (ws.drop i)) := by
 induction d with
 | zero =>
  intro k i acc hi hk ha
  obtain ⟨k, rfl⟩ : ∃ m, k = m + 1 := ⟨k - 1, by omega⟩
  simp only [impl_numbersOf.l0]
  rw [if_neg (by omega), List.drop_of_length_le (by omega)]
  rfl
 | succ d ih =>
  intro k i acc hi hk ha
  obtain ⟨k, rfl⟩ : ∃ m, k = m + 1 := ⟨k - 1, by omega⟩
  have hlt : i < ws.length := by omega
  have hwi := hws ws[i] (List.getElem_mem hlt)
  simp only [impl_numbersOf.l0]
  rw [if_pos (by omega), if_pos (by omega), if_pos (by omega), getD_rdOf ws i hlt]
  unfold impl_numberOf.f
  rw [if_pos hwi]
  simp only [Option.bind_some]
  rw [List.drop_eq_getElem_cons hlt, numsV]
  by_cases hb : (numV ws[i]).2 = true
  ·rw [if_pos hb, if_pos hb, if_pos (by omega), wrap_id (by omega) (by omega), show (i : Int) + 1 = ((i + 1 : Nat) : Int) by omega]
   exact ih k (i + 1) _ (by omega) (by omega) (by simp; omega)
  ·rw [if_neg hb, if_neg hb]
theorem implRead_form (s : ByteArray) (hs : s.size ≤ 1048576) (k : Nat) (hk : 3000000 < k) :
  ∃ c T b, impl_ResRead.f k s = some (finI s c T b) ∧ ∀ c0 l0, resB c0 l0 = true → s = resT c0 l0 → c = c0 ∧ T = l0 ∧ b = true := by
 have hcnt := Go.Lib.countB_le blank (by decide) s.size s (Nat.le_refl _)
 have hlen := Go.Lib.splitB_all blank (by decide) 0 _ s rfl
 have hsz := split_size (Go.Lib.countB s blank) s
 have hS : strings_Split.f s (⟨#[32]⟩ : ByteArray) = some (Go.Lib.splitB blank 0 (Go.Lib.countB s blank) s) := by
  unfold strings_Split.f
  rw [if_pos ⟨rfl, hs⟩]
  rfl
 obtain ⟨ws, hws⟩ : ∃ ws, ws = Go.Lib.splitB blank 0 (Go.Lib.countB s blank) s := ⟨_, rfl⟩
 rw [← hws] at hS hlen hsz
 have hN : impl_numbersOf.f k (ws.drop 1) = some (numsV [] (ws.drop 1)) := by
  unfold impl_numbersOf.f
  have := nums_loop (ws.drop 1) (fun x hx => by have := hsz x (List.mem_of_mem_drop hx); omega) (by simp; omega) (ws.drop 1).length k 0 [] (by omega) (by simp; omega) (by simp; omega)
  simpa using this
 refine ⟨Go.Lib.idxOfS words4 (rdOf ByteArray.empty ws 0), (numsV [] (ws.drop 1)).1, (numsV [] (ws.drop 1)).2, ?_, fun c0 l0 hb e => ?_⟩
 ·unfold impl_ResRead.f
  rw [hS]
  simp only [Option.bind_some]
  rw [if_pos (by omega), hN]
  simp only [Option.bind_some]
  have hcw : impl_codeWords.f = some words4 := rfl
  rw [hcw]
  simp only [Option.bind_some]
  rw [if_pos (by omega)]
  unfold slices_Index_string_string.f
  simp only [Option.bind_some]
  rw [implRes_eq _ _ k (by omega)]
  simp only [Option.bind_some]
  unfold finI
  split
  ·rfl
  ·split
   ·split
    ·rfl
    ·split <;> rfl
   ·rfl
 ·obtain ⟨h1, h2, h3, h4⟩ := resB_of hb
  have hsw := split_words (wordsR l0) (wordL c0) (word_no c0) (words_no l0)
  rw [← resT_words c0 l0 hb, ← e] at hsw
  have ew : ws = (wordL c0 :: wordsR l0).map mkB := by rw [hws, hsw.1]; exact hsw.2
  rw [ew]
  refine ⟨?_, ?_, ?_⟩
  ·show Go.Lib.idxOfS words4 (mkB (wordL c0)) = c0
   obtain rfl | rfl | rfl : c0 = 1 ∨ c0 = 2 ∨ c0 = 3 := by omega
   all_goals decide
  ·show (numsV [] ((wordsR l0).map mkB)).1 = l0
   rw [numsV_itoa l0 h4]
   simp
  ·show (numsV [] ((wordsR l0).map mkB)).2 = true
   rw [numsV_itoa l0 h4]
/-- THE READINGS ARE ONE. -/
theorem read_eq (s : ByteArray) (hs : s.size ≤ 1048576) : ∃ r : Int × List Int × Bool, (∀ k : Nat, 3000000 < k → spec_ResRead.f k s = some r ∧ impl_ResRead.f k s = some r) ∧
  ((r.2.2 = true ∧ resB r.1 r.2.1 = true ∧ s = resT r.1 r.2.1) ∨ (r = zeroR ∧ ¬ ∃ c l, resB c l = true ∧ s = resT c l)) := by
 by_cases ha : ∃ c l, resB c l = true ∧ s = resT c l
 ·obtain ⟨c, l, hb, e⟩ := ha
  refine ⟨(c, l, true), fun k hk => ?_, .inl ⟨rfl, hb, e⟩⟩
  obtain ⟨c1, T1, h1, v1⟩ := specRead_form s hs k (by omega)
  obtain ⟨c2, T2, b2, h2, v2⟩ := implRead_form s hs k hk
  obtain ⟨rfl, rfl⟩ := v1 c l hb e
  obtain ⟨rfl, rfl, rfl⟩ := v2 _ _ hb e
  rw [h1, h2, e, finR_acc _ _ hb, finI_acc _ _ hb]
  exact ⟨rfl, rfl⟩
 ·refine ⟨zeroR, fun k hk => ?_, .inr ⟨rfl, ha⟩⟩
  obtain ⟨c1, T1, h1, v1⟩ := specRead_form s hs k (by omega)
  obtain ⟨c2, T2, b2, h2, v2⟩ := implRead_form s hs k hk
  rw [h1, h2, finR_not s ha, finI_not s ha]
  exact ⟨rfl, rfl⟩

theorem resEnd_eq (L : List Int) (hL : ∀ x ∈ L, (Lit.int .u8 x).wf = true) (hl : L.length ≤ 2000) (n s c : Int) (T : List Int) (k : Nat) (hk : 5 < k) (h0 : 0 ≤ s) (h1 : s ≤ 1000) (hn : 1 ≤ n) (hT : T.length ≤ 10) :
  ∃ c' T' s', spec_l20Res.j1 k n L s c T = some (c', T', s') ∧ T'.length ≤ 20 ∧ 0 ≤ s' ∧ s' ≤ s + 10 := by
 obtain ⟨k, rfl⟩ : ∃ m, k = m + 1 := ⟨k - 1, by omega⟩
 simp only [spec_l20Res.j1]
 obtain ⟨v1, e1, a1, b1⟩ := pick_eq L hL hl s n k (by omega) h0 (by omega) hn
 rw [e1]; simp only [Option.bind_some, if_true, bne_self_eq_false, Bool.false_eq_true, if_false]
 by_cases c1 : v1 > 0
 ·rw [if_pos c1]
  exact ⟨_, _, _, rfl, by omega, by omega, by omega⟩
 ·rw [if_neg c1]
  obtain ⟨v2, e2, a2, b2⟩ := pick_eq L hL hl (s + 1) 3 k (by omega) (by omega) (by omega) (by omega)
  rw [e2]; simp only [Option.bind_some, if_true, bne_self_eq_false, Bool.false_eq_true, if_false]
  by_cases c2 : v2 = 0
  ·rw [if_pos c2]
   obtain ⟨v3, e3, a3, b3⟩ := pick_eq L hL hl (s + 1 + 1) 3 k (by omega) (by omega) (by omega) (by omega)
   rw [e3]; simp only [Option.bind_some, if_true, bne_self_eq_false, Bool.false_eq_true, if_false]
   rw [if_pos a3, if_pos (by simpa using b3)]
   exact ⟨_, _, _, rfl, by omega, by omega, by omega⟩
  ·rw [if_neg c2]
   by_cases c3 : v2 = 1
   ·rw [if_pos c3, if_pos (by omega)]
    exact ⟨_, _, _, rfl, by simp; omega, by omega, by omega⟩
   ·rw [if_neg c3]
    obtain ⟨v4, e4, a4, b4⟩ := pick_eq L hL hl (s + 1 + 1) 5 k (by omega) (by omega) (by omega) (by omega)
    rw [e4]; simp only [Option.bind_some, if_true, bne_self_eq_false, Bool.false_eq_true, if_false]
    rw [if_pos a4, if_pos (by simpa using b4)]
    refine ⟨_, _, _, rfl, ?_, by omega, by omega⟩
    obtain rfl | rfl | rfl | rfl | rfl : v4 = 0 ∨ v4 = 1 ∨ v4 = 2 ∨ v4 = 3 ∨ v4 = 4 := by omega
    all_goals decide
theorem resLoop_eq (L : List Int) (hL : ∀ x ∈ L, (Lit.int .u8 x).wf = true) (hl : L.length ≤ 2000) (n c : Int) (hn : 1 ≤ n) (d : Nat) : ∀ (k : Nat) (s : Int) (T : List Int), d + 10 < k → 0 ≤ s → s + d ≤ 500 → T.length + d ≤ 8 →
  ∃ c' T' s', spec_l20Res.l0 k n (d : Int) L s c T = some (c', T', s') ∧ T'.length ≤ 20 ∧ 0 ≤ s' ∧ s' ≤ s + d + 10 := by
 induction d with
 | zero =>
  intro k s T hk h0 h1 hT
  obtain ⟨k, rfl⟩ : ∃ m, k = m + 1 := ⟨k - 1, by omega⟩
  simp only [spec_l20Res.l0]
  rw [if_neg (by omega)]
  obtain ⟨c', T', s', e, x1, x2, x3⟩ := resEnd_eq L hL hl n s c T k (by omega) h0 (by omega) hn (by omega)
  exact ⟨c', T', s', e, x1, x2, by omega⟩
 | succ d ih =>
  intro k s T hk h0 h1 hT
  obtain ⟨k, rfl⟩ : ∃ m, k = m + 1 := ⟨k - 1, by omega⟩
  simp only [spec_l20Res.l0]
  rw [if_pos (by omega)]
  simp only [Option.bind_some]
  obtain ⟨v1, e1, a1, b1⟩ := pick_eq L hL hl s 4 k (by omega) h0 (by omega) (by omega)
  rw [e1]; simp only [Option.bind_some, if_true, bne_self_eq_false, Bool.false_eq_true, if_false]
  rw [if_pos a1, if_pos (by simpa using b1), if_pos (by omega), wrap_id (by omega) (by omega), show ((d + 1 : Nat) : Int) - 1 = (d : Int) by omega]
  obtain ⟨c', T', s', e, x1, x2, x3⟩ := ih k (s + 1) (T ++ [rd [0, 7, -7, 12345] v1]) (by omega) (by omega) (by omega) (by simp; omega)
  exact ⟨c', T', s', e, x1, x2, by omega⟩
theorem l20Res_eq (L : List Int) (hL : ∀ x ∈ L, (Lit.int .u8 x).wf = true) (hl : L.length ≤ 2000) (s n : Int) (k : Nat) (hk : 30 < k) (h0 : 0 ≤ s) (h1 : s ≤ 100) (hn : 1 ≤ n) :
  ∃ c T s', spec_l20Res.f k L s n = some (c, T, s') ∧ T.length ≤ 20 ∧ 0 ≤ s' ∧ s' ≤ s + 30 := by
 unfold spec_l20Res.f
 obtain ⟨v1, e1, a1, b1⟩ := pick_eq L hL hl s 3 k (by omega) h0 (by omega) (by omega)
 rw [e1]; simp only [Option.bind_some, if_true, bne_self_eq_false, Bool.false_eq_true, if_false]
 by_cases c1 : wrap64 (1 + v1) = 1
 ·rw [if_pos c1]
  obtain ⟨v2, e2, a2, b2⟩ := pick_eq L hL hl (s + 1) 3 k (by omega) (by omega) (by omega) (by omega)
  rw [e2]; simp only [Option.bind_some, if_true, bne_self_eq_false, Bool.false_eq_true, if_false]
  obtain ⟨c', T', s', e, x1, x2, x3⟩ := resLoop_eq L hL hl n (wrap64 (1 + v1)) hn v2.toNat k (s + 1 + 1) [] (by omega) (by omega) (by omega) (by simp; omega)
  rw [show ((v2.toNat : Nat) : Int) = v2 by omega] at e
  exact ⟨c', T', s', e, x1, x2, by omega⟩
 ·rw [if_neg c1]
  obtain ⟨c', T', s', e, x1, x2, x3⟩ := resEnd_eq L hL hl n (s + 1) (wrap64 (1 + v1)) [] k (by omega) (by omega) (by omega) hn (by simp)
  exact ⟨c', T', s', e, x1, x2, by omega⟩
theorem resT_small (c : Int) (T : List Int) : (resT c T).size ≤ 120 := by
 cases hb : resB c T with
 | true => exact resT_size c T hb
 | false =>
  unfold resT
  rw [hb, if_neg (by decide)]
  decide
theorem str_one (x : Int) : (strOfNums [x]).size = 1 := by simp [strOfNums, ByteArray.size]
theorem bent_eq (L : List Int) (hL : ∀ x ∈ L, (Lit.int .u8 x).wf = true) (hl : L.length ≤ 2000) (s : Int) (t : ByteArray) (k : Nat) (hk : 1 ≤ k) (h0 : 0 ≤ s) (h1 : s ≤ 1000) (ht : t.size ≤ 1000) :
  ∃ u s', spec_l20Bent.f k L s t = some (u, s') ∧ u.size ≤ t.size + 1 := by
 unfold spec_l20Bent.f
 rw [wrap_id (by omega) (by omega)]
 obtain ⟨v1, e1, a1, b1⟩ := pick_eq L hL hl s ((t.size : Int) + 1) k hk h0 (by omega) (by omega)
 rw [e1]; simp only [Option.bind_some, if_true, bne_self_eq_false, Bool.false_eq_true, if_false]
 obtain ⟨v2, e2, a2, b2⟩ := pick_eq L hL hl (s + 1) 256 k hk (by omega) (by omega) (by omega)
 rw [e2]; simp only [Option.bind_some, if_true, bne_self_eq_false, Bool.false_eq_true, if_false]
 obtain ⟨v3, e3, a3, b3⟩ := pick_eq L hL hl (s + 1 + 1) 8 k hk (by omega) (by omega) (by omega)
 rw [e3]; simp only [Option.bind_some, if_true, bne_self_eq_false, Bool.false_eq_true, if_false]
 rw [if_pos a3, if_pos (by simpa using b3)]
 obtain ⟨v4, e4, a4, b4⟩ := pick_eq L hL hl (s + 1 + 1 + 1) 3 k hk (by omega) (by omega) (by omega)
 rw [e4]; simp only [Option.bind_some, if_true, bne_self_eq_false, Bool.false_eq_true, if_false]
 generalize rd [32, 48, 49, 120, 45, 97, 0, v2] v3 % 256 = z
 have hz := str_one z
 by_cases c4 : v4 = 0
 ·rw [if_pos c4, if_pos a1, if_pos (by omega), if_pos (by simp only [ByteArray.size_extract, hz]; omega), if_pos (by simp only [ByteArray.size_append, ByteArray.size_extract, hz]; omega)]
  exact ⟨_, _, rfl, by simp only [ByteArray.size_append, ByteArray.size_extract, hz]; omega⟩
 ·rw [if_neg c4]
  by_cases c5 : v1 = (t.size : Int)
  ·rw [if_pos c5, if_pos (by omega)]
   exact ⟨_, _, rfl, by simp only [ByteArray.size_append, hz]; omega⟩
  ·rw [if_neg c5]
   obtain ⟨v6, e6, a6, b6⟩ := pick_eq L hL hl (s + 1 + 1 + 1 + 1) 2 k hk (by omega) (by omega) (by omega)
   rw [e6]; simp only [Option.bind_some, if_true, bne_self_eq_false, Bool.false_eq_true, if_false]
   rw [wrap_id (x := v1 + 1) (by omega) (by omega)]
   by_cases c6 : v6 = 0
   ·rw [if_pos c6, if_pos a1, if_pos (by omega), if_pos (by omega), if_pos (by omega), if_pos (by simp only [ByteArray.size_extract]; omega)]
    exact ⟨_, _, rfl, by simp only [ByteArray.size_append, ByteArray.size_extract]; omega⟩
   ·rw [if_neg c6, if_pos a1, if_pos (by omega), if_pos (by simp only [ByteArray.size_extract, hz]; omega), if_pos (by omega), if_pos (by omega), if_pos (by simp only [ByteArray.size_append, ByteArray.size_extract, hz]; omega)]
    exact ⟨_, _, rfl, by simp only [ByteArray.size_append, ByteArray.size_extract, hz]; omega⟩
theorem drawText_eq (l : List Int) (h : ∀ x ∈ l, (Lit.int .u8 x).wf = true) (k : Nat) (hk : 100 < k) : ∃ c T, spec_DrawResText.f k l = some (c, T) ∧ T.length ≤ 20 := by
 unfold spec_DrawResText.f
 obtain ⟨M, e, hM, hl⟩ := open_eq l h
 rw [e]; simp only [Option.bind_some, if_true, bne_self_eq_false, Bool.false_eq_true, if_false]
 obtain ⟨c, T, s, e2, x1, x2, x3⟩ := l20Res_eq M hM hl 0 3 k (by omega) (by omega) (by omega) (by omega)
 rw [e2]; simp only [Option.bind_some, if_true, bne_self_eq_false, Bool.false_eq_true, if_false]
 exact ⟨c, T, rfl, x1⟩
theorem drawRead_eq (l : List Int) (h : ∀ x ∈ l, (Lit.int .u8 x).wf = true) (k : Nat) (hk : 200 < k) : ∃ t, spec_DrawResRead.f k l = some t ∧ t.size ≤ 1000 := by
 unfold spec_DrawResRead.f
 obtain ⟨M, e, hM, hl⟩ := open_eq l h
 rw [e]; simp only [Option.bind_some, if_true, bne_self_eq_false, Bool.false_eq_true, if_false]
 obtain ⟨c, T, s, e2, x1, x2, x3⟩ := l20Res_eq M hM hl 0 99 k (by omega) (by omega) (by omega) (by omega)
 rw [e2]; simp only [Option.bind_some, if_true, bne_self_eq_false, Bool.false_eq_true, if_false]
 rw [specRes_eq c T k (by omega) (by omega)]; simp only [Option.bind_some, if_true, bne_self_eq_false, Bool.false_eq_true, if_false]
 have hs := resT_small c T
 unfold spec_l20Maybe.f
 obtain ⟨v, e3, a3, b3⟩ := pick_eq M hM hl s 2 k (by omega) x2 (by omega) (by omega)
 rw [e3]; simp only [Option.bind_some, if_true, bne_self_eq_false, Bool.false_eq_true, if_false]
 by_cases c3 : v = 0
 ·rw [if_pos c3]
  obtain ⟨u, s', e4, hu⟩ := bent_eq M hM hl (s + 1) (resT c T) k (by omega) (by omega) (by omega) (by omega)
  rw [e4]; simp only [Option.bind_some, if_true, bne_self_eq_false, Bool.false_eq_true, if_false]
  exact ⟨u, rfl, by omega⟩
 ·rw [if_neg c3]; simp only [Option.bind_some, if_true, bne_self_eq_false, Bool.false_eq_true, if_false]
  exact ⟨_, rfl, by omega⟩

theorem co_res (c : Int) (T : List Int) (k : Nat) (hk : T.length < k) (hm : T.length ≤ 1048576) : laws_coRes.f k c T c T = some true := by
 unfold laws_coRes.f
 rw [if_pos rfl, co_eq T T k hk hm]; simp only [Option.bind_some, if_true, bne_self_eq_false, Bool.false_eq_true, if_false]
 simp
theorem FnResText : laws_FnResText.Pure := by
 intro l m hl hm
 obtain ⟨k, hk⟩ : ∃ k : Nat, 3000100 < k := ⟨3000101, by omega⟩
 refine ⟨k + 2, ?_⟩
 unfold laws_FnResText.f
 have j0t : laws_FnResText.j0 (k + 2) l m true = some true := by simp only [laws_FnResText.j0, if_true]
 by_cases h1 : (l.length : Int) > 1048576
 ·rw [if_pos h1]; exact j0t
 rw [if_neg h1]
 by_cases h2 : (m.length : Int) > 1048576
 ·rw [decide_eq_true h2]; exact j0t
 rw [decide_eq_false h2]
 simp only [laws_FnResText.j0, Bool.false_eq_true, if_false]
 obtain ⟨c, T, e1, hT⟩ := drawText_eq l hl.2 (k + 1) (by omega)
 obtain ⟨t, e2, ht⟩ := drawRead_eq m hm.2 (k + 1) (by omega)
 obtain ⟨r, hr, hq⟩ := read_eq t (by omega)
 have hrl : r.2.1.length ≤ 6 := by
  rcases hq with ⟨_, hb, _⟩ | ⟨h0, _⟩
  ·exact (resB_of hb).2.2.1
  ·rw [h0]; simp [zeroR]
 rw [e1]; simp only [Option.bind_some, if_true, bne_self_eq_false, Bool.false_eq_true, if_false]
 rw [implRes_eq c T _ (by omega)]; simp only [Option.bind_some, if_true, bne_self_eq_false, Bool.false_eq_true, if_false]
 rw [e2]; simp only [Option.bind_some, if_true, bne_self_eq_false, Bool.false_eq_true, if_false]
 rw [(hr _ (by omega)).2]; simp only [Option.bind_some, if_true, bne_self_eq_false, Bool.false_eq_true, if_false]
 rw [(hr _ (by omega)).1]; simp only [Option.bind_some, if_true, bne_self_eq_false, Bool.false_eq_true, if_false]
 rw [specRes_eq c T _ (by omega) (by omega)]; simp only [Option.bind_some, if_true, bne_self_eq_false, Bool.false_eq_true, if_false]
 rw [co_res r.1 r.2.1 _ (by omega) (by omega)]; simp only [Option.bind_some, if_true, bne_self_eq_false, Bool.false_eq_true, if_false]
 have hok : impl_ResOk.f (k + 1) c T = some ((resT c T).toList != ([] : List UInt8)) := by
  unfold impl_ResOk.f
  rw [implRes_eq c T _ (by omega)]; rfl
 have hj : laws_FnResText.j1 (k + 1) (resT c T) false c T = some true := by
  simp only [laws_FnResText.j1, Bool.false_eq_true, if_false]
  by_cases h0 : (resT c T).toList = ([] : List UInt8)
  ·rw [if_pos h0, implRes_eq 2 [] _ (by omega)]; simp only [Option.bind_some, if_true, bne_self_eq_false, Bool.false_eq_true, if_false]
   have hb : resB 2 [] = true := by
    unfold resB okB ibB
    decide
   rw [resT_words 2 [] hb, mkB_toList]
   rfl
  ·rw [if_neg h0]
   have hb := resT_bad c T h0
   obtain ⟨c2, T2, b2, h3, v3⟩ := implRead_form (resT c T) (by have := resT_small c T; omega) k (by omega)
   obtain ⟨rfl, rfl, rfl⟩ := v3 c T hb rfl
   rw [h3, finI_acc _ _ hb]; simp only [Option.bind_some, if_true, bne_self_eq_false, Bool.false_eq_true, if_false]
   rw [co_res _ _ _ (by omega) (by omega)]; rfl
 have hb : ∀ b : Bool, (b != b) = false := fun b => by cases b <;> rfl
 by_cases h3 : r.2.2 = true
 ·rw [if_pos h3, implRes_eq r.1 r.2.1 _ (by omega)]; simp only [Option.bind_some, if_true, bne_self_eq_false, Bool.false_eq_true, if_false]
  have hs : t = resT r.1 r.2.1 := by
   rcases hq with ⟨_, _, e⟩ | ⟨h0, _⟩
   ·exact e
   ·rw [h0] at h3; cases h3
  rw [if_pos (by rw [← hs]), hok]; simp only [Option.bind_some, if_true, bne_self_eq_false, Bool.false_eq_true, if_false]
  exact hj
 ·rw [if_neg h3, hok]; simp only [Option.bind_some, if_true, bne_self_eq_false, Bool.false_eq_true, if_false]
  exact hj

end Go.Proofs.YtcafmfmlnfaogaaDoor.Pure
