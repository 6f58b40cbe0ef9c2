/- The plain law FnExactResOk: what the printed functions compute answers as the statement says. -/
import Derived.Test.YtcafmfmlnfaogaaDoorQFnExactResOkx3
import Derived.OpenShut
set_option linter.unusedVariables false
set_option linter.unusedSimpArgs false
namespace Go.Proofs.YtcafmfmlnfaogaaDoor.Pure
open Go.RowKit Go.Proofs.YtcafmfmlnfaogaaDoor.QFnExactResOk Go.Proofs.YtcafmfmlnfaogaaDoorW.PrintWords Go.Proofs.YtcafmfmlnfaogaaDoorW.PrintLast Go.Proofs.YtcafmfmlnfaogaaDoor.HWords

theorem bd64 {x : Int} (h : (Lit.int .i64 x).wf = true) : -9223372036854775808 ≤ x ∧ x ≤ 9223372036854775807 := bounds_i64 h
theorem wrap_id {x : Int} (h0 : -9223372036854775808 ≤ x) (h1 : x ≤ 9223372036854775807) : wrap64 x = x := by unfold wrap64; omega
theorem wrap_l (x y : Int) : wrap64 (wrap64 x + y) = wrap64 (x + y) := by unfold wrap64; omega
theorem wrap_r (x y : Int) : wrap64 (x + wrap64 y) = wrap64 (x + y) := by unfold wrap64; omega
theorem wrap_ll (x y z : Int) : wrap64 (wrap64 x + y + z) = wrap64 (x + y + z) := by unfold wrap64; omega
theorem wrap_lr (x y z : Int) : wrap64 (x + wrap64 y + z) = wrap64 (x + y + z) := by unfold wrap64; omega
theorem getD_at (l : List Int) (i : Nat) (h : i < l.length) : rd l (i : Int) = l[i] := by
 unfold rd
 rw [show ((i : Int)).toNat = i from by omega, List.getD_eq_getElem?_getD, List.getElem?_eq_getElem h]
 rfl
/-- The plain 'within bounds'. -/
def ibB (n lo hi : Int) : Bool := decide (lo ≤ n) && decide (n ≤ hi)
/-- As many as must be, each within a bound. -/
def okB (l : List Int) (n m : Int) : Bool := decide ((l.length : Int) = n) && l.all (fun x => ibB x (wrap64 (-m)) m)
theorem ibB_iff {n lo hi : Int} : ibB n lo hi = true ↔ lo ≤ n ∧ n ≤ hi := by unfold ibB; simp
theorem okB_iff {l : List Int} {n m : Int} : okB l n m = true ↔ (l.length : Int) = n ∧ ∀ x ∈ l, wrap64 (-m) ≤ x ∧ x ≤ m := by
 unfold okB ibB; simp

theorem sz_int (l : List Int) (n : Int) (h0 : 0 ≤ n) (h1 : n ≤ 1048576) (hl : l.length ≤ 9223372036854775807) :
  ∃ t, laws_szIntS.f l n = some t ∧ (t < 0 ∨ (0 ≤ t ∧ t + l.length = n)) := by
 unfold laws_szIntS.f
 have e : wrap64 (n - (l.length : Int)) = n - (l.length : Int) := wrap_id (by omega) (by omega)
 rw [e]
 by_cases h : n - (l.length : Int) < 0
 ·rw [if_pos h]; exact ⟨_, rfl, .inl (by decide)⟩
 ·rw [if_neg h]; exact ⟨_, rfl, .inr ⟨by omega, by omega⟩⟩

theorem set_take (l : List Int) (i : Nat) (h : i < l.length) :
  (l.take i ++ List.replicate (l.length - i) (0 : Int)).set i l[i] = l.take (i + 1) ++ List.replicate (l.length - (i + 1)) 0 := by
 rw [List.set_append_right _ _ (by rw [List.length_take]; omega), List.length_take, Nat.min_eq_left (by omega), Nat.sub_self]
 obtain ⟨m, hm⟩ : ∃ m, l.length - i = m + 1 := ⟨l.length - i - 1, by omega⟩
 rw [hm, List.replicate_succ, List.set_cons_zero, show l.length - (i + 1) = m from by omega, List.take_succ_eq_append_getElem h, List.append_assoc]
 rfl
theorem to_loop (l : List Int) (hl : l.length ≤ 1048576) (d : Nat) : ∀ (k i : Nat), i + d = l.length → d < k →
  laws_toIntS.l0 k l (l.take i ++ List.replicate (l.length - i) 0) (i : Int) = some l := by
 induction d with
 | zero =>
  intro k i hi hk
  obtain ⟨k, rfl⟩ : ∃ m, k = m + 1 := ⟨k - 1, by omega⟩
  simp only [laws_toIntS.l0]
  rw [if_neg (by omega), show i = l.length from by omega]
  simp
 | succ d ih =>
  intro k i hi hk
  obtain ⟨k, rfl⟩ : ∃ m, k = m + 1 := ⟨k - 1, by omega⟩
  have hlt : i < l.length := by omega
  simp only [laws_toIntS.l0]
  have hlen : (l.take i ++ List.replicate (l.length - i) (0 : Int)).length = l.length := by simp; omega
  rw [if_pos (by omega), if_pos (by omega), if_pos (by rw [hlen]; omega), getD_at l i hlt, show ((i : Int)).toNat = i from by omega, set_take l i hlt,
   wrap_id (by omega) (by omega), show (i : Int) + 1 = ((i + 1 : Nat) : Int) from by omega]
  exact ih k (i + 1) (by omega) (by omega)
theorem to_int (l : List Int) (k : Nat) (hk : l.length < k) (hl : l.length ≤ 1048576) : laws_toIntS.f k l = some l := by
 unfold laws_toIntS.f
 rw [if_pos (by omega), if_pos (by omega), show ((l.length : Int)).toNat = l.length from by omega]
 have := to_loop l hl l.length k 0 (by omega) hk
 simpa using this

theorem eq_loop (l : List Int) (hl : l.length ≤ 1048576) (d : Nat) : ∀ (k i : Nat), i + d = l.length → d < k → laws_eqIntS.l0 k l l (i : Int) = some true := by
 induction d with
 | zero =>
  intro k i hi hk
  obtain ⟨k, rfl⟩ : ∃ m, k = m + 1 := ⟨k - 1, by omega⟩
  simp only [laws_eqIntS.l0]
  rw [if_neg (by omega)]
 | succ d ih =>
  intro k i hi hk
  obtain ⟨k, rfl⟩ : ∃ m, k = m + 1 := ⟨k - 1, by omega⟩
  simp only [laws_eqIntS.l0, if_true]
  rw [if_pos (by omega), if_pos (by omega), if_pos (by omega), wrap_id (by omega) (by omega), show (i : Int) + 1 = ((i + 1 : Nat) : Int) from by omega]
  exact ih k (i + 1) (by omega) (by omega)
theorem eq_int (l : List Int) (k : Nat) (hk : l.length < k) (hl : l.length ≤ 1048576) : laws_eqIntS.f k l l = some true := by
 unfold laws_eqIntS.f
 rw [if_pos rfl]
 exact eq_loop l hl l.length k 0 (by omega) hk

theorem l1In_eq (n lo hi : Int) : spec_l1In.f n lo hi = some (ibB n lo hi) := by
 unfold spec_l1In.f ibB
 by_cases h : n ≥ lo
 ·rw [if_pos h]; simp [h]
 ·rw [if_neg h]; simp [h]

theorem in_eq (n lo hi : Int) : impl_in.f n lo hi = some (ibB n lo hi) := by
 unfold impl_in.f ibB
 by_cases h : n ≥ lo
 ·rw [if_pos h]; simp [h]
 ·rw [if_neg h]; simp [h]

theorem within_eq (l : List Int) (n m : Int) : impl_within.f l n m = some (okB l n m) := by
 unfold impl_within.f okB
 rw [List.all_eq_not_any_not]
 rfl

theorem all_loop (l : List Int) (m : Int) (hl : l.length ≤ 1048576) (d : Nat) : ∀ (k i : Nat), i + d = l.length → d < k → spec_l1All.l0 k l m (i : Int) = some ((l.drop i).all fun x => ibB x (wrap64 (-m)) m) := by
 induction d with
 | zero =>
  intro k i hi hk
  obtain ⟨k, rfl⟩ : ∃ m, k = m + 1 := ⟨k - 1, by omega⟩
  simp only [spec_l1All.l0]
  rw [if_neg (by omega), List.drop_of_length_le (by omega)]
  rfl
 | succ d ih =>
  intro k i hi hk
  obtain ⟨k, rfl⟩ : ∃ m, k = m + 1 := ⟨k - 1, by omega⟩
  have hlt : i < l.length := by omega
  simp only [spec_l1All.l0]
  rw [if_pos (by omega), if_pos (by omega), l1In_eq, getD_at l i hlt, List.drop_eq_getElem_cons hlt, List.all_cons]
  simp only [Option.bind_some, if_true, bne_self_eq_false, Bool.false_eq_true, if_false]
  cases ibB l[i] (wrap64 (-m)) m with
  | false => rfl
  | true =>
   rw [if_pos rfl, wrap_id (by omega) (by omega), show (i : Int) + 1 = ((i + 1 : Nat) : Int) from by omega, ih k (i + 1) (by omega) (by omega)]
   rfl
theorem l1All_eq (l : List Int) (n m : Int) (k : Nat) (hk : l.length < k) (hl : l.length ≤ 1048576) : spec_l1All.f k l n m = some (okB l n m) := by
 unfold spec_l1All.f okB
 by_cases h : (l.length : Int) = n
 ·rw [if_pos h, decide_eq_true h, Bool.true_and]
  have := all_loop l m hl l.length k 0 (by omega) hk
  simpa using this
 ·rw [if_neg h, decide_eq_false h, Bool.false_and]

theorem byte_one (x : Nat) (h : x < 256) : strOfNums [wrap64 (x : Int) % 256] = ⟨#[UInt8.ofNat x]⟩ := by
 rw [wrap_id (by omega) (by omega)]
 have e : ((x : Int) % 256) = (x : Int) := by omega
 rw [e]
 simp [strOfNums]
theorem dig_loop (d : Nat) : ∀ (u : Nat) (acc : List UInt8) (k : Nat), u < 10 ^ (d + 1) → u < 9223372036854775807 → acc.length + d ≤ 1000 → d < k →
  spec_l1Digits.l0 k (u : Int) ⟨acc.toArray⟩ = some ⟨(Go.Lib.decDigits u ++ acc).toArray⟩ := by
 induction d with
 | zero =>
  intro u acc k hu hu2 ha hk
  obtain ⟨k, rfl⟩ : ∃ m, k = m + 1 := ⟨k - 1, by omega⟩
  have h10 : u < 10 := by simpa using hu
  simp only [spec_l1Digits.l0]
  rw [if_neg (by omega), show (48 : Int) + (u : Int) = ((48 + u : Nat) : Int) by omega]
  simp only [Option.bind_some]
  rw [byte_one _ (by omega), if_pos (by simp [ByteArray.size]; omega), Go.Lib.decDigits, dif_pos h10]
  congr 1
 | succ d ih =>
  intro u acc k hu hu2 ha hk
  obtain ⟨k, rfl⟩ : ∃ m, k = m + 1 := ⟨k - 1, by omega⟩
  by_cases h10 : u < 10
  ·simp only [spec_l1Digits.l0]
   rw [if_neg (by omega), show (48 : Int) + (u : Int) = ((48 + u : Nat) : Int) by omega]
   simp only [Option.bind_some]
   rw [byte_one _ (by omega), if_pos (by simp [ByteArray.size]; omega), Go.Lib.decDigits, dif_pos h10]
   congr 1
  ·simp only [spec_l1Digits.l0]
   have e1 : Int.tmod (u : Int) 10 = ((u % 10 : Nat) : Int) := by rw [Int.tmod_eq_emod_of_nonneg (by omega)]; omega
   have e2 : Int.tdiv (u : Int) 10 = ((u / 10 : Nat) : Int) := by rw [Int.tdiv_eq_ediv_of_nonneg (by omega)]; omega
   rw [if_pos (by omega), e1, e2, show (48 : Int) + ((u % 10 : Nat) : Int) = ((48 + u % 10 : Nat) : Int) by omega]
   simp only [Option.bind_some]
   rw [byte_one _ (by omega), if_pos (by simp [ByteArray.size]; omega), wrap_id (by omega) (by omega)]
   have e3 : (⟨#[UInt8.ofNat (48 + u % 10)]⟩ : ByteArray) ++ ⟨acc.toArray⟩ = ⟨(UInt8.ofNat (48 + u % 10) :: acc).toArray⟩ := by
    apply ByteArray.ext
    simp
   rw [e3, ih (u / 10) _ k (by rw [Nat.pow_succ] at hu; exact Nat.div_lt_of_lt_mul (by omega)) (by omega) (by simp; omega) (by omega)]
   rw [Go.Lib.decDigits.eq_1 u, dif_neg h10]
   simp
theorem digits_eq (n : Int) (h0 : -999999999999 ≤ n) (h1 : n ≤ 999999999999) (k : Nat) (hk : 20 < k) : spec_l1Digits.f k n = some ⟨(Go.Lib.itoa n).toArray⟩ := by
 obtain ⟨k, rfl⟩ : ∃ m, k = m + 2 := ⟨k - 2, by omega⟩
 have key : ∀ (u : Nat) (k : Nat), u ≤ 999999999999 → 15 < k → spec_l1Digits.f (k + 1) (u : Int) = some ⟨(Go.Lib.decDigits u).toArray⟩ := by
  intro u k hu hk
  simp only [spec_l1Digits.f]
  rw [if_neg (by omega)]
  have := dig_loop 12 u [] k (by omega) (by omega) (by simp) (by omega)
  simpa using this
 unfold Go.Lib.itoa
 by_cases hn : n < 0
 ·rw [if_pos hn]
  simp only [spec_l1Digits.f]
  rw [if_pos hn, wrap_id (by omega) (by omega), show -n = ((n.natAbs : Nat) : Int) by omega]
  have := key n.natAbs k (by omega) (by omega)
  simp only [spec_l1Digits.f] at this
  rw [this]
  simp only [Option.bind_some]
  have hl := Go.Lib.itoa_length_le (n.natAbs : Int) (by omega) (by omega)
  unfold Go.Lib.itoa at hl
  rw [if_neg (by omega), show ((n.natAbs : Nat) : Int).toNat = n.natAbs by omega] at hl
  rw [if_pos (by simp [ByteArray.size]; omega)]
  congr 1
 ·rw [if_neg hn]
  have := key n.toNat (k + 1) (by omega) (by omega)
  rw [show ((n.toNat : Nat) : Int) = n by omega] at this
  exact this

def wordL (c : Int) : List UInt8 := if c = 1 then [100, 111, 110, 101] else if c = 2 then [115, 116, 111, 112, 112, 101, 100] else [111, 118, 101, 114]
def words4 : List ByteArray := [(⟨#[]⟩ : ByteArray), (⟨#[100, 111, 110, 101]⟩ : ByteArray), (⟨#[115, 116, 111, 112, 112, 101, 100]⟩ : ByteArray), (⟨#[111, 118, 101, 114]⟩ : ByteArray)]
theorem word_at (c : Int) (h0 : 1 ≤ c) (h1 : c ≤ 3) : rdOf ByteArray.empty words4 c = ⟨(wordL c).toArray⟩ := by
 obtain rfl | rfl | rfl : c = 1 ∨ c = 2 ∨ c = 3 := by omega
 all_goals rfl
theorem joinedL_cons (a : Int) (l : List Int) : joinedL (a :: l) = (32 :: Go.Lib.itoa a) ++ joinedL l := by simp [joinedL]
theorem word_len (c : Int) : (wordL c).length ≤ 7 := by unfold wordL; split <;> (try split) <;> simp
/-- What may have come of an act. -/
def resB (c : Int) (l : List Int) : Bool := ibB c 1 3 && ((decide (c = 1) || decide (l.length = 0)) && (decide (l.length ≤ 6) && okB l l.length 999999999999))
/-- Its text. -/
def resT (c : Int) (l : List Int) : ByteArray := if resB c l = true then ⟨(wordL c ++ joinedL l).toArray⟩ else ⟨#[]⟩
theorem resB_of {c : Int} {l : List Int} (h : resB c l = true) : 1 ≤ c ∧ c ≤ 3 ∧ l.length ≤ 6 ∧ ∀ x ∈ l, -999999999999 ≤ x ∧ x ≤ 999999999999 := by
 unfold resB at h
 simp only [Bool.and_eq_true, ibB_iff, decide_eq_true_eq, okB_iff] at h
 exact ⟨h.1.1, h.1.2, h.2.2.1, fun x hx => by have := h.2.2.2.2 x hx; rw [wrap_id (x := -999999999999) (by omega) (by omega)] at this; exact this⟩
theorem res_loop (l : List Int) (hl : l.length ≤ 6) (hx : ∀ x ∈ l, -999999999999 ≤ x ∧ x ≤ 999999999999) (c : Int) (d : Nat) : ∀ (k i : Nat) (acc : List UInt8), i + d = l.length → d + 21 < k → acc.length + 22 * d ≤ 1000 →
  spec_ResText.l0 k ⟨acc.toArray⟩ (i : Int) c l = some ⟨(acc ++ joinedL (l.drop i)).toArray⟩ := by
 induction d with
 | zero =>
  intro k i acc hi hk ha
  obtain ⟨k, rfl⟩ : ∃ m, k = m + 1 := ⟨k - 1, by omega⟩
  simp only [spec_ResText.l0]
  rw [if_neg (by omega), List.drop_of_length_le (by omega)]
  simp [joinedL]
 | succ d ih =>
  intro k i acc hi hk ha
  obtain ⟨k, rfl⟩ : ∃ m, k = m + 1 := ⟨k - 1, by omega⟩
  have hlt : i < l.length := by omega
  have hb := hx l[i] (List.getElem_mem hlt)
  have hil := Go.Lib.itoa_length_le l[i] (by omega) (by omega)
  simp only [spec_ResText.l0]
  rw [if_pos (by omega), if_pos (by simp [ByteArray.size]; omega), if_pos (by omega), getD_at l i hlt, digits_eq l[i] hb.1 hb.2 k (by omega)]
  simp only [Option.bind_some]
  have e1 : (⟨acc.toArray⟩ : ByteArray) ++ ⟨#[32]⟩ ++ ⟨(Go.Lib.itoa l[i]).toArray⟩ = ⟨(acc ++ (32 :: Go.Lib.itoa l[i])).toArray⟩ := by
   apply ByteArray.ext
   simp
  rw [if_pos (by rw [ByteArray.size_append]; simp [ByteArray.size]; omega), e1, wrap_id (by omega) (by omega), show (i : Int) + 1 = ((i + 1 : Nat) : Int) by omega,
   ih k (i + 1) _ (by omega) (by omega) (by simp; omega), List.drop_eq_getElem_cons hlt, joinedL_cons, List.append_assoc]

theorem specRes_eq (c : Int) (l : List Int) (k : Nat) (hk : l.length + 60 < k) (hl : l.length ≤ 1048576) : spec_ResText.f k c l = some (resT c l) := by
 obtain ⟨k, rfl⟩ : ∃ m, k = m + 1 := ⟨k - 1, by omega⟩
 have hj : ∀ b, resB c l = !b → spec_ResText.j0 (k + 1) words4 b c l = some (resT c l) := by
  intro b hb
  simp only [spec_ResText.j0]
  unfold resT
  rw [hb]
  cases b with
  | true => rfl
  | false =>
   obtain ⟨h1, h2, h3, h4⟩ := resB_of (c := c) (l := l) (by rw [hb]; rfl)
   have hw := word_len c
   rw [if_neg (by decide), if_pos (by omega), if_pos (show c < (words4.length : Int) by show c < 4; omega), word_at c h1 h2]
   have := res_loop l h3 h4 c l.length k 0 (wordL c) (by omega) (by omega) (by omega)
   rw [show ((0 : Nat) : Int) = 0 from rfl] at this
   rw [this, if_pos (by rfl)]
   simp
 have hbr : ∀ b, resB c l = !b → spec_ResText.j0 (k + 1) [(⟨#[]⟩ : ByteArray), (⟨#[100, 111, 110, 101]⟩ : ByteArray), (⟨#[115, 116, 111, 112, 112, 101, 100]⟩ : ByteArray), (⟨#[111, 118, 101, 114]⟩ : ByteArray)] b c l = some (resT c l) := hj
 unfold spec_ResText.f
 rw [l1In_eq, l1All_eq l _ _ (k + 1) (by omega) hl]
 simp only [Option.bind_some]
 have hB : resB c l = (ibB c 1 3 && ((decide (c = 1) || decide (l.length = 0)) && (decide (l.length ≤ 6) && okB l l.length 999999999999))) := rfl
 cases hi : ibB c 1 3 with
 | false => rw [if_neg (by decide)]; exact hbr true (by rw [hB, hi]; rfl)
 | true =>
  rw [if_pos rfl]
  by_cases h1 : c = 1
  ·rw [if_pos h1]
   by_cases h6 : (l.length : Int) > 6
   ·rw [if_pos h6]; exact hbr true (by rw [hB, hi, decide_eq_false (show ¬ l.length ≤ 6 by omega)]; simp)
   ·rw [if_neg h6]; exact hbr _ (by rw [hB, hi, decide_eq_true h1, decide_eq_true (show l.length ≤ 6 by omega)]; simp)
  ·rw [if_neg h1]
   by_cases h0 : (l.length : Int) > 0
   ·rw [if_pos h0]; exact hbr true (by rw [hB, hi, decide_eq_false h1, decide_eq_false (show ¬ l.length = 0 by omega)]; simp)
   ·rw [if_neg h0]
    by_cases h6 : (l.length : Int) > 6
    ·omega
    ·rw [if_neg h6]; exact hbr _ (by rw [hB, hi, decide_eq_false h1, decide_eq_true (show l.length = 0 by omega), decide_eq_true (show l.length ≤ 6 by omega)]; simp)

theorem implRes_eq (c : Int) (l : List Int) (k : Nat) (hk : 0 < k) : impl_ResText.f k c l = some (resT c l) := by
 obtain ⟨k, rfl⟩ : ∃ m, k = m + 1 := ⟨k - 1, by omega⟩
 have hbr : ∀ b, resB c l = !b → impl_ResText.j0 (k + 1) b c l = some (resT c l) := by
  intro b hb
  simp only [impl_ResText.j0]
  unfold resT
  rw [hb]
  cases b with
  | true => rfl
  | false =>
   obtain ⟨h1, h2, h3, h4⟩ := resB_of (c := c) (l := l) (by rw [hb]; rfl)
   have hw := word_len c
   have hcw : impl_codeWords.f = some words4 := rfl
   have hjl := joinedL_len l (fun x hx => by have := h4 x hx; omega)
   rw [if_neg (by decide), hcw]
   simp only [Option.bind_some]
   rw [if_pos (by omega), if_pos (show c < (words4.length : Int) by show c < 4; omega), word_at c h1 h2]
   unfold impl_joined.f
   rw [if_pos ⟨h3, List.all_eq_true.mpr fun x hx => by have := h4 x hx; simp [inB, this]⟩]
   simp only [Option.bind_some]
   rw [if_pos (by simp [ByteArray.size]; omega), if_pos (by rfl)]
   congr 1 <;> (apply ByteArray.ext; simp)
 unfold impl_ResText.f
 rw [in_eq, within_eq]
 simp only [Option.bind_some]
 have hB : resB c l = (ibB c 1 3 && ((decide (c = 1) || decide (l.length = 0)) && (decide (l.length ≤ 6) && okB l l.length 999999999999))) := rfl
 cases hi : ibB c 1 3 with
 | false => rw [if_neg (by decide)]; exact hbr true (by rw [hB, hi]; rfl)
 | true =>
  rw [if_pos rfl]
  by_cases h6 : (l.length : Int) > 6
  ·rw [if_pos h6]; exact hbr true (by rw [hB, hi, decide_eq_false (show ¬ l.length ≤ 6 by omega)]; simp)
  ·rw [if_neg h6]
   by_cases h1 : c = 1
   ·rw [if_pos h1]; exact hbr _ (by rw [hB, hi, decide_eq_true h1, decide_eq_true (show l.length ≤ 6 by omega)]; simp)
   ·rw [if_neg h1]
    by_cases h0 : (l.length : Int) > 0
    ·rw [if_pos h0]; exact hbr true (by rw [hB, hi, decide_eq_false h1, decide_eq_false (show ¬ l.length = 0 by omega)]; simp)
    ·rw [if_neg h0]; exact hbr _ (by rw [hB, hi, decide_eq_false h1, decide_eq_true (show l.length = 0 by omega), decide_eq_true (show l.length ≤ 6 by omega)]; simp)

theorem sz_res (c : Int) (l : List Int) (n : Int) (h0 : 0 ≤ n) (h1 : n ≤ 1048576) (hl : l.length ≤ 9223372036854775807) :
  ∃ t, laws_szResResult.f c l n = some t ∧ (t < 0 ∨ (0 ≤ t ∧ t + l.length = n)) := by
 unfold laws_szResResult.f
 obtain ⟨t, e, h⟩ := sz_int l n h0 h1 hl
 rw [e]; simp only [Option.bind_some, if_true, bne_self_eq_false, Bool.false_eq_true, if_false]
 rcases h with h | ⟨ha, hb⟩
 ·rw [if_pos h]; exact ⟨_, rfl, .inl (by decide)⟩
 ·rw [if_neg (by omega)]; exact ⟨_, rfl, .inr ⟨ha, hb⟩⟩
theorem to_res (c : Int) (l : List Int) (k : Nat) (hk : l.length < k) (hl : l.length ≤ 1048576) : laws_toResResult.f k c l = some (c, l) := by
 unfold laws_toResResult.f
 rw [to_int l k hk hl]; simp only [Option.bind_some, if_true, bne_self_eq_false, Bool.false_eq_true, if_false]
theorem eq_res (c : Int) (l : List Int) (k : Nat) (hk : l.length < k) (hl : l.length ≤ 1048576) : laws_eqResResult.f k c l c l = some true := by
 unfold laws_eqResResult.f
 rw [if_pos rfl, eq_int l k hk hl]; simp only [Option.bind_some, if_true, bne_self_eq_false, Bool.false_eq_true, if_false]

theorem FnExactResOk : laws_FnExactResOk.Pure := by
 intro c l hc hl
 refine ⟨1048700, ?_⟩
 unfold laws_FnExactResOk.f
 obtain ⟨t, e, h⟩ := sz_res c l 1048576 (by omega) (by omega) hl.1
 rw [e]; simp only [Option.bind_some, if_true, bne_self_eq_false, Bool.false_eq_true, if_false]
 rcases h with h | ⟨h1, h2⟩
 ·rw [if_pos h]
 ·rw [if_neg (by omega), to_res c l _ (by omega) (by omega)]; simp only [Option.bind_some, if_true, bne_self_eq_false, Bool.false_eq_true, if_false]
  unfold spec_ResOk.f impl_ResOk.f
  rw [specRes_eq c l _ (by omega) (by omega), implRes_eq c l _ (by omega)]; simp only [Option.bind_some, if_true, bne_self_eq_false, Bool.false_eq_true, if_false]
  rw [eq_res c l _ (by omega) (by omega)]; rfl

end Go.Proofs.YtcafmfmlnfaogaaDoor.Pure
