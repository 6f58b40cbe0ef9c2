/- The plain law FnFrmInto: what the printed functions compute answers as the statement says. -/
import Derived.Test.YtopbdoilpdpkmaaQFnFrmIntox10
import Derived.OpenShut
set_option linter.unusedVariables false
set_option linter.unusedSimpArgs false
namespace Go.Proofs.Ytopbdoilpdpkmaa.Pure
open Go.RowKit Go.Proofs.Ytopbdoilpdpkmaa.QFnFrmInto Go.Proofs.YtopbdoilpdpkmaaW.PrintWords Go.Proofs.YtopbdoilpdpkmaaW.PrintLast Go.Proofs.Ytopbdoilpdpkmaa.HWords

theorem bd64 {x : Int} (h : (Lit.int .i64 x).wf = true) : -9223372036854775808 ≤ x ∧ x ≤ 9223372036854775807 := bounds_i64 h
theorem wrap_id {x : Int} (h0 : -9223372036854775808 ≤ x) (h1 : x ≤ 9223372036854775807) : wrap64 x = x := by unfold wrap64; omega
theorem wrap_l (x y : Int) : wrap64 (wrap64 x + y) = wrap64 (x + y) := by unfold wrap64; omega
theorem wrap_r (x y : Int) : wrap64 (x + wrap64 y) = wrap64 (x + y) := by unfold wrap64; omega
theorem wrap_ll (x y z : Int) : wrap64 (wrap64 x + y + z) = wrap64 (x + y + z) := by unfold wrap64; omega
theorem wrap_lr (x y z : Int) : wrap64 (x + wrap64 y + z) = wrap64 (x + y + z) := by unfold wrap64; omega
theorem getD_at (l : List Int) (i : Nat) (h : i < l.length) : rd l (i : Int) = l[i] := by
  unfold rd
  rw [show ((i : Int)).toNat = i from by omega, List.getD_eq_getElem?_getD, List.getElem?_eq_getElem h]
  rfl
/-- The plain 'within bounds'. -/
def ibB (n lo hi : Int) : Bool := decide (lo ≤ n) && decide (n ≤ hi)
/-- As many as must be, each within a bound. -/
def okB (l : List Int) (n m : Int) : Bool := decide ((l.length : Int) = n) && l.all (fun x => ibB x (wrap64 (-m)) m)
theorem ibB_iff {n lo hi : Int} : ibB n lo hi = true ↔ lo ≤ n ∧ n ≤ hi := by unfold ibB; simp
theorem okB_iff {l : List Int} {n m : Int} : okB l n m = true ↔ (l.length : Int) = n ∧ ∀ x ∈ l, wrap64 (-m) ≤ x ∧ x ≤ m := by
  unfold okB ibB; simp

theorem l1In_eq (n lo hi : Int) : spec_l1In.f n lo hi = some (ibB n lo hi) := by
  unfold spec_l1In.f ibB
  by_cases h : n ≥ lo
  · rw [if_pos h]; simp [h]
  · rw [if_neg h]; simp [h]

theorem in_eq (n lo hi : Int) : impl_in.f n lo hi = some (ibB n lo hi) := by
  unfold impl_in.f ibB
  by_cases h : n ≥ lo
  · rw [if_pos h]; simp [h]
  · rw [if_neg h]; simp [h]

theorem within_eq (l : List Int) (n m : Int) : impl_within.f l n m = some (okB l n m) := by
  unfold impl_within.f okB
  rw [List.all_eq_not_any_not]
  rfl

theorem all_loop (l : List Int) (m : Int) (hl : l.length ≤ 1048576) (d : Nat) : ∀ (k i : Nat), i + d = l.length → d < k → spec_l1All.l0 k l m (i : Int) = some ((l.drop i).all fun x => ibB x (wrap64 (-m)) m) := by
  induction d with
  | zero =>
    intro k i hi hk
    obtain ⟨k, rfl⟩ : ∃ m, k = m + 1 := ⟨k - 1, by omega⟩
    simp only [spec_l1All.l0]
    rw [if_neg (by omega), List.drop_of_length_le (by omega)]
    rfl
  | succ d ih =>
    intro k i hi hk
    obtain ⟨k, rfl⟩ : ∃ m, k = m + 1 := ⟨k - 1, by omega⟩
    have hlt : i < l.length := by omega
    simp only [spec_l1All.l0]
    rw [if_pos (by omega), if_pos (by omega), l1In_eq, getD_at l i hlt, List.drop_eq_getElem_cons hlt, List.all_cons]
    simp only [Option.bind_some, if_true, bne_self_eq_false, Bool.false_eq_true, if_false]
    cases ibB l[i] (wrap64 (-m)) m with
    | false => rfl
    | true =>
      rw [if_pos rfl, wrap_id (by omega) (by omega), show (i : Int) + 1 = ((i + 1 : Nat) : Int) from by omega, ih k (i + 1) (by omega) (by omega)]
      rfl
theorem l1All_eq (l : List Int) (n m : Int) (k : Nat) (hk : l.length < k) (hl : l.length ≤ 1048576) : spec_l1All.f k l n m = some (okB l n m) := by
  unfold spec_l1All.f okB
  by_cases h : (l.length : Int) = n
  · rw [if_pos h, decide_eq_true h, Bool.true_and]
    have := all_loop l m hl l.length k 0 (by omega) hk
    simpa using this
  · rw [if_neg h, decide_eq_false h, Bool.false_and]

theorem impl_Val_eq (l : List Int) : impl_ValOk.f l = some (okB l 3 10000) := by
  unfold impl_ValOk.f
  rw [within_eq]; rfl

theorem impl_Arg_eq (l : List Int) : impl_ArgOk.f l = some (okB l 2 9) := by
  unfold impl_ArgOk.f
  rw [within_eq]; rfl

def frmB (C D : List Int) (K : Int) : Bool := okB C 3 10000000 && (okB D 2 10000000 && ibB K (-10000000) 10000000)

theorem spec_Frm_eq (C D : List Int) (K : Int) (k : Nat) (hc : C.length < k) (hd : D.length < k) (hc2 : C.length ≤ 1048576) (hd2 : D.length ≤ 1048576) : spec_FrmOk.f k C D K = some (frmB C D K) := by
  unfold spec_FrmOk.f frmB
  rw [l1All_eq C _ _ k hc hc2]; simp only [Option.bind_some, if_true, bne_self_eq_false, Bool.false_eq_true, if_false]
  cases okB C 3 10000000 with
  | false => rfl
  | true =>
    rw [if_pos rfl, l1All_eq D _ _ k hd hd2]; simp only [Option.bind_some, if_true, bne_self_eq_false, Bool.false_eq_true, if_false]
    cases okB D 2 10000000 with
    | false => rfl
    | true => rw [if_pos rfl, l1In_eq]; rfl

theorem impl_Frm_eq (C D : List Int) (K : Int) : impl_FrmOk.f C D K = some (frmB C D K) := by
  unfold impl_FrmOk.f frmB
  rw [within_eq]; simp only [Option.bind_some, if_true, bne_self_eq_false, Bool.false_eq_true, if_false]
  cases okB C 3 10000000 with
  | false => rfl
  | true =>
    rw [if_pos rfl, within_eq]; simp only [Option.bind_some, if_true, bne_self_eq_false, Bool.false_eq_true, if_false]
    cases okB D 2 10000000 with
    | false => rfl
    | true => rw [if_pos rfl, in_eq]; rfl

theorem spec_Zero_eq : spec_FrmZero.f = some ([0, 0, 0], [0, 0], 0) := rfl

theorem impl_Zero_eq : impl_FrmZero.f = some ([0, 0, 0], [0, 0], 0) := rfl

/-- The form that is one pot, or nothing. -/
def potF (v : Int) : List Int × List Int × Int := if v = 0 then ([1, 0, 0], [0, 0], 0) else if v = 1 then ([0, 1, 0], [0, 0], 0) else if v = 2 then ([0, 0, 1], [0, 0], 0) else ([], [], 0)
theorem potF_len (v : Int) : (potF v).1.length ≤ 3 ∧ (potF v).2.1.length ≤ 2 := by
  unfold potF; repeat' split
  all_goals simp

theorem impl_Pot_eq (v : Int) : impl_FrmPot.f v = some (potF v) := by
  unfold impl_FrmPot.f
  rw [in_eq]; simp only [Option.bind_some]
  by_cases h : ibB v 0 2 = true
  · obtain ⟨h0, h1⟩ := ibB_iff.mp h
    rw [h]
    obtain rfl | rfl | rfl : v = 0 ∨ v = 1 ∨ v = 2 := by omega
    all_goals rfl
  · rw [Bool.eq_false_iff.mpr h]
    have h' : ¬ (0 ≤ v ∧ v ≤ 2) := fun hh => h (ibB_iff.mpr hh)
    unfold potF
    rw [if_neg (by omega : ¬ v = 0), if_neg (by omega : ¬ v = 1), if_neg (by omega : ¬ v = 2)]
    rfl

/-- What a form of three and two is, as the reference sums it. -/
def atV (c0 c1 c2 d0 d1 K v0 v1 v2 a0 a1 : Int) : Int := wrap64 (K + c0 * v0 + c1 * v1 + c2 * v2 + d0 * a0 + d1 * a1)

theorem dot3V (c0 c1 c2 v0 v1 v2 : Int) (k : Nat) : impl_dot.f (k + 4) [c0, c1, c2] [v0, v1, v2] = some (wrap64 (c0 * v0 + c1 * v1 + c2 * v2)) := by
  have w1 : wrap64 (0 + 1) = 1 := by unfold wrap64; omega
  have w2 : wrap64 (1 + 1) = 2 := by unfold wrap64; omega
  have w3 : wrap64 (2 + 1) = 3 := by unfold wrap64; omega
  unfold impl_dot.f
  simp only [impl_dot.l0, w1, w2, w3]
  simp [rd, wrap_l, wrap_r]
theorem dot2V (c0 c1 v0 v1 : Int) (k : Nat) : impl_dot.f (k + 3) [c0, c1] [v0, v1] = some (wrap64 (c0 * v0 + c1 * v1)) := by
  have w1 : wrap64 (0 + 1) = 1 := by unfold wrap64; omega
  have w2 : wrap64 (1 + 1) = 2 := by unfold wrap64; omega
  unfold impl_dot.f
  simp only [impl_dot.l0, w1, w2]
  simp [rd, wrap_l, wrap_r]
theorem at_eq (c0 c1 c2 d0 d1 K v0 v1 v2 a0 a1 : Int) (k : Nat) : impl_FrmForm_at.f (k + 4) [c0, c1, c2] [d0, d1] K [v0, v1, v2] [a0, a1] = some (atV c0 c1 c2 d0 d1 K v0 v1 v2 a0 a1) := by
  unfold impl_FrmForm_at.f
  rw [dot3V, show k + 4 = (k + 1) + 3 from rfl, dot2V]
  simp only [Option.bind_some, atV, wrap_l, wrap_r, wrap_ll, wrap_lr]
  have e : ∀ x y z : Int, x = y → some (wrap64 x) = some (wrap64 y) := fun x y _ h => by rw [h]
  refine e _ _ 0 ?_
  omega

theorem len3 {l : List Int} (h : (l.length : Int) = 3) : ∃ a b c, l = [a, b, c] := by
  match l, h with
  | [a, b, c], _ => exact ⟨a, b, c, rfl⟩
  | [], h => simp at h
  | [_], h => simp at h
  | [_, _], h => simp at h
  | _ :: _ :: _ :: _ :: _, h => simp at h; omega
theorem len2 {l : List Int} (h : (l.length : Int) = 2) : ∃ a b, l = [a, b] := by
  match l, h with
  | [a, b], _ => exact ⟨a, b, rfl⟩
  | [], h => simp at h
  | [_], h => simp at h
  | _ :: _ :: _ :: _, h => simp at h; omega
theorem okB_len {l : List Int} {n m : Int} (h : okB l n m = true) : (l.length : Int) = n := (okB_iff.mp h).1
theorem frmB_len {C D : List Int} {K : Int} (h : frmB C D K = true) : (C.length : Int) = 3 ∧ (D.length : Int) = 2 := by
  unfold frmB at h
  simp only [Bool.and_eq_true] at h
  exact ⟨okB_len h.1, okB_len h.2.1⟩

theorem inB_ib (n lo hi : Int) : inB n lo hi = ibB n lo hi := rfl

theorem withinB_ok (l : List Int) (n m : Int) : withinB l n m = okB l n m := by
  unfold withinB okB
  rw [List.all_eq_not_any_not]
  rfl

theorem l1Sum_eq (a0 a1 a2 e0 e1 K c0 c1 c2 d0 d1 gK n : Int) (k : Nat) : spec_l1Sum.f (k + 7) [a0, a1, a2] [e0, e1] K [c0, c1, c2] [d0, d1] gK n =
    some ([wrap64 (a0 + wrap64 (n * c0)), wrap64 (a1 + wrap64 (n * c1)), wrap64 (a2 + wrap64 (n * c2))], [wrap64 (e0 + wrap64 (n * d0)), wrap64 (e1 + wrap64 (n * d1))], wrap64 (K + wrap64 (n * gK))) := by
  have w1 : wrap64 (0 + 1) = 1 := by unfold wrap64; omega
  have w2 : wrap64 (1 + 1) = 2 := by unfold wrap64; omega
  have w3 : wrap64 (2 + 1) = 3 := by unfold wrap64; omega
  unfold spec_l1Sum.f
  rw [spec_Zero_eq]
  simp only [Option.bind_some, spec_l1Sum.l0, spec_l1Sum.l1, w1, w2, w3]
  simp [rd]

theorem addL3 (x0 x1 x2 c0 c1 c2 t : Int) : addL 5 [x0, x1, x2] [c0, c1, c2] t 0 = some [wrap64 (x0 + wrap64 (t * c0)), wrap64 (x1 + wrap64 (t * c1)), wrap64 (x2 + wrap64 (t * c2))] := by
  have w1 : wrap64 (0 + 1) = 1 := by unfold wrap64; omega
  have w2 : wrap64 (1 + 1) = 2 := by unfold wrap64; omega
  have w3 : wrap64 (2 + 1) = 3 := by unfold wrap64; omega
  simp only [addL, w1, w2, w3]
  simp [rd]
theorem addL2 (x0 x1 c0 c1 t : Int) : addL 5 [x0, x1] [c0, c1] t 0 = some [wrap64 (x0 + wrap64 (t * c0)), wrap64 (x1 + wrap64 (t * c1))] := by
  have w1 : wrap64 (0 + 1) = 1 := by unfold wrap64; omega
  have w2 : wrap64 (1 + 1) = 2 := by unfold wrap64; omega
  simp only [addL, w1, w2]
  simp [rd]

theorem at_eqk (c0 c1 c2 d0 d1 K v0 v1 v2 a0 a1 : Int) (k : Nat) (hk : 4 ≤ k) : impl_FrmForm_at.f k [c0, c1, c2] [d0, d1] K [v0, v1, v2] [a0, a1] = some (atV c0 c1 c2 d0 d1 K v0 v1 v2 a0 a1) := by
  obtain ⟨k, rfl⟩ : ∃ m, k = m + 4 := ⟨k - 4, by omega⟩
  exact at_eq c0 c1 c2 d0 d1 K v0 v1 v2 a0 a1 k

theorem bd8 {x : Int} (h : (Lit.int .u8 x).wf = true) : 0 ≤ x ∧ x ≤ 255 := bounds_u8 h
theorem rd8 (L : List Int) (hL : ∀ x ∈ L, (Lit.int .u8 x).wf = true) (i : Int) (h0 : 0 ≤ i) (h1 : i < (L.length : Int)) : 0 ≤ rd L i ∧ rd L i ≤ 255 := by
  obtain ⟨n, rfl⟩ := Int.eq_ofNat_of_zero_le h0
  have hn : n < L.length := by omega
  rw [getD_at L n hn]
  exact bd8 (hL _ (List.getElem_mem hn))
theorem xor_nonneg (x y : Int) (h0 : 0 ≤ x) (h1 : x < 4611686018427387904) (h2 : 0 ≤ y) (h3 : y < 4611686018427387904) : 0 ≤ Go.bits .xor .i64 x y := by
  obtain ⟨a, rfl⟩ := Int.eq_ofNat_of_zero_le h0
  obtain ⟨b, rfl⟩ := Int.eq_ofNat_of_zero_le h2
  have ha : a < 2 ^ 62 := by omega
  have hb : b < 2 ^ 62 := by omega
  have hx := Nat.xor_lt_two_pow ha hb
  have ha' : a % 2 ^ IntKind.i64.bits = a := Nat.mod_eq_of_lt (Nat.lt_of_lt_of_le ha (by decide))
  have hb' : b % 2 ^ IntKind.i64.bits = b := Nat.mod_eq_of_lt (Nat.lt_of_lt_of_le hb (by decide))
  simp only [Go.bits, BitVec.ofInt_natCast, BitVec.toNat_xor, BitVec.toNat_ofNat, ha', hb']
  rw [IntKind.wrap_i64]
  omega
theorem pick_eq (L : List Int) (hL : ∀ x ∈ L, (Lit.int .u8 x).wf = true) (hl : L.length ≤ 2000) (s n : Int) (k : Nat) (hk : 1 ≤ k) (h0 : 0 ≤ s) (h1 : s ≤ 1000000) (hn : 1 ≤ n) : ∃ v, spec_l20Rd_pick.f k L s n = some (v, s + 1) ∧ 0 ≤ v ∧ v < n := by
  obtain ⟨k, rfl⟩ : ∃ m, k = m + 1 := ⟨k - 1, by omega⟩
  have e1 : wrap64 (s + 1) = s + 1 := wrap_id (by omega) (by omega)
  have e2 : wrap64 (s + 1 - 1) = s := by rw [wrap_id (by omega) (by omega)]; omega
  unfold spec_l20Rd_pick.f
  rw [if_neg (by omega)]
  simp only [spec_l20Rd_pick.j0, e1, e2]
  by_cases hz : (L.length : Int) = 0
  · rw [if_pos (beq_iff_eq.mpr hz)]
    exact ⟨0, rfl, by omega, by omega⟩
  rw [if_neg (by rw [beq_eq_false_iff_ne.mpr hz]; decide)]
  have hp : 0 < (L.length : Int) := by omega
  by_cases hs : s < (L.length : Int)
  · have := rd8 L hL s h0 hs
    rw [if_pos hs, if_pos h0, if_neg (by omega), wrap_id (by omega) (by omega)]
    exact ⟨_, rfl, Int.tmod_nonneg _ this.1, Int.tmod_lt_of_pos _ (by omega)⟩
  · rw [if_neg hs, if_neg hz]
    have i1 : 0 ≤ Int.tmod s (L.length : Int) := Int.tmod_nonneg _ h0
    have i2 : Int.tmod s (L.length : Int) < (L.length : Int) := Int.tmod_lt_of_pos _ hp
    have e3 : wrap64 (wrap64 (s * 7) + 3) = s * 7 + 3 := by rw [wrap_id (x := s * 7) (by omega) (by omega), wrap_id (by omega) (by omega)]
    rw [e3]
    have j1 : 0 ≤ Int.tmod (s * 7 + 3) (L.length : Int) := Int.tmod_nonneg _ (by omega)
    have j2 : Int.tmod (s * 7 + 3) (L.length : Int) < (L.length : Int) := Int.tmod_lt_of_pos _ hp
    have ra := rd8 L hL _ i1 i2
    have rb := rd8 L hL _ j1 j2
    have q1 : 0 ≤ Int.tdiv s (L.length : Int) := Int.tdiv_nonneg h0 (by omega)
    have q2 : Int.tdiv s (L.length : Int) ≤ s := Int.tdiv_le_self _ h0
    rw [if_pos i1, if_pos i2, if_pos j1, if_pos j2, if_neg (by omega)]
    generalize rd L (Int.tmod s (L.length : Int)) = a at ra ⊢
    generalize rd L (Int.tmod (s * 7 + 3) (L.length : Int)) = b at rb ⊢
    generalize Int.tdiv s (L.length : Int) = q at q1 q2 ⊢
    have ex : wrap64 (wrap64 (wrap64 (wrap64 (wrap64 a * 131) + wrap64 (wrap64 b * 1117)) + wrap64 (s * 29)) + wrap64 (wrap64 q * 53)) = a * 131 + b * 1117 + s * 29 + q * 53 := by
      rw [wrap_id (x := a) (by omega) (by omega), wrap_id (x := b) (by omega) (by omega), wrap_id (x := q) (by omega) (by omega), wrap_id (x := a * 131) (by omega) (by omega), wrap_id (x := b * 1117) (by omega) (by omega), wrap_id (x := s * 29) (by omega) (by omega), wrap_id (x := q * 53) (by omega) (by omega),
        wrap_id (x := a * 131 + b * 1117) (by omega) (by omega), wrap_id (x := a * 131 + b * 1117 + s * 29) (by omega) (by omega), wrap_id (by omega) (by omega)]
    rw [ex]
    generalize hX : a * 131 + b * 1117 + s * 29 + q * 53 = X
    have x1 : 0 ≤ X := by omega
    have x2 : X ≤ 1000000000 := by omega
    have y1 : 0 ≤ Int.tdiv X 64 := Int.tdiv_nonneg x1 (by omega)
    have y2 : Int.tdiv X 64 ≤ X := Int.tdiv_le_self _ x1
    rw [wrap_id (x := Int.tdiv X 64) (by omega) (by omega)]
    exact ⟨_, rfl, Int.tmod_nonneg _ (xor_nonneg _ _ x1 (by omega) y1 (by omega)), Int.tmod_lt_of_pos _ (by omega)⟩

theorem open_eq (L : List Int) (hL : ∀ x ∈ L, (Lit.int .u8 x).wf = true) : ∃ M, spec_l20Open.f L = some (M, 0) ∧ (∀ x ∈ M, (Lit.int .u8 x).wf = true) ∧ M.length ≤ 2000 := by
  unfold spec_l20Open.f
  by_cases h : (L.length : Int) > 2000
  · rw [if_pos h, if_pos (by omega)]
    exact ⟨_, rfl, fun x hx => hL x (List.mem_of_mem_take hx), by rw [List.length_take]; omega⟩
  · rw [if_neg h]
    exact ⟨_, rfl, hL, by omega⟩

/-- Drawn numbers: few, and each small. -/
def smallL (l : List Int) (m : Nat) (b : Int) : Prop := l.length ≤ m ∧ ∀ x ∈ l, -b ≤ x ∧ x ≤ b
theorem rd_mem (l : List Int) (i : Int) (h0 : 0 ≤ i) (h1 : i < (l.length : Int)) : rd l i ∈ l := by
  obtain ⟨n, rfl⟩ := Int.eq_ofNat_of_zero_le h0
  have hn : n < l.length := by omega
  rw [getD_at l n hn]
  exact List.getElem_mem hn
theorem smallL.push {l : List Int} {m : Nat} {b x : Int} (h : smallL l m b) (h0 : -b ≤ x) (h1 : x ≤ b) : smallL (l ++ [x]) (m + 1) b :=
  ⟨by rw [List.length_append]; have := h.1; simp; omega, fun y hy => by rcases List.mem_append.mp hy with hy | hy; exact h.2 y hy; rw [List.mem_singleton.mp hy]; exact ⟨h0, h1⟩⟩
theorem smallL.set {l : List Int} {m : Nat} {b x : Int} {i : Nat} (h : smallL l m b) (h0 : -b ≤ x) (h1 : x ≤ b) : smallL (l.set i x) m b :=
  ⟨by rw [List.length_set]; exact h.1, fun y hy => by rcases List.mem_or_eq_of_mem_set hy with hy | rfl; exact h.2 y hy; exact ⟨h0, h1⟩⟩
theorem smallL.take {l : List Int} {m : Nat} {b : Int} {i : Nat} (h : smallL l m b) : smallL (l.take i) m b :=
  ⟨by rw [List.length_take]; have := h.1; omega, fun y hy => h.2 y (List.mem_of_mem_take hy)⟩
theorem smallL.mono {l : List Int} {m n : Nat} {b c : Int} (h : smallL l m b) (h1 : m ≤ n) (h2 : b ≤ c) : smallL l n c := ⟨Nat.le_trans h.1 h1, fun x hx => by have := h.2 x hx; omega⟩
theorem smallL.rd {l : List Int} {m : Nat} {b : Int} (h : smallL l m b) (i : Int) (h0 : 0 ≤ i) (h1 : i < (l.length : Int)) : -b ≤ rd l i ∧ rd l i ≤ b := h.2 _ (rd_mem l i h0 h1)

theorem vals_loop (L : List Int) (hL : ∀ x ∈ L, (Lit.int .u8 x).wf = true) (hl : L.length ≤ 2000) (n : Int) (hn : 1 ≤ n) (d : Nat) : ∀ (k i : Nat) (out : List Int) (s : Int), i + d = 3 → d + 5 < k → 0 ≤ s → s + d ≤ 900003 → out.length = i → smallL out 3 10001 →
    ∃ v s', spec_l20Vals.l0 k n out (i : Int) L s = some (v, s') ∧ s ≤ s' ∧ s' ≤ s + d + 4 ∧ smallL v 4 10001 := by
  induction d with
  | zero =>
    intro k i out s hi hk h0 h1 ho hs
    obtain ⟨k, rfl⟩ : ∃ m, k = m + 1 := ⟨k - 1, by omega⟩
    have hi3 : i = 3 := by omega
    subst hi3
    simp only [spec_l20Vals.l0]
    rw [if_neg (by omega)]
    obtain ⟨v1, e1, a1, b1⟩ := pick_eq L hL hl s n k (by omega) h0 (by omega) hn
    rw [e1]; simp only [Option.bind_some, if_true, bne_self_eq_false, Bool.false_eq_true, if_false]
    by_cases c1 : v1 = 0
    · rw [if_pos c1]
      obtain ⟨v2, e2, a2, b2⟩ := pick_eq L hL hl (s + 1) 3 k (by omega) (by omega) (by omega) (by omega)
      rw [e2]; simp only [Option.bind_some, if_true, bne_self_eq_false, Bool.false_eq_true, if_false]
      by_cases c2 : v2 = 0
      · rw [if_pos c2, if_pos (by omega)]
        exact ⟨_, _, rfl, by omega, by omega, hs.take.mono (by omega) (by omega)⟩
      · rw [if_neg c2]
        by_cases c3 : v2 = 1
        · rw [if_pos c3, if_pos (by omega)]
          exact ⟨_, _, rfl, by omega, by omega, hs.push (by omega) (by omega)⟩
        · rw [if_neg c3]
          obtain ⟨v3, e3, a3, b3⟩ := pick_eq L hL hl (s + 1 + 1) 3 k (by omega) (by omega) (by omega) (by omega)
          rw [e3]; simp only [Option.bind_some, if_true, bne_self_eq_false, Bool.false_eq_true, if_false]
          obtain ⟨v4, e4, a4, b4⟩ := pick_eq L hL hl (s + 1 + 1 + 1) 2 k (by omega) (by omega) (by omega) (by omega)
          rw [e4]; simp only [Option.bind_some, if_true, bne_self_eq_false, Bool.false_eq_true, if_false]
          have hq : smallL [10001, -10001] 2 10001 := ⟨by simp, by simp⟩
          have hq2 := hq.rd v4 a4 (by simpa using b4)
          rw [if_pos a4, if_pos (by simpa using b4), if_pos a3, if_pos (by omega)]
          exact ⟨_, _, rfl, by omega, by omega, (hs.set hq2.1 hq2.2).mono (by omega) (by omega)⟩
    · rw [if_neg c1]
      exact ⟨_, _, rfl, by omega, by omega, hs.mono (by omega) (by omega)⟩
  | succ d ih =>
    intro k i out s hi hk h0 h1 ho hs
    obtain ⟨k, rfl⟩ : ∃ m, k = m + 1 := ⟨k - 1, by omega⟩
    simp only [spec_l20Vals.l0]
    rw [if_pos (by omega)]; simp only [Option.bind_some, if_true, bne_self_eq_false, Bool.false_eq_true, if_false]
    obtain ⟨v1, e1, a1, b1⟩ := pick_eq L hL hl s 9 k (by omega) h0 (by omega) (by omega)
    rw [e1]; simp only [Option.bind_some, if_true, bne_self_eq_false, Bool.false_eq_true, if_false]
    have hq : smallL [0, 1, 5, 20, -3, 60, 10000, -10000, 9996] 9 10001 := ⟨by simp, by simp⟩
    have hq2 := hq.rd v1 a1 (by simpa using b1)
    rw [if_pos a1, if_pos (by simpa using b1), if_pos (by omega), show wrap64 ((i : Int) + 1) = ((i + 1 : Nat) : Int) from by rw [wrap_id (by omega) (by omega)]; omega]
    have hp : smallL (out ++ [rd [0, 1, 5, 20, -3, 60, 10000, -10000, 9996] v1]) 3 10001 := by
      have := hs.push hq2.1 hq2.2
      exact ⟨by simp; omega, this.2⟩
    obtain ⟨v, s', e, p, q, r⟩ := ih k (i + 1) _ (s + 1) (by omega) (by omega) (by omega) (by omega) (by simp; omega) hp
    exact ⟨v, s', e, by omega, by omega, r⟩
theorem vals_eq (L : List Int) (hL : ∀ x ∈ L, (Lit.int .u8 x).wf = true) (hl : L.length ≤ 2000) (s n : Int) (k : Nat) (hk : 9 ≤ k) (h0 : 0 ≤ s) (h1 : s ≤ 900000) (hn : 1 ≤ n) :
    ∃ v s', spec_l20Vals.f k L s n = some (v, s') ∧ s ≤ s' ∧ s' ≤ s + 7 ∧ smallL v 4 10001 := by
  unfold spec_l20Vals.f
  obtain ⟨v, s', e, p, q, r⟩ := vals_loop L hL hl n hn 3 k 0 [] s rfl (by omega) h0 (by omega) rfl ⟨by simp, by simp⟩
  exact ⟨v, s', e, p, by omega, r⟩

theorem args_eq (L : List Int) (hL : ∀ x ∈ L, (Lit.int .u8 x).wf = true) (hl : L.length ≤ 2000) (s n : Int) (k : Nat) (hk : 9 ≤ k) (h0 : 0 ≤ s) (h1 : s ≤ 900000) (hn : 1 ≤ n) :
    ∃ v s', spec_l20Args.f k L s n = some (v, s') ∧ s ≤ s' ∧ s' ≤ s + 7 ∧ smallL v 3 10 := by
  unfold spec_l20Args.f
  obtain ⟨u1, f1, g1, j1⟩ := pick_eq L hL hl s 19 k (by omega) h0 (by omega) (by omega)
  rw [f1]; simp only [Option.bind_some, if_true, bne_self_eq_false, Bool.false_eq_true, if_false]
  obtain ⟨u2, f2, g2, j2⟩ := pick_eq L hL hl (s + 1) 19 k (by omega) (by omega) (by omega) (by omega)
  rw [f2]; simp only [Option.bind_some, if_true, bne_self_eq_false, Bool.false_eq_true, if_false]
  rw [wrap_id (x := u1 - 9) (by omega) (by omega), wrap_id (x := u2 - 9) (by omega) (by omega)]
  have hs : smallL [u1 - 9, u2 - 9] 2 10 := ⟨by simp, by simp; omega⟩
  have ho : [u1 - 9, u2 - 9].length = 2 := rfl
  generalize [u1 - 9, u2 - 9] = out at hs ho ⊢
  obtain ⟨v1, e1, a1, b1⟩ := pick_eq L hL hl (s + 1 + 1) n k (by omega) (by omega) (by omega) hn
  rw [e1]; simp only [Option.bind_some, if_true, bne_self_eq_false, Bool.false_eq_true, if_false]
  by_cases c1 : v1 = 0
  · rw [if_pos c1]
    obtain ⟨v2, e2, a2, b2⟩ := pick_eq L hL hl (s + 1 + 1 + 1) 3 k (by omega) (by omega) (by omega) (by omega)
    rw [e2]; simp only [Option.bind_some, if_true, bne_self_eq_false, Bool.false_eq_true, if_false]
    by_cases c2 : v2 = 0
    · rw [if_pos c2, if_pos (by omega)]
      exact ⟨_, _, rfl, by omega, by omega, hs.take.mono (by omega) (by omega)⟩
    · rw [if_neg c2]
      by_cases c3 : v2 = 1
      · rw [if_pos c3, if_pos (by omega)]
        exact ⟨_, _, rfl, by omega, by omega, hs.push (by omega) (by omega)⟩
      · rw [if_neg c3]
        obtain ⟨v3, e3, a3, b3⟩ := pick_eq L hL hl (s + 1 + 1 + 1 + 1) 2 k (by omega) (by omega) (by omega) (by omega)
        rw [e3]; simp only [Option.bind_some, if_true, bne_self_eq_false, Bool.false_eq_true, if_false]
        obtain ⟨v4, e4, a4, b4⟩ := pick_eq L hL hl (s + 1 + 1 + 1 + 1 + 1) 2 k (by omega) (by omega) (by omega) (by omega)
        rw [e4]; simp only [Option.bind_some, if_true, bne_self_eq_false, Bool.false_eq_true, if_false]
        have hq : smallL [10, -10] 2 10 := ⟨by simp, by simp⟩
        have hq2 := hq.rd v4 a4 (by simpa using b4)
        rw [if_pos a4, if_pos (by simpa using b4), if_pos a3, if_pos (by omega)]
        exact ⟨_, _, rfl, by omega, by omega, (hs.set hq2.1 hq2.2).mono (by omega) (by omega)⟩
  · rw [if_neg c1]
    exact ⟨_, _, rfl, by omega, by omega, hs.mono (by omega) (by omega)⟩

theorem small_l1 (L : List Int) (hL : ∀ x ∈ L, (Lit.int .u8 x).wf = true) (hl : L.length ≤ 2000) (C : List Int) (K : Int) (d : Nat) : ∀ (k i : Nat) (D : List Int) (s : Int), i + d = 2 → d + 3 < k → 0 ≤ s → s ≤ 800000 - d → D.length = 2 → smallL D 2 20 →
    ∃ D' K', spec_l20Small.l1 k (i : Int) L s C D K = some (C, D', K', s + d + 1) ∧ D'.length = 2 ∧ smallL D' 2 20 ∧ -20 ≤ K' ∧ K' ≤ 20 := by
  induction d with
  | zero =>
    intro k i D s hi hk h0 h1 hd hs
    obtain ⟨k, rfl⟩ : ∃ m, k = m + 1 := ⟨k - 1, by omega⟩
    simp only [spec_l20Small.l1]
    rw [if_neg (by omega)]; simp only [Option.bind_some, if_true, bne_self_eq_false, Bool.false_eq_true, if_false]
    obtain ⟨v, e, a, b⟩ := pick_eq L hL hl s 8 k (by omega) h0 (by omega) (by omega)
    rw [e]; simp only [Option.bind_some, if_true, bne_self_eq_false, Bool.false_eq_true, if_false]
    have hq : smallL [0, 0, 1, -1, 5, -5, 20, -20] 8 20 := ⟨by simp, by simp⟩
    have hq2 := hq.rd v a (by simpa using b)
    rw [if_pos a, if_pos (by simpa using b)]
    exact ⟨_, _, by rw [show s + ((0 : Nat) : Int) + 1 = s + 1 from by omega], hd, hs, hq2.1, hq2.2⟩
  | succ d ih =>
    intro k i D s hi hk h0 h1 hd hs
    obtain ⟨k, rfl⟩ : ∃ m, k = m + 1 := ⟨k - 1, by omega⟩
    simp only [spec_l20Small.l1]
    rw [if_pos (by omega)]; simp only [Option.bind_some, if_true, bne_self_eq_false, Bool.false_eq_true, if_false]
    obtain ⟨v, e, a, b⟩ := pick_eq L hL hl s 5 k (by omega) h0 (by omega) (by omega)
    rw [e]; simp only [Option.bind_some, if_true, bne_self_eq_false, Bool.false_eq_true, if_false]
    have hq : smallL [0, 0, 1, -1, 2] 5 20 := ⟨by simp, by simp⟩
    have hq2 := hq.rd v a (by simpa using b)
    rw [if_pos a, if_pos (by simpa using b), if_pos (by omega), if_pos (by omega), show wrap64 ((i : Int) + 1) = ((i + 1 : Nat) : Int) from by rw [wrap_id (by omega) (by omega)]; omega]
    obtain ⟨D', K', e2, x1, x2, x3, x4⟩ := ih k (i + 1) _ (s + 1) (by omega) (by omega) (by omega) (by omega) (by rw [List.length_set]; exact hd) (hs.set (i := ((i : Int)).toNat) hq2.1 hq2.2)
    exact ⟨D', K', by rw [e2]; congr 4; omega, x1, x2, x3, x4⟩
theorem small_l0 (L : List Int) (hL : ∀ x ∈ L, (Lit.int .u8 x).wf = true) (hl : L.length ≤ 2000) (D : List Int) (K : Int) (hd2 : D.length = 2) (hD : smallL D 2 20) (d : Nat) : ∀ (k i : Nat) (C : List Int) (s : Int), i + d = 3 → d + 8 < k → 0 ≤ s → s ≤ 700000 - d → C.length = 3 → smallL C 3 20 →
    ∃ C' D' K', spec_l20Small.l0 k (i : Int) L s C D K = some (C', D', K', s + d + 3) ∧ C'.length = 3 ∧ smallL C' 3 20 ∧ D'.length = 2 ∧ smallL D' 2 20 ∧ -20 ≤ K' ∧ K' ≤ 20 := by
  induction d with
  | zero =>
    intro k i C s hi hk h0 h1 hd hs
    obtain ⟨k, rfl⟩ : ∃ m, k = m + 1 := ⟨k - 1, by omega⟩
    simp only [spec_l20Small.l0]
    rw [if_neg (by omega)]
    obtain ⟨D', K', e2, x1, x2, x3, x4⟩ := small_l1 L hL hl C K 2 k 0 D s (by omega) (by omega) h0 (by omega) hd2 hD
    exact ⟨C, D', K', by rw [show ((0 : Nat) : Int) = 0 from rfl] at e2; rw [e2]; congr 4; omega, hd, hs, x1, x2, x3, x4⟩
  | succ d ih =>
    intro k i C s hi hk h0 h1 hd hs
    obtain ⟨k, rfl⟩ : ∃ m, k = m + 1 := ⟨k - 1, by omega⟩
    simp only [spec_l20Small.l0]
    rw [if_pos (by omega)]; simp only [Option.bind_some, if_true, bne_self_eq_false, Bool.false_eq_true, if_false]
    obtain ⟨v, e, a, b⟩ := pick_eq L hL hl s 6 k (by omega) h0 (by omega) (by omega)
    rw [e]; simp only [Option.bind_some, if_true, bne_self_eq_false, Bool.false_eq_true, if_false]
    have hq : smallL [0, 0, 0, 1, -1, 2] 6 20 := ⟨by simp, by simp⟩
    have hq2 := hq.rd v a (by simpa using b)
    rw [if_pos a, if_pos (by simpa using b), if_pos (by omega), if_pos (by omega), show wrap64 ((i : Int) + 1) = ((i + 1 : Nat) : Int) from by rw [wrap_id (by omega) (by omega)]; omega]
    obtain ⟨C', D', K', e2, x1, x2, x3⟩ := ih k (i + 1) _ (s + 1) (by omega) (by omega) (by omega) (by omega) (by rw [List.length_set]; exact hd) (hs.set (i := ((i : Int)).toNat) hq2.1 hq2.2)
    exact ⟨C', D', K', by rw [e2]; congr 4; omega, x1, x2, x3⟩
theorem small_eq (L : List Int) (hL : ∀ x ∈ L, (Lit.int .u8 x).wf = true) (hl : L.length ≤ 2000) (s : Int) (k : Nat) (hk : 12 ≤ k) (h0 : 0 ≤ s) (h1 : s ≤ 600000) :
    ∃ C D K, spec_l20Small.f k L s = some (C, D, K, s + 6) ∧ C.length = 3 ∧ smallL C 3 20 ∧ D.length = 2 ∧ smallL D 2 20 ∧ -20 ≤ K ∧ K ≤ 20 := by
  unfold spec_l20Small.f
  rw [spec_Zero_eq]; simp only [Option.bind_some, if_true, bne_self_eq_false, Bool.false_eq_true, if_false]
  obtain ⟨C, D, K, e, x⟩ := small_l0 L hL hl [0, 0] 0 rfl ⟨by simp, by simp⟩ 3 k 0 [0, 0, 0] s (by omega) (by omega) h0 (by omega) rfl ⟨by simp, by simp⟩
  exact ⟨C, D, K, by rw [show ((0 : Nat) : Int) = 0 from rfl] at e; rw [e]; congr 4; omega, x⟩

/-- A drawn form. -/
def drawnF (C D : List Int) (K : Int) : Prop := smallL C 3 10000001 ∧ smallL D 3 10000001 ∧ -10000001 ≤ K ∧ K ≤ 10000001
theorem form_j0 (L : List Int) (hL : ∀ x ∈ L, (Lit.int .u8 x).wf = true) (hl : L.length ≤ 2000) (C D : List Int) (K : Int) (s n : Int) (k : Nat) (hk : 3 ≤ k) (h0 : 0 ≤ s) (h1 : s ≤ 700000) (hn : 1 ≤ n) (hc : C.length = 3) (hC : smallL C 3 10000001) (hd : D.length = 2) (hD : smallL D 2 10000001) (hK : -20 ≤ K ∧ K ≤ 20) :
    ∃ C' D' K' s', spec_l20Form.j0 k n L s C D K = some (C', D', K', s') ∧ s ≤ s' ∧ s' ≤ s + 5 ∧ drawnF C' D' K' := by
  obtain ⟨k, rfl⟩ : ∃ m, k = m + 1 := ⟨k - 1, by omega⟩
  have hD' : smallL D 3 10000001 := hD.mono (by omega) (by omega)
  simp only [spec_l20Form.j0]
  obtain ⟨v1, e1, a1, b1⟩ := pick_eq L hL hl s n k (by omega) h0 (by omega) hn
  rw [e1]; simp only [Option.bind_some, if_true, bne_self_eq_false, Bool.false_eq_true, if_false]
  by_cases c1 : v1 > 0
  · rw [if_pos c1]
    exact ⟨_, _, _, _, rfl, by omega, by omega, hC, hD', by omega, by omega⟩
  rw [if_neg c1]
  obtain ⟨v2, e2, a2, b2⟩ := pick_eq L hL hl (s + 1) 4 k (by omega) (by omega) (by omega) (by omega)
  rw [e2]; simp only [Option.bind_some, if_true, bne_self_eq_false, Bool.false_eq_true, if_false]
  by_cases c2 : v2 = 0
  · rw [if_pos c2, if_pos (by omega)]
    exact ⟨_, _, _, _, rfl, by omega, by omega, hC.take, hD', by omega, by omega⟩
  rw [if_neg c2]
  by_cases c3 : v2 = 1
  · rw [if_pos c3, if_pos (by omega)]
    exact ⟨_, _, _, _, rfl, by omega, by omega, hC, hD.push (by omega) (by omega), by omega, by omega⟩
  rw [if_neg c3]
  by_cases c4 : v2 = 2
  · rw [if_pos c4]
    obtain ⟨v3, e3, a3, b3⟩ := pick_eq L hL hl (s + 1 + 1) 3 k (by omega) (by omega) (by omega) (by omega)
    rw [e3]; simp only [Option.bind_some, if_true, bne_self_eq_false, Bool.false_eq_true, if_false]
    have hq : smallL [10000001, -10000001, 10000000] 3 10000001 := ⟨by simp, by simp⟩
    have hq2 := hq.rd v3 a3 (by simpa using b3)
    rw [if_pos a3, if_pos (by simpa using b3)]
    exact ⟨_, _, _, _, rfl, by omega, by omega, hC, hD', hq2.1, hq2.2⟩
  rw [if_neg c4]
  obtain ⟨v3, e3, a3, b3⟩ := pick_eq L hL hl (s + 1 + 1) 3 k (by omega) (by omega) (by omega) (by omega)
  rw [e3]; simp only [Option.bind_some, if_true, bne_self_eq_false, Bool.false_eq_true, if_false]
  obtain ⟨v4, e4, a4, b4⟩ := pick_eq L hL hl (s + 1 + 1 + 1) 2 k (by omega) (by omega) (by omega) (by omega)
  rw [e4]; simp only [Option.bind_some, if_true, bne_self_eq_false, Bool.false_eq_true, if_false]
  have hq : smallL [10000001, -10000001] 2 10000001 := ⟨by simp, by simp⟩
  have hq2 := hq.rd v4 a4 (by simpa using b4)
  rw [if_pos a4, if_pos (by simpa using b4), if_pos a3, if_pos (by omega)]
  exact ⟨_, _, _, _, rfl, by omega, by omega, hC.set hq2.1 hq2.2, hD', by omega, by omega⟩
theorem form_eq (L : List Int) (hL : ∀ x ∈ L, (Lit.int .u8 x).wf = true) (hl : L.length ≤ 2000) (s n : Int) (k : Nat) (hk : 12 ≤ k) (h0 : 0 ≤ s) (h1 : s ≤ 500000) (hn : 1 ≤ n) :
    ∃ C D K s', spec_l20Form.f k L s n = some (C, D, K, s') ∧ s ≤ s' ∧ s' ≤ s + 20 ∧ drawnF C D K := by
  unfold spec_l20Form.f
  obtain ⟨C, D, K, e, hc, hC, hd, hD, hK⟩ := small_eq L hL hl s k hk h0 (by omega)
  rw [e]; simp only [Option.bind_some, if_true, bne_self_eq_false, Bool.false_eq_true, if_false]
  obtain ⟨v1, e1, a1, b1⟩ := pick_eq L hL hl (s + 6) 4 k (by omega) (by omega) (by omega) (by omega)
  rw [e1]; simp only [Option.bind_some, if_true, bne_self_eq_false, Bool.false_eq_true, if_false]
  have hC' : smallL C 3 10000001 := hC.mono (by omega) (by omega)
  have hD' : smallL D 2 10000001 := hD.mono (by omega) (by omega)
  by_cases c1 : v1 = 0
  · rw [if_pos c1]
    obtain ⟨v2, e2, a2, b2⟩ := pick_eq L hL hl (s + 6 + 1) 3 k (by omega) (by omega) (by omega) (by omega)
    rw [e2]; simp only [Option.bind_some, if_true, bne_self_eq_false, Bool.false_eq_true, if_false]
    obtain ⟨v3, e3, a3, b3⟩ := pick_eq L hL hl (s + 6 + 1 + 1) 4 k (by omega) (by omega) (by omega) (by omega)
    rw [e3]; simp only [Option.bind_some, if_true, bne_self_eq_false, Bool.false_eq_true, if_false]
    have hq : smallL [10000000, -10000000, 1000, 77] 4 10000001 := ⟨by simp, by simp⟩
    have hq2 := hq.rd v3 a3 (by simpa using b3)
    rw [if_pos a3, if_pos (by simpa using b3), if_pos a2, if_pos (by omega)]
    obtain ⟨C', D', K', s', e4, p, q, r⟩ := form_j0 L hL hl (C.set v2.toNat (rd [10000000, -10000000, 1000, 77] v3)) D K (s + 6 + 1 + 1 + 1) n k (by omega) (by omega) (by omega) hn (by rw [List.length_set]; exact hc) (hC'.set hq2.1 hq2.2) hd hD' hK
    exact ⟨C', D', K', s', e4, by omega, by omega, r⟩
  · rw [if_neg c1]
    obtain ⟨C', D', K', s', e4, p, q, r⟩ := form_j0 L hL hl C D K (s + 6 + 1) n k (by omega) (by omega) (by omega) hn hc hC' hd hD' hK
    exact ⟨C', D', K', s', e4, by omega, by omega, r⟩

theorem drawAt_eq (L : List Int) (hL : ∀ x ∈ L, (Lit.int .u8 x).wf = true) (k : Nat) (hk : 12 ≤ k) : ∃ C D K V A, spec_DrawFrmAt.f k L = some (C, D, K, V, A) ∧ drawnF C D K ∧ smallL V 4 10001 ∧ smallL A 3 10 := by
  unfold spec_DrawFrmAt.f
  obtain ⟨M, e1, hM, hl⟩ := open_eq L hL
  rw [e1]; simp only [Option.bind_some, if_true, bne_self_eq_false, Bool.false_eq_true, if_false]
  obtain ⟨C, D, K, s, e2, a2, b2, hF⟩ := form_eq M hM hl 0 12 k hk (by omega) (by omega) (by omega)
  rw [e2]; simp only [Option.bind_some, if_true, bne_self_eq_false, Bool.false_eq_true, if_false]
  obtain ⟨V, s3, e3, a3, b3, hV⟩ := vals_eq M hM hl s 12 k (by omega) (by omega) (by omega) (by omega)
  rw [e3]; simp only [Option.bind_some, if_true, bne_self_eq_false, Bool.false_eq_true, if_false]
  obtain ⟨A, s4, e4, a4, b4, hA⟩ := args_eq M hM hl s3 12 k (by omega) (by omega) (by omega) (by omega)
  rw [e4]; simp only [Option.bind_some, if_true, bne_self_eq_false, Bool.false_eq_true, if_false]
  exact ⟨C, D, K, V, A, rfl, hF, hV, hA⟩

theorem co_loop (x y : List Int) (hl : x.length = y.length) (hm : x.length ≤ 1048576) (d : Nat) : ∀ (k i : Nat), i + d = x.length → d < k → (x.take i = y.take i) → laws_coInts.l0 k x y (i : Int) = some (decide (x = y)) := by
  induction d with
  | zero =>
    intro k i hi hk he
    obtain ⟨k, rfl⟩ : ∃ m, k = m + 1 := ⟨k - 1, by omega⟩
    simp only [laws_coInts.l0]
    rw [if_neg (by omega)]
    rw [List.take_of_length_le (by omega), List.take_of_length_le (by omega)] at he
    rw [decide_eq_true he]
  | succ d ih =>
    intro k i hi hk he
    obtain ⟨k, rfl⟩ : ∃ m, k = m + 1 := ⟨k - 1, by omega⟩
    have h1 : i < x.length := by omega
    have h2 : i < y.length := by omega
    simp only [laws_coInts.l0]
    rw [if_pos (by omega), if_pos (by omega), if_pos (by omega), getD_at x i h1, getD_at y i h2]
    by_cases hq : x[i] = y[i]
    · rw [if_pos hq, show wrap64 ((i : Int) + 1) = ((i + 1 : Nat) : Int) from by rw [wrap_id (by omega) (by omega)]; omega]
      exact ih k (i + 1) (by omega) (by omega) (by rw [List.take_succ_eq_append_getElem h1, List.take_succ_eq_append_getElem h2, he, hq])
    · rw [if_neg hq, decide_eq_false (fun e => hq (by subst e; rfl))]
theorem co_eq (x y : List Int) (k : Nat) (hk : x.length < k) (hm : x.length ≤ 1048576) : laws_coInts.f k x y = some (decide (x = y)) := by
  unfold laws_coInts.f
  by_cases h : x.length = y.length
  · rw [if_pos (by omega)]
    exact co_loop x y h hm x.length k 0 (by omega) hk rfl
  · rw [if_neg (by omega), decide_eq_false (fun e => h (by rw [e]))]

theorem coForm_same (C D : List Int) (K : Int) (k : Nat) (hc : C.length < k) (hd : D.length < k) (hc2 : C.length ≤ 1048576) (hd2 : D.length ≤ 1048576) : laws_coForm.f k C D K C D K = some true := by
  unfold laws_coForm.f
  rw [co_eq C C k hc hc2]
  simp only [Option.bind_some, decide_true, if_true]
  rw [co_eq D D k hd hd2]
  simp

theorem frm_ok (x y z a b K : Int) (hx : -10000000 ≤ x ∧ x ≤ 10000000) (hy : -10000000 ≤ y ∧ y ≤ 10000000) (hz : -10000000 ≤ z ∧ z ≤ 10000000) (ha : -10000000 ≤ a ∧ a ≤ 10000000) (hb : -10000000 ≤ b ∧ b ≤ 10000000) (hK : -10000000 ≤ K ∧ K ≤ 10000000) : frmB [x, y, z] [a, b] K = true := by
  have w : wrap64 (-10000000) = -10000000 := wrap_id (by decide) (by decide)
  unfold frmB
  rw [okB_iff.mpr ⟨by simp, by rw [w]; simp; omega⟩, okB_iff.mpr ⟨by simp, by rw [w]; simp; omega⟩, ibB_iff.mpr hK]
  rfl
theorem coHolds_eq : laws_coHolds.f = some true := by
  unfold laws_coHolds.f
  rw [impl_Zero_eq]; simp only [Option.bind_some, if_true, bne_self_eq_false, Bool.false_eq_true, if_false]
  rw [impl_Frm_eq, frm_ok 0 0 0 0 0 0 (by decide) (by decide) (by decide) (by decide) (by decide) (by decide)]; rfl

theorem impl_FrmAt_no (C D : List Int) (K : Int) (V A : List Int) (k : Nat) (h : (frmB C D K && (okB V 3 10000 && okB A 2 9)) = false) : impl_FrmAt.f k C D K V A = some (0, false) := by
  unfold impl_FrmAt.f
  rw [impl_Frm_eq]; simp only [Option.bind_some]
  cases h1 : frmB C D K with
  | false => rfl
  | true =>
    rw [h1, Bool.true_and] at h
    rw [if_pos rfl, impl_Val_eq]; simp only [Option.bind_some]
    cases h2 : okB V 3 10000 with
    | false => rfl
    | true =>
      rw [h2, Bool.true_and] at h
      rw [if_pos rfl, impl_Arg_eq, h]; rfl
theorem impl_FrmAt_yes (C D : List Int) (K : Int) (V A : List Int) (k : Nat) (n : Int) (h1 : frmB C D K = true) (h2 : okB V 3 10000 = true) (h3 : okB A 2 9 = true) (hn : impl_FrmForm_at.f k C D K V A = some n) : impl_FrmAt.f k C D K V A = some (n, true) := by
  unfold impl_FrmAt.f
  rw [impl_Frm_eq, h1]; simp only [Option.bind_some, if_true]
  rw [impl_Val_eq, h2]; simp only [Option.bind_some, if_true]
  rw [impl_Arg_eq, h3]; simp only [Option.bind_some, if_true]
  rw [hn]; rfl

def szdI (l : List S25) : Prop := (l.length : Int) ≤ 1048576 ∧ ∀ x ∈ l, (x.f0.length : Int) ≤ 1048576 ∧ (x.f1.length : Int) ≤ 1048576

/-- All forms ok. -/
def allF (l : List S25) : Bool := l.all fun x => frmB x.f0 x.f1 x.f2
/-- What 'RowOk' answers. -/
def rowV (g a t : List S25) (s : Bool) : Bool := (allF g && (allF a && allF t)) && (if s = true then ((a.length : Int) == 0) && ((t.length : Int) == 0) else ((a.length : Int) == 3))

theorem frmB_bd {C D : List Int} {K : Int} (h : frmB C D K = true) : ∃ c0 c1 c2 d0 d1, C = [c0, c1, c2] ∧ D = [d0, d1] ∧ (-10000000 ≤ c0 ∧ c0 ≤ 10000000) ∧ (-10000000 ≤ c1 ∧ c1 ≤ 10000000) ∧ (-10000000 ≤ c2 ∧ c2 ≤ 10000000) ∧ (-10000000 ≤ d0 ∧ d0 ≤ 10000000) ∧ (-10000000 ≤ d1 ∧ d1 ≤ 10000000) ∧ (-10000000 ≤ K ∧ K ≤ 10000000) := by
  unfold frmB at h
  simp only [Bool.and_eq_true] at h
  obtain ⟨h1, h2, h3⟩ := h
  obtain ⟨a1, a2⟩ := okB_iff.mp h1
  obtain ⟨b1, b2⟩ := okB_iff.mp h2
  have hK := ibB_iff.mp h3
  rw [show wrap64 (-10000000) = -10000000 from wrap_id (by decide) (by decide)] at a2 b2
  obtain ⟨c0, c1, c2, rfl⟩ := len3 a1
  obtain ⟨d0, d1, rfl⟩ := len2 b1
  exact ⟨c0, c1, c2, d0, d1, rfl, rfl, a2 c0 (by simp), a2 c1 (by simp), a2 c2 (by simp), b2 d0 (by simp), b2 d1 (by simp), hK⟩
theorem sum2 {a b : Int} (ha : -10000000 ≤ a ∧ a ≤ 10000000) (hb : -10000000 ≤ b ∧ b ≤ 10000000) : wrap64 (wrap64 (0 + wrap64 (1 * a)) + wrap64 (1 * b)) = a + b := by
  rw [Int.one_mul, Int.one_mul, wrap_id (x := a) (by omega) (by omega), Int.zero_add, wrap_id (x := a) (by omega) (by omega), wrap_id (x := b) (by omega) (by omega), wrap_id (by omega) (by omega)]
theorem sum1 {a b : Int} (ha : -10000000 ≤ a ∧ a ≤ 10000000) (hb : -10000000 ≤ b ∧ b ≤ 10000000) : wrap64 (a + wrap64 (1 * b)) = a + b := by
  rw [Int.one_mul, wrap_id (x := b) (by omega) (by omega), wrap_id (by omega) (by omega)]
theorem sumK {a b : Int} (ha : -10000000 ≤ a ∧ a ≤ 10000000) (hb : -10000000 ≤ b ∧ b ≤ 10000000) : wrap64 (wrap64 (wrap64 a) + wrap64 b) = a + b := by
  rw [wrap_id (x := a) (by omega) (by omega), wrap_id (x := a) (by omega) (by omega), wrap_id (x := b) (by omega) (by omega), wrap_id (by omega) (by omega)]
/-- The sum of two forms, or nothing. -/
def addF (C D : List Int) (K : Int) (C' D' : List Int) (K' : Int) : List Int × List Int × Int :=
  if frmB C D K && frmB C' D' K' then
    (if frmB [rd C 0 + rd C' 0, rd C 1 + rd C' 1, rd C 2 + rd C' 2] [rd D 0 + rd D' 0, rd D 1 + rd D' 1] (K + K') then ([rd C 0 + rd C' 0, rd C 1 + rd C' 1, rd C 2 + rd C' 2], [rd D 0 + rd D' 0, rd D 1 + rd D' 1], K + K') else ([], [], 0))
  else ([], [], 0)
theorem addF_len (C D : List Int) (K : Int) (C' D' : List Int) (K' : Int) : (addF C D K C' D' K').1.length ≤ 3 ∧ (addF C D K C' D' K').2.1.length ≤ 2 := by
  unfold addF
  split
  · split <;> simp
  · simp
theorem addF_comm (C D : List Int) (K : Int) (C' D' : List Int) (K' : Int) : addF C' D' K' C D K = addF C D K C' D' K' := by
  unfold addF
  rw [Bool.and_comm (frmB C' D' K'), Int.add_comm (rd C' 0), Int.add_comm (rd C' 1), Int.add_comm (rd C' 2), Int.add_comm (rd D' 0), Int.add_comm (rd D' 1), Int.add_comm K']

/-- What 'FrmAt' answers. -/
def atF (C D : List Int) (K : Int) (V A : List Int) : Int × Bool := if (frmB C D K && (okB V 3 10000 && okB A 2 9)) = true then (atV (rd C 0) (rd C 1) (rd C 2) (rd D 0) (rd D 1) K (rd V 0) (rd V 1) (rd V 2) (rd A 0) (rd A 1), true) else (0, false)
theorem impl_At_eq (C D : List Int) (K : Int) (V A : List Int) (k : Nat) (hk : 4 ≤ k) : impl_FrmAt.f k C D K V A = some (atF C D K V A) := by
  unfold atF
  by_cases h : (frmB C D K && (okB V 3 10000 && okB A 2 9)) = true
  · rw [if_pos h]
    simp only [Bool.and_eq_true] at h
    obtain ⟨h1, h2, h3⟩ := h
    obtain ⟨q1, q2⟩ := frmB_len h1
    obtain ⟨c0, c1, c2, rfl⟩ := len3 q1
    obtain ⟨d0, d1, rfl⟩ := len2 q2
    obtain ⟨v0, v1, v2, rfl⟩ := len3 (okB_len h2)
    obtain ⟨a0, a1, rfl⟩ := len2 (okB_len h3)
    exact impl_FrmAt_yes _ _ _ _ _ k _ h1 h2 h3 (at_eqk _ _ _ _ _ _ _ _ _ _ _ k hk)
  · rw [if_neg h]
    exact impl_FrmAt_no _ _ _ _ _ k (Bool.eq_false_iff.mpr h)

theorem okB_frmB (x : S25) : frmOkB x = frmB x.f0 x.f1 x.f2 := by
  unfold frmOkB frmB
  rw [withinB_ok, withinB_ok, inB_ib]
theorem any_allF (l : List S25) : (l.any fun x => !frmOkB x) = !allF l := by
  unfold allF
  rw [List.all_eq_not_any_not]
  simp only [okB_frmB, Bool.not_not]
theorem into_none (C D : List Int) (K : Int) (l : List S25) (h : (frmB C D K && (decide ((l.length : Int) = 3) && allF l)) = false) : impl_FrmInto.f C D K l = some ([], [], 0) := by
  unfold impl_FrmInto.f
  rw [impl_Frm_eq]; simp only [Option.bind_some]
  cases h1 : frmB C D K with
  | false => rfl
  | true =>
    rw [h1, Bool.true_and] at h
    rw [if_pos rfl]
    by_cases h2 : (l.length : Int) = 3
    · rw [decide_eq_true h2, Bool.true_and] at h
      rw [if_pos h2, any_allF, h]; rfl
    · rw [if_neg h2]
def w3s (d a b c : Int) : Int := wrap64 (wrap64 (wrap64 (d + wrap64 a) + wrap64 b) + wrap64 c)
def finF (X Y : List Int) (Z : Int) : List Int × List Int × Int := if frmB X Y Z = true then (X, Y, Z) else ([], [], 0)
theorem w3_y (d a b c : Int) : wrap64 (wrap64 (wrap64 (wrap64 (0 + wrap64 a) + wrap64 b) + wrap64 c) + wrap64 d) = w3s d a b c := by
  unfold w3s
  have e : ∀ x y : Int, x = y → wrap64 x = wrap64 y := fun x y h => by rw [h]
  simp only [wrap_l, wrap_r]
  apply e
  omega
theorem w3_x (d a b c : Int) : wrap64 (wrap64 (wrap64 (d + wrap64 a) + wrap64 b) + wrap64 c) = w3s d a b c := rfl
theorem finF_len (X Y : List Int) (Z : Int) (h1 : X.length ≤ 3) (h2 : Y.length ≤ 2) : (finF X Y Z).1.length ≤ 3 ∧ (finF X Y Z).2.1.length ≤ 2 := by
  unfold finF
  split
  · exact ⟨h1, h2⟩
  · simp
theorem spec_into (c0 c1 c2 d0 d1 K p0 p1 p2 p3 p4 p5 q0 q1 q2 q3 q4 q5 r0 r1 r2 r3 r4 r5 : Int) (x y z : S25) (hx0 : x.f0 = [p0, p1, p2]) (hx1 : x.f1 = [p3, p4]) (hx2 : x.f2 = p5) (hy0 : y.f0 = [q0, q1, q2]) (hy1 : y.f1 = [q3, q4]) (hy2 : y.f2 = q5) (hz0 : z.f0 = [r0, r1, r2]) (hz1 : z.f1 = [r3, r4]) (hz2 : z.f2 = r5) (hF : frmB [c0, c1, c2] [d0, d1] K = true) (hA : allF [x, y, z] = true) (k : Nat) (hk : 60 < k) : spec_FrmInto.f (k + 20) [c0, c1, c2] [d0, d1] K [x, y, z] = some (finF [w3s 0 (c0 * p0) (c1 * q0) (c2 * r0), w3s 0 (c0 * p1) (c1 * q1) (c2 * r1), w3s 0 (c0 * p2) (c1 * q2) (c2 * r2)] [w3s d0 (c0 * p3) (c1 * q3) (c2 * r3), w3s d1 (c0 * p4) (c1 * q4) (c2 * r4)] (w3s K (c0 * p5) (c1 * q5) (c2 * r5))) := by
  have u1 : wrap64 (0 + 1) = 1 := by unfold wrap64; omega
  have u2 : wrap64 (1 + 1) = 2 := by unfold wrap64; omega
  have u3 : wrap64 (2 + 1) = 3 := by unfold wrap64; omega
  have hp : frmB x.f0 x.f1 x.f2 = true := List.all_eq_true.mp hA x (by simp)
  have hq : frmB y.f0 y.f1 y.f2 = true := List.all_eq_true.mp hA y (by simp)
  have hr : frmB z.f0 z.f1 z.f2 = true := List.all_eq_true.mp hA z (by simp)
  have a0 : rd_T25 [x, y, z] 0 = x := rfl
  have a1 : rd_T25 [x, y, z] 1 = y := rfl
  have a2 : rd_T25 [x, y, z] 2 = z := rfl
  have s0 : spec_FrmOk.f (k + 20) x.f0 x.f1 x.f2 = some true := by rw [spec_Frm_eq _ _ _ _ (by rw [hx0]; simp) (by rw [hx1]; simp) (by rw [hx0]; simp) (by rw [hx1]; simp), hp]
  have s1 : spec_FrmOk.f (k + 20) y.f0 y.f1 y.f2 = some true := by rw [spec_Frm_eq _ _ _ _ (by rw [hy0]; simp) (by rw [hy1]; simp) (by rw [hy0]; simp) (by rw [hy1]; simp), hq]
  have s2 : spec_FrmOk.f (k + 20) z.f0 z.f1 z.f2 = some true := by rw [spec_Frm_eq _ _ _ _ (by rw [hz0]; simp) (by rw [hz1]; simp) (by rw [hz0]; simp) (by rw [hz1]; simp), hr]
  have l3 : (([x, y, z] : List S25).length : Int) = 3 := rfl
  have sF : spec_FrmOk.f (k + 20) [c0, c1, c2] [d0, d1] K = some true := by rw [spec_Frm_eq _ _ _ _ (by simp) (by simp) (by simp) (by simp), hF]
  have m0 : ∀ a b c e f g : Int, spec_l1Sum.f (k + 18) [a, b, c] [e, f] g x.f0 x.f1 x.f2 c0 = some ([wrap64 (a + wrap64 (c0 * p0)), wrap64 (b + wrap64 (c0 * p1)), wrap64 (c + wrap64 (c0 * p2))], [wrap64 (e + wrap64 (c0 * p3)), wrap64 (f + wrap64 (c0 * p4))], wrap64 (g + wrap64 (c0 * p5))) := fun a b c e f g => by rw [hx0, hx1, hx2]; exact l1Sum_eq a b c e f g p0 p1 p2 p3 p4 p5 c0 (k + 11)
  have m1 : ∀ a b c e f g : Int, spec_l1Sum.f (k + 17) [a, b, c] [e, f] g y.f0 y.f1 y.f2 c1 = some ([wrap64 (a + wrap64 (c1 * q0)), wrap64 (b + wrap64 (c1 * q1)), wrap64 (c + wrap64 (c1 * q2))], [wrap64 (e + wrap64 (c1 * q3)), wrap64 (f + wrap64 (c1 * q4))], wrap64 (g + wrap64 (c1 * q5))) := fun a b c e f g => by rw [hy0, hy1, hy2]; exact l1Sum_eq a b c e f g q0 q1 q2 q3 q4 q5 c1 (k + 10)
  have m2 : ∀ a b c e f g : Int, spec_l1Sum.f (k + 16) [a, b, c] [e, f] g z.f0 z.f1 z.f2 c2 = some ([wrap64 (a + wrap64 (c2 * r0)), wrap64 (b + wrap64 (c2 * r1)), wrap64 (c + wrap64 (c2 * r2))], [wrap64 (e + wrap64 (c2 * r3)), wrap64 (f + wrap64 (c2 * r4))], wrap64 (g + wrap64 (c2 * r5))) := fun a b c e f g => by rw [hz0, hz1, hz2]; exact l1Sum_eq a b c e f g r0 r1 r2 r3 r4 r5 c2 (k + 9)
  have f9 : ∀ X Y Z, X.length = 3 → Y.length = 2 → spec_FrmOk.f (k + 15) X Y Z = some (frmB X Y Z) := fun X Y Z h1 h2 => spec_Frm_eq X Y Z _ (by omega) (by omega) (by omega) (by omega)
  have lc : (([c0, c1, c2] : List Int).length : Int) = 3 := rfl
  have ld : (([] : List Int).length + ([d0, d1] : List Int).length < 17592186044416) := by simp
  have b0 : rd [c0, c1, c2] 0 = c0 := rfl
  have b1 : rd [c0, c1, c2] 1 = c1 := rfl
  have b2 : rd [c0, c1, c2] 2 = c2 := rfl
  generalize hl : ([x, y, z] : List S25) = l at a0 a1 a2 l3 ⊢
  clear hl
  generalize hC : ([c0, c1, c2] : List Int) = C at lc b0 b1 b2 sF hF ⊢
  clear hC
  unfold spec_FrmInto.f
  rw [sF, l3, a0, a1, a2, s0, s1, s2]
  simp only [Option.bind_some, if_true, show ((0 : Int) < 3) from by decide, show ((1 : Int) < 3) from by decide, show ((2 : Int) < 3) from by decide, spec_FrmInto.j0, Bool.not_true, Bool.false_eq_true, if_false, if_pos ld, List.nil_append, spec_FrmInto.l0, u1, u2, u3, l3, lc, a0, a1, a2, b0, b1, b2, m0, m1, m2, show ((0 : Int) ≤ 0) from by decide, show ((0 : Int) ≤ 1) from by decide, show ((0 : Int) ≤ 2) from by decide, show ¬ ((3 : Int) < 3) from by decide]
  rw [f9 _ _ _ rfl rfl]
  simp only [Option.bind_some]
  unfold finF w3s
  split <;> rfl
theorem impl_into (c0 c1 c2 d0 d1 K p0 p1 p2 p3 p4 p5 q0 q1 q2 q3 q4 q5 r0 r1 r2 r3 r4 r5 : Int) (x y z : S25) (hx0 : x.f0 = [p0, p1, p2]) (hx1 : x.f1 = [p3, p4]) (hx2 : x.f2 = p5) (hy0 : y.f0 = [q0, q1, q2]) (hy1 : y.f1 = [q3, q4]) (hy2 : y.f2 = q5) (hz0 : z.f0 = [r0, r1, r2]) (hz1 : z.f1 = [r3, r4]) (hz2 : z.f2 = r5) (hF : frmB [c0, c1, c2] [d0, d1] K = true) (hA : allF [x, y, z] = true) : impl_FrmInto.f [c0, c1, c2] [d0, d1] K [x, y, z] = some (finF [w3s 0 (c0 * p0) (c1 * q0) (c2 * r0), w3s 0 (c0 * p1) (c1 * q1) (c2 * r1), w3s 0 (c0 * p2) (c1 * q2) (c2 * r2)] [w3s d0 (c0 * p3) (c1 * q3) (c2 * r3), w3s d1 (c0 * p4) (c1 * q4) (c2 * r4)] (w3s K (c0 * p5) (c1 * q5) (c2 * r5))) := by
  have b0 : rd [c0, c1, c2] 0 = c0 := rfl
  have b1 : rd [c0, c1, c2] (0 + 1) = c1 := rfl
  have b2 : rd [c0, c1, c2] (0 + 1 + 1) = c2 := rfl
  have lc : (([c0, c1, c2] : List Int).length : Int) = 3 := rfl
  have l3 : (([x, y, z] : List S25).length : Int) = 3 := rfl
  unfold impl_FrmInto.f
  rw [impl_Frm_eq, hF, any_allF, hA, l3]
  simp only [Option.bind_some, if_true, Bool.not_true, Bool.false_eq_true, if_false, intoL]
  rw [lc, if_pos (by decide), b0, hx0, hx1, addL3, addL2]; simp only [Option.bind_some]
  rw [if_pos (by decide), b1, hy0, hy1, addL3, addL2]; simp only [Option.bind_some]
  rw [if_pos (by decide), b2, hz0, hz1, addL3, addL2]; simp only [Option.bind_some]
  rw [addL2]; simp only [Option.bind_some, hx2, hy2, hz2, Int.one_mul, w3_y]
  simp only [w3_x]
  rw [impl_Frm_eq]; simp only [Option.bind_some]
  unfold finF
  generalize frmB _ _ _ = b
  cases b <;> rfl
theorem into_some (c0 c1 c2 d0 d1 K p0 p1 p2 p3 p4 p5 q0 q1 q2 q3 q4 q5 r0 r1 r2 r3 r4 r5 : Int) (x y z : S25) (hx0 : x.f0 = [p0, p1, p2]) (hx1 : x.f1 = [p3, p4]) (hx2 : x.f2 = p5) (hy0 : y.f0 = [q0, q1, q2]) (hy1 : y.f1 = [q3, q4]) (hy2 : y.f2 = q5) (hz0 : z.f0 = [r0, r1, r2]) (hz1 : z.f1 = [r3, r4]) (hz2 : z.f2 = r5) (hF : frmB [c0, c1, c2] [d0, d1] K = true) (hA : allF [x, y, z] = true) (k : Nat) (hk : 100 < k) : ∃ X Y Z, spec_FrmInto.f k [c0, c1, c2] [d0, d1] K [x, y, z] = some (X, Y, Z) ∧ impl_FrmInto.f [c0, c1, c2] [d0, d1] K [x, y, z] = some (X, Y, Z) ∧ X.length ≤ 3 ∧ Y.length ≤ 2 := by
  obtain ⟨k, rfl⟩ : ∃ m, k = m + 20 := ⟨k - 20, by omega⟩
  obtain ⟨v, e1, e2, e3⟩ : ∃ v : List Int × List Int × Int, spec_FrmInto.f (k + 20) [c0, c1, c2] [d0, d1] K [x, y, z] = some v ∧ impl_FrmInto.f [c0, c1, c2] [d0, d1] K [x, y, z] = some v ∧ (v.1.length ≤ 3 ∧ v.2.1.length ≤ 2) := ⟨_, spec_into c0 c1 c2 d0 d1 K p0 p1 p2 p3 p4 p5 q0 q1 q2 q3 q4 q5 r0 r1 r2 r3 r4 r5 x y z hx0 hx1 hx2 hy0 hy1 hy2 hz0 hz1 hz2 hF hA k (by omega), impl_into c0 c1 c2 d0 d1 K p0 p1 p2 p3 p4 p5 q0 q1 q2 q3 q4 q5 r0 r1 r2 r3 r4 r5 x y z hx0 hx1 hx2 hy0 hy1 hy2 hz0 hz1 hz2 hF hA, finF_len _ _ _ (by simp) (by simp)⟩
  exact ⟨v.1, v.2.1, v.2.2, e1, e2, e3.1, e3.2⟩
theorem len3G {α : Type} {l : List α} (h : (l.length : Int) = 3) : ∃ a b c, l = [a, b, c] := by
  have h' : l.length = 3 := by omega
  match l, h' with
  | [a, b, c], _ => exact ⟨a, b, c, rfl⟩
theorem into_eq (C D : List Int) (K : Int) (l : List S25) (k : Nat) (hk : 2097200 < k) (hC : C.length ≤ 1048576) (hD : D.length ≤ 1048576) (hl : szdI l) : ∃ X Y Z, spec_FrmInto.f k C D K l = some (X, Y, Z) ∧ impl_FrmInto.f C D K l = some (X, Y, Z) ∧ X.length ≤ 3 ∧ Y.length ≤ 2 := by
  have no : spec_FrmInto.j0 k l true C D K = some ([], [], 0) := by
    obtain ⟨k, rfl⟩ : ∃ m, k = m + 1 := ⟨k - 1, by omega⟩
    simp [spec_FrmInto.j0]
  by_cases h : (frmB C D K && (decide ((l.length : Int) = 3) && allF l)) = true
  · simp only [Bool.and_eq_true, decide_eq_true_eq] at h
    obtain ⟨h1, h2, h3⟩ := h
    obtain ⟨c0, c1, c2, d0, d1, rfl, rfl, _⟩ := frmB_bd h1
    obtain ⟨⟨pa, pb, pc⟩, ⟨qa, qb, qc⟩, ⟨ra, rb, rc⟩, rfl⟩ := len3G h2
    obtain ⟨p0, p1, p2, p3, p4, e1, e2, _⟩ := frmB_bd (List.all_eq_true.mp h3 ⟨pa, pb, pc⟩ (by simp))
    obtain ⟨q0, q1, q2, q3, q4, e3, e4, _⟩ := frmB_bd (List.all_eq_true.mp h3 ⟨qa, qb, qc⟩ (by simp))
    obtain ⟨r0, r1, r2, r3, r4, e5, e6, _⟩ := frmB_bd (List.all_eq_true.mp h3 ⟨ra, rb, rc⟩ (by simp))
    simp only at e1 e2 e3 e4 e5 e6
    subst e1 e2 e3 e4 e5 e6
    exact into_some c0 c1 c2 d0 d1 K p0 p1 p2 p3 p4 pc q0 q1 q2 q3 q4 qc r0 r1 r2 r3 r4 rc _ _ _ rfl rfl rfl rfl rfl rfl rfl rfl rfl h1 h3 k (by omega)
  · have h' := Bool.eq_false_iff.mpr h
    refine ⟨[], [], 0, ?_, into_none C D K l h', by simp, by simp⟩
    unfold spec_FrmInto.f
    rw [spec_Frm_eq C D K _ (by omega) (by omega) hC hD]; simp only [Option.bind_some]
    cases h1 : frmB C D K with
    | false => rw [if_neg (by decide), no]
    | true =>
      rw [if_pos rfl]
      by_cases h2 : (l.length : Int) = 3
      · rw [if_pos h2]
        obtain ⟨p, q, r, rfl⟩ := len3G h2
        have s1 := hl.2 p (by simp)
        have s2 := hl.2 q (by simp)
        have s3 := hl.2 r (by simp)
        rw [h1] at h'
        have h4 : (frmB p.f0 p.f1 p.f2 && (frmB q.f0 q.f1 q.f2 && frmB r.f0 r.f1 r.f2)) = false := by simpa [allF] using h'
        rw [if_pos (by simp), show rd_T25 [p, q, r] 0 = p from rfl, show rd_T25 [p, q, r] 1 = q from rfl, show rd_T25 [p, q, r] 2 = r from rfl, spec_Frm_eq _ _ _ _ (by omega) (by omega) (by omega) (by omega)]; simp only [Option.bind_some]
        cases g1 : frmB p.f0 p.f1 p.f2 with
        | false => rw [if_neg (by decide), no]
        | true =>
          rw [g1, Bool.true_and] at h4
          rw [if_pos rfl, if_pos (by simp), spec_Frm_eq _ _ _ _ (by omega) (by omega) (by omega) (by omega)]; simp only [Option.bind_some]
          cases g2 : frmB q.f0 q.f1 q.f2 with
          | false => rw [if_neg (by decide), no]
          | true =>
            rw [g2, Bool.true_and] at h4
            rw [if_pos rfl, if_pos (by simp), spec_Frm_eq _ _ _ _ (by omega) (by omega) (by omega) (by omega), h4]; simp only [Option.bind_some]
            exact no
      · rw [if_neg h2, no]

theorem w_mod (x : Int) : ∃ q : Int, wrap64 x = x + 18446744073709551616 * q := ⟨-((x + 9223372036854775808) / 18446744073709551616), by unfold wrap64; omega⟩
theorem w_eqm {x y t : Int} (h : x = y + 18446744073709551616 * t) : wrap64 x = wrap64 y := by
  subst h
  unfold wrap64; omega
theorem w3_mod (d a b c : Int) : ∃ q : Int, w3s d a b c = d + a + b + c + 18446744073709551616 * q := by
  obtain ⟨q, h⟩ := w_mod (d + a + b + c)
  refine ⟨q, ?_⟩
  rw [← h]
  unfold w3s
  simp only [wrap_l, wrap_r]
theorem w3_a {x : Int} (h : -10000000 ≤ x ∧ x ≤ 10000000) : w3s 0 x 0 0 = x := by unfold w3s wrap64; omega
theorem w3_b {x : Int} (h : -10000000 ≤ x ∧ x ≤ 10000000) : w3s 0 0 x 0 = x := by unfold w3s wrap64; omega
theorem w3_c {x : Int} (h : -10000000 ≤ x ∧ x ≤ 10000000) : w3s 0 0 0 x = x := by unfold w3s wrap64; omega
theorem w3_d {x : Int} (h : -10000000 ≤ x ∧ x ≤ 10000000) : w3s x 0 0 0 = x := by unfold w3s wrap64; omega
theorem at_nil (V A : List Int) : (atF [] [] 0 V A).2 = false := by
  unfold atF
  rw [if_neg (by rw [show frmB [] [] 0 = false from rfl]; simp)]
theorem into_same (C D : List Int) (K : Int) (h : frmB C D K = true) : impl_FrmInto.f C D K [⟨[1, 0, 0], [0, 0], 0⟩, ⟨[0, 1, 0], [0, 0], 0⟩, ⟨[0, 0, 1], [0, 0], 0⟩] = some (C, D, K) := by
  obtain ⟨c0, c1, c2, d0, d1, rfl, rfl, b0, b1, b2, b3, b4, b5⟩ := frmB_bd h
  have p0 := frm_ok 1 0 0 0 0 0 (by decide) (by decide) (by decide) (by decide) (by decide) (by decide)
  have p1 := frm_ok 0 1 0 0 0 0 (by decide) (by decide) (by decide) (by decide) (by decide) (by decide)
  have p2 := frm_ok 0 0 1 0 0 0 (by decide) (by decide) (by decide) (by decide) (by decide) (by decide)
  rw [impl_into c0 c1 c2 d0 d1 K 1 0 0 0 0 0 0 1 0 0 0 0 0 0 1 0 0 0 _ _ _ rfl rfl rfl rfl rfl rfl rfl rfl rfl h (by unfold allF; simp only [List.all_cons, List.all_nil, p0, p1, p2]; rfl)]
  simp only [Int.mul_one, Int.mul_zero, w3_a b0, w3_b b1, w3_c b2, w3_d b3, w3_d b4, w3_d b5]
  unfold finF
  rw [if_pos h]
theorem into_law (C D : List Int) (K : Int) (l : List S25) (V A X Y : List Int) (Z : Int) (hi : impl_FrmInto.f C D K l = some (X, Y, Z)) (hok : (atF X Y Z V A).2 = true) :
    ∃ x y z, l = [x, y, z] ∧ ((atF C D K [(atF x.f0 x.f1 x.f2 V A).1, (atF y.f0 y.f1 y.f2 V A).1, (atF z.f0 z.f1 z.f2 V A).1] A).2 = true → (atF X Y Z V A).1 = (atF C D K [(atF x.f0 x.f1 x.f2 V A).1, (atF y.f0 y.f1 y.f2 V A).1, (atF z.f0 z.f1 z.f2 V A).1] A).1) := by
  by_cases h : (frmB C D K && (decide ((l.length : Int) = 3) && allF l)) = true
  case neg =>
    rw [into_none C D K l (Bool.eq_false_iff.mpr h)] at hi
    simp only [Option.some.injEq, Prod.mk.injEq] at hi
    obtain ⟨rfl, rfl, rfl⟩ := hi
    rw [at_nil] at hok
    exact absurd hok (by simp)
  simp only [Bool.and_eq_true, decide_eq_true_eq] at h
  obtain ⟨h1, h2, h3⟩ := h
  obtain ⟨c0, c1, c2, d0, d1, rfl, rfl, _⟩ := frmB_bd h1
  obtain ⟨⟨pa, pb, pc⟩, ⟨qa, qb, qc⟩, ⟨sa, sb, sc⟩, rfl⟩ := len3G h2
  have f1 : frmB pa pb pc = true := List.all_eq_true.mp h3 ⟨pa, pb, pc⟩ (by simp)
  have f2 : frmB qa qb qc = true := List.all_eq_true.mp h3 ⟨qa, qb, qc⟩ (by simp)
  have f3 : frmB sa sb sc = true := List.all_eq_true.mp h3 ⟨sa, sb, sc⟩ (by simp)
  refine ⟨_, _, _, rfl, ?_⟩
  simp only
  obtain ⟨p0, p1, p2, p3, p4, rfl, rfl, _⟩ := frmB_bd f1
  obtain ⟨q0, q1, q2, q3, q4, rfl, rfl, _⟩ := frmB_bd f2
  obtain ⟨s0, s1, s2, s3, s4, rfl, rfl, _⟩ := frmB_bd f3
  rw [impl_into c0 c1 c2 d0 d1 K p0 p1 p2 p3 p4 pc q0 q1 q2 q3 q4 qc s0 s1 s2 s3 s4 sc _ _ _ rfl rfl rfl rfl rfl rfl rfl rfl rfl h1 h3] at hi
  unfold finF at hi
  by_cases hf : frmB [w3s 0 (c0 * p0) (c1 * q0) (c2 * s0), w3s 0 (c0 * p1) (c1 * q1) (c2 * s1), w3s 0 (c0 * p2) (c1 * q2) (c2 * s2)] [w3s d0 (c0 * p3) (c1 * q3) (c2 * s3), w3s d1 (c0 * p4) (c1 * q4) (c2 * s4)] (w3s K (c0 * pc) (c1 * qc) (c2 * sc)) = true
  case neg =>
    rw [if_neg hf] at hi
    simp only [Option.some.injEq, Prod.mk.injEq] at hi
    obtain ⟨rfl, rfl, rfl⟩ := hi
    rw [at_nil] at hok
    exact absurd hok (by simp)
  rw [if_pos hf] at hi
  simp only [Option.some.injEq, Prod.mk.injEq] at hi
  obtain ⟨rfl, rfl, rfl⟩ := hi
  unfold atF at hok
  by_cases hva : (okB V 3 10000 && okB A 2 9) = true
  case neg => rw [hf, Bool.true_and, if_neg hva] at hok; exact absurd hok (by simp)
  clear hok
  have aF : ∀ (P Q : List Int) (R : Int), frmB P Q R = true → atF P Q R V A = (atV (rd P 0) (rd P 1) (rd P 2) (rd Q 0) (rd Q 1) R (rd V 0) (rd V 1) (rd V 2) (rd A 0) (rd A 1), true) := fun P Q R hp => by unfold atF; rw [hp, Bool.true_and, if_pos hva]
  rw [aF _ _ _ hf, aF _ _ _ f1, aF _ _ _ f2, aF _ _ _ f3]
  generalize rd V 0 = v0
  generalize rd V 1 = v1
  generalize rd V 2 = v2
  clear aF hva
  intro hin
  unfold atF at hin ⊢
  by_cases hq : (frmB [c0, c1, c2] [d0, d1] K && (okB [atV (rd [p0, p1, p2] 0) (rd [p0, p1, p2] 1) (rd [p0, p1, p2] 2) (rd [p3, p4] 0) (rd [p3, p4] 1) pc v0 v1 v2 (rd A 0) (rd A 1), atV (rd [q0, q1, q2] 0) (rd [q0, q1, q2] 1) (rd [q0, q1, q2] 2) (rd [q3, q4] 0) (rd [q3, q4] 1) qc v0 v1 v2 (rd A 0) (rd A 1), atV (rd [s0, s1, s2] 0) (rd [s0, s1, s2] 1) (rd [s0, s1, s2] 2) (rd [s3, s4] 0) (rd [s3, s4] 1) sc v0 v1 v2 (rd A 0) (rd A 1)] 3 10000 && okB A 2 9)) = true
  case neg => rw [if_neg hq] at hin; exact absurd hin (by simp)
  rw [if_pos hq]
  clear hin hq hf
  generalize rd A 0 = r0
  generalize rd A 1 = r1
  show atV (w3s 0 (c0 * p0) (c1 * q0) (c2 * s0)) (w3s 0 (c0 * p1) (c1 * q1) (c2 * s1)) (w3s 0 (c0 * p2) (c1 * q2) (c2 * s2)) (w3s d0 (c0 * p3) (c1 * q3) (c2 * s3)) (w3s d1 (c0 * p4) (c1 * q4) (c2 * s4)) (w3s K (c0 * pc) (c1 * qc) (c2 * sc)) v0 v1 v2 r0 r1
    = atV c0 c1 c2 d0 d1 K (atV p0 p1 p2 p3 p4 pc v0 v1 v2 r0 r1) (atV q0 q1 q2 q3 q4 qc v0 v1 v2 r0 r1) (atV s0 s1 s2 s3 s4 sc v0 v1 v2 r0 r1) r0 r1
  obtain ⟨k0, e0⟩ := w3_mod 0 (c0 * p0) (c1 * q0) (c2 * s0)
  obtain ⟨k1, e1⟩ := w3_mod 0 (c0 * p1) (c1 * q1) (c2 * s1)
  obtain ⟨k2, e2⟩ := w3_mod 0 (c0 * p2) (c1 * q2) (c2 * s2)
  obtain ⟨k3, e3⟩ := w3_mod d0 (c0 * p3) (c1 * q3) (c2 * s3)
  obtain ⟨k4, e4⟩ := w3_mod d1 (c0 * p4) (c1 * q4) (c2 * s4)
  obtain ⟨k5, e5⟩ := w3_mod K (c0 * pc) (c1 * qc) (c2 * sc)
  unfold atV
  rw [e0, e1, e2, e3, e4, e5]
  obtain ⟨m0, g0⟩ := w_mod (pc + p0 * v0 + p1 * v1 + p2 * v2 + p3 * r0 + p4 * r1)
  obtain ⟨m1, g1⟩ := w_mod (qc + q0 * v0 + q1 * v1 + q2 * v2 + q3 * r0 + q4 * r1)
  obtain ⟨m2, g2⟩ := w_mod (sc + s0 * v0 + s1 * v1 + s2 * v2 + s3 * r0 + s4 * r1)
  rw [g0, g1, g2]
  refine w_eqm (t := k5 + k0 * v0 + k1 * v1 + k2 * v2 + k3 * r0 + k4 * r1 - c0 * m0 - c1 * m1 - c2 * m2) ?_
  clear e0 e1 e2 e3 e4 e5 g0 g1 g2 h1 h2 h3 f1 f2 f3
  grind
theorem drawInto_eq (L : List Int) (hL : ∀ x ∈ L, (Lit.int .u8 x).wf = true) (k : Nat) (hk : 12 ≤ k) : ∃ C D K l, spec_DrawFrmInto.f k L = some (C, D, K, l) ∧ drawnF C D K ∧ szdI l := by
  unfold spec_DrawFrmInto.f
  obtain ⟨M, e1, hM, hl⟩ := open_eq L hL
  rw [e1]; simp only [Option.bind_some, if_true, bne_self_eq_false, Bool.false_eq_true, if_false]
  obtain ⟨C1, D1, K1, s1, e2, a1, b1, hF1⟩ := form_eq M hM hl 0 24 k hk (by omega) (by omega) (by omega)
  rw [e2]; simp only [Option.bind_some, if_true, bne_self_eq_false, Bool.false_eq_true, if_false]
  obtain ⟨C2, D2, K2, s2, e3, a2, b2, hF2⟩ := form_eq M hM hl s1 24 k hk (by omega) (by omega) (by omega)
  rw [e3]; simp only [Option.bind_some, if_true, bne_self_eq_false, Bool.false_eq_true, if_false]
  obtain ⟨C3, D3, K3, s3, e4, a3, b3, hF3⟩ := form_eq M hM hl s2 24 k hk (by omega) (by omega) (by omega)
  rw [e4]; simp only [Option.bind_some, if_true, bne_self_eq_false, Bool.false_eq_true, if_false]
  obtain ⟨v, e5, v0, v1⟩ := pick_eq M hM hl s3 12 k (by omega) (by omega) (by omega) (by omega)
  rw [e5]; simp only [Option.bind_some, if_true, bne_self_eq_false, Bool.false_eq_true, if_false]
  obtain ⟨C, D, K, s4, e6, a4, b4, hF⟩ := form_eq M hM hl (s3 + 1) 12 k hk (by omega) (by omega) (by omega)
  have t1 := hF1.1.1
  have t2 := hF1.2.1.1
  have t3 := hF2.1.1
  have t4 := hF2.2.1.1
  have t5 := hF3.1.1
  have t6 := hF3.2.1.1
  have hz : szdI [⟨C1, D1, K1⟩, ⟨C2, D2, K2⟩, ⟨C3, D3, K3⟩] := ⟨by simp, fun x hx => by
    simp only [List.mem_cons, List.not_mem_nil, or_false] at hx
    rcases hx with rfl | rfl | rfl
    · exact ⟨by show (C1.length : Int) ≤ _; omega, by show (D1.length : Int) ≤ _; omega⟩
    · exact ⟨by show (C2.length : Int) ≤ _; omega, by show (D2.length : Int) ≤ _; omega⟩
    · exact ⟨by show (C3.length : Int) ≤ _; omega, by show (D3.length : Int) ≤ _; omega⟩⟩
  by_cases hv : v = 0
  · rw [if_pos hv, if_pos (by simp), e6]; simp only [Option.bind_some, if_true, bne_self_eq_false, Bool.false_eq_true, if_false]
    exact ⟨_, _, _, _, rfl, hF, ⟨by simp, fun x hx => hz.2 x (List.mem_of_mem_take hx)⟩⟩
  · rw [if_neg hv, e6]; simp only [Option.bind_some, if_true, bne_self_eq_false, Bool.false_eq_true, if_false]
    exact ⟨_, _, _, _, rfl, hF, hz⟩
theorem into_loop (x y z : S25) (V A : List Int) (n : Int) (C D : List Int) (K : Int) (k : Nat) (hk : 8 ≤ k) : laws_FnFrmInto.l0 (k + 4) [x, y, z] V A n [] 0 C D K = (if (atF C D K [(atF x.f0 x.f1 x.f2 V A).1, (atF y.f0 y.f1 y.f2 V A).1, (atF z.f0 z.f1 z.f2 V A).1] A).2 = true then some (n == (atF C D K [(atF x.f0 x.f1 x.f2 V A).1, (atF y.f0 y.f1 y.f2 V A).1, (atF z.f0 z.f1 z.f2 V A).1] A).1) else some true) := by
  have u1 : wrap64 (0 + 1) = 1 := by unfold wrap64; omega
  have u2 : wrap64 (1 + 1) = 2 := by unfold wrap64; omega
  have u3 : wrap64 (2 + 1) = 3 := by unfold wrap64; omega
  have a0 : rd_T25 [x, y, z] 0 = x := rfl
  have a1 : rd_T25 [x, y, z] 1 = y := rfl
  have a2 : rd_T25 [x, y, z] 2 = z := rfl
  have l3 : (([x, y, z] : List S25).length : Int) = 3 := rfl
  have i3 : ∀ C D K V A, impl_FrmAt.f (k + 3) C D K V A = some (atF C D K V A) := fun C D K V A => impl_At_eq C D K V A (k + 3) (by omega)
  have i2 : ∀ C D K V A, impl_FrmAt.f (k + 2) C D K V A = some (atF C D K V A) := fun C D K V A => impl_At_eq C D K V A (k + 2) (by omega)
  have i1 : ∀ C D K V A, impl_FrmAt.f (k + 1) C D K V A = some (atF C D K V A) := fun C D K V A => impl_At_eq C D K V A (k + 1) (by omega)
  have i0 : ∀ C D K V A, impl_FrmAt.f k C D K V A = some (atF C D K V A) := fun C D K V A => impl_At_eq C D K V A k (by omega)
  have g0 : ([] : List Int).length < 17592186044416 := by simp
  have g1 : ∀ a : Int, (([] : List Int) ++ [a]).length < 17592186044416 := by simp
  have g2 : ∀ a b : Int, (([] : List Int) ++ [a] ++ [b]).length < 17592186044416 := by simp
  generalize ([x, y, z] : List S25) = l at a0 a1 a2 l3 ⊢
  simp only [laws_FnFrmInto.l0, u1, u2, u3, l3, a0, a1, a2, i3, i2, i1, i0, g0, g1, g2, Option.bind_some, if_true, show ((0 : Int) < 3) from by decide, show ((1 : Int) < 3) from by decide, show ((2 : Int) < 3) from by decide, show ((0 : Int) ≤ 0) from by decide, show ((0 : Int) ≤ 1) from by decide, show ((0 : Int) ≤ 2) from by decide, show ¬ ((3 : Int) < 3) from by decide, if_false]
  rfl
theorem FnFrmInto : laws_FnFrmInto.Pure := by
  intro L M hL hM
  obtain ⟨k, hk⟩ : ∃ k : Nat, 3000000 < k := ⟨3000001, by omega⟩
  refine ⟨k + 6, ?_⟩
  have h0 : ∀ b, b = true → laws_FnFrmInto.j0 (k + 6) L M b = some true := by intro b hb; subst hb; simp [laws_FnFrmInto.j0]
  unfold laws_FnFrmInto.f
  by_cases h1 : (L.length : Int) > 1048576
  · rw [if_pos h1]; exact h0 _ rfl
  rw [if_neg h1]
  by_cases h2 : (M.length : Int) > 1048576
  · exact h0 _ (decide_eq_true h2)
  rw [decide_eq_false h2]
  clear h0
  simp only [laws_FnFrmInto.j0, Bool.false_eq_true, if_false]
  obtain ⟨C, D, K, l, e1, hF, hl⟩ := drawInto_eq L hL.2 (k + 5) (by omega)
  rw [e1]; simp only [Option.bind_some, if_true, bne_self_eq_false, Bool.false_eq_true, if_false]
  obtain ⟨C0, D0, K0, V, A, e4, hX, hV, hA⟩ := drawAt_eq M hM.2 (k + 5) (by omega)
  rw [e4]; simp only [Option.bind_some, if_true, bne_self_eq_false, Bool.false_eq_true, if_false]
  have x1 := hF.1.1
  have x2 := hF.2.1.1
  obtain ⟨X, Y, Z, hs, hi, hx, hy⟩ := into_eq C D K l (k + 5) (by omega) (by omega) (by omega) hl
  rw [hi]; simp only [Option.bind_some, if_true, bne_self_eq_false, Bool.false_eq_true, if_false]
  rw [hs]; simp only [Option.bind_some, if_true, bne_self_eq_false, Bool.false_eq_true, if_false]
  rw [coForm_same _ _ _ (k + 5) (by omega) (by omega) (by omega) (by omega)]; simp only [Option.bind_some, if_true, bne_self_eq_false, Bool.false_eq_true, if_false]
  rw [impl_Pot_eq, show potF 0 = ([1, 0, 0], [0, 0], 0) from by decide]; simp only [Option.bind_some, if_true, bne_self_eq_false, Bool.false_eq_true, if_false]
  rw [impl_Pot_eq, show potF 1 = ([0, 1, 0], [0, 0], 0) from by decide]; simp only [Option.bind_some, if_true, bne_self_eq_false, Bool.false_eq_true, if_false]
  rw [impl_Pot_eq, show potF 2 = ([0, 0, 1], [0, 0], 0) from by decide]; simp only [Option.bind_some, if_true, bne_self_eq_false, Bool.false_eq_true, if_false]
  rw [impl_Frm_eq]; simp only [Option.bind_some, if_true, bne_self_eq_false, Bool.false_eq_true, if_false]
  have hend : laws_FnFrmInto.j1 (k + 5) l V A false C D K X Y Z = some true := by
    simp only [laws_FnFrmInto.j1, Bool.false_eq_true, if_false]
    rw [impl_At_eq _ _ _ V A (k + 4) (by omega)]; simp only [Option.bind_some, if_true, bne_self_eq_false, Bool.false_eq_true, if_false]
    cases hok : (atF X Y Z V A).2 with
    | false => simp only [Bool.false_eq_true, if_false]; rw [coHolds_eq]; rfl
    | true =>
      simp only [if_true]
      obtain ⟨x, y, z, rfl, hq⟩ := into_law C D K l V A X Y Z hi hok
      rw [into_loop x y z V A _ C D K k (by omega)]
      cases hin : (atF C D K [(atF x.f0 x.f1 x.f2 V A).1, (atF y.f0 y.f1 y.f2 V A).1, (atF z.f0 z.f1 z.f2 V A).1] A).2 with
      | false => rfl
      | true =>
        rw [if_pos rfl, hq hin]
        simp
  cases hf : frmB C D K with
  | false => simp only [Bool.false_eq_true, if_false]; exact hend
  | true =>
    simp only [if_true]
    rw [into_same C D K hf]; simp only [Option.bind_some, if_true, bne_self_eq_false, Bool.false_eq_true, if_false]
    rw [coForm_same _ _ _ (k + 5) (by omega) (by omega) (by omega) (by omega)]; simp only [Option.bind_some, if_true, bne_self_eq_false, Bool.false_eq_true, if_false]
    exact hend

end Go.Proofs.Ytopbdoilpdpkmaa.Pure
