/- Plain functions, and that the Go code computes them: written by a program of this session over the seat's translation; the conditions stand in each theorem. -/
import Derived.Test.YtcafmfmlnfaogaaDoorQFnExactResReadx0
import Derived.Test.YtcafmfmlnfaogaaDoorQFnExactResReadx4
namespace Go.Proofs.YtcafmfmlnfaogaaDoor.QFnExactResRead
open Go.RowKit Go.Proofs.YtcafmfmlnfaogaaDoorW.PrintWords Go.Proofs.YtcafmfmlnfaogaaDoorW.PrintLast Go.Proofs.YtcafmfmlnfaogaaDoorW.PrintMore Go.Proofs.YtcafmfmlnfaogaaDoor.HWords
attribute [local go_sem] max2_int min2_int max_two min_two max_three min_three max_four min_four   -- for this text's walks alone
set_option maxRecDepth 100000
set_option maxHeartbeats 8000000
set_option linter.unusedVariables false
set_option linter.unusedSimpArgs false

/-! ### impl_ResText: function 10 -/
def impl_ResText.j0 : Nat → Bool → Int → List Int → Option (ByteArray)
 | 0, _, _, _ => none
 | k + 1, x32, x160000, x160001 => if x32 = true then (some (⟨#[]⟩ : ByteArray)) else ((impl_codeWords.f).bind fun t163 => (if 0 ≤ x160000 then (if x160000 < (t163.length : Int) then ((impl_joined.f x160001).bind fun t167 => (if (rdOf ByteArray.empty t163 x160000).size + t167.size ≤ 9223372036854775807 then (some ((rdOf ByteArray.empty t163 x160000) ++ t167)) else (none))) else (none)) else (none)))
def impl_ResText.f (k : Nat) (a0_0 : Int) (l0_1 : List Int) : Option (ByteArray) := (impl_in.f a0_0 1 3).bind fun t160 => (if t160 = true then (if (l0_1.length : Int) > 6 then (impl_ResText.j0 k true a0_0 l0_1) else (if a0_0 = 1 then ((impl_within.f l0_1 (l0_1.length : Int) 999999999999).bind fun t161 => (impl_ResText.j0 k (!t161) a0_0 l0_1)) else (if (l0_1.length : Int) > 0 then (impl_ResText.j0 k true a0_0 l0_1) else ((impl_within.f l0_1 (l0_1.length : Int) 999999999999).bind fun t162 => (impl_ResText.j0 k (!t162) a0_0 l0_1))))) else (impl_ResText.j0 k true a0_0 l0_1))
theorem impl_ResText.mono_l : ∀ k, (∀ y0 y1 y2, LeO (impl_ResText.j0 k y0 y1 y2) (impl_ResText.j0 (k + 1) y0 y1 y2))
 | 0 => fun _ _ _ r h => by simp [impl_ResText.j0] at h
 | k + 1 => by
  have ih0 := impl_ResText.mono_l k
  ·intro y0 y1 y2
   unfold impl_ResText.j0
   repeat' first
   | (with_reducible exact ih0 _ _ _)
   | (with_reducible exact LeO.refl _)
   | (with_reducible exact LeO.none _)
   | (with_reducible refine LeO.ite ?_ ?_)
   | (with_reducible refine LeO.bind ?_ (fun _ => ?_))
   | exact LeO.none _
   | refine LeO.ite ?_ ?_
   | refine LeO.bind ?_ (fun _ => ?_)
theorem impl_ResText.mono : ∀ a0 a1 k, LeO (impl_ResText.f k a0 a1) (impl_ResText.f (k + 1) a0 a1) := by
 intro a0 a1 k
 have ih0 := impl_ResText.mono_l k
 unfold impl_ResText.f
 repeat' first
   | (with_reducible exact ih0 _ _ _)
   | (with_reducible exact LeO.refl _)
   | (with_reducible exact LeO.none _)
   | (with_reducible refine LeO.ite ?_ ?_)
   | (with_reducible refine LeO.bind ?_ (fun _ => ?_))
   | exact LeO.none _
   | refine LeO.ite ?_ ?_
   | refine LeO.bind ?_ (fun _ => ?_)
def impl_ResText.T3 : Bool × List (List Nat × List Nat) := (true, [([], []), ([], []), ([1], [1]), ([0, 2], [0, 2]), ([3], [3]), ([], []), ([5], [5]), ([6, 0], [6]), ([4, 7], [4, 7]), ([8, 7, 0, 1, 2, 3, 4, 5, 6, 7, 8], [8])])
def impl_ResText.B3 : List Nat := [0, 0, 2, 7, 15, 0, 32, 97, 255, 511]
theorem impl_ResText.tab3 : rtab .any (opsOf Tryd.f10 3) = impl_ResText.T3 := by kernel_rfl
theorem impl_ResText.bits3 : waitsOk impl_ResText.T3.2 impl_ResText.B3 = true := by kernel_rfl
theorem impl_ResText.calls (k : Nat) (a0_0 : Int) (A0_1 : Option Addr) (c0_1 : Nat) (l0_1 : List Int) (r : ByteArray) (w : World) (hr0_1 : Kd.C (Kd.int .i64) w A0_1 l0_1.length l0_1) (hc0_1 : l0_1.length ≤ c0_1) (h : impl_ResText.f k a0_0 l0_1 = some r) (htab : Tryd.TB w) :
  Calls Tryd.prog 10 #[.agg #[.int .i64 a0_0, .slice A0_1 l0_1.length c0_1]] w fun e w' => e = .returned (.string r) ∧ Below w.heap.size w w' := by
 have HTAB : Aside0 (∀ w', Below w.heap.size w w' → Tryd.TB w') := ⟨fun w' hb => Tryd.TB.below htab hb⟩
 clear htab
 have hu27 := Tryd.underlying27
 have HR0_1 := aM hr0_1
 have HC0_1 := aM hc0_1
 clear hr0_1 hc0_1
 have HB := aM (Below.refl w.heap.size w)
 have H : ((impl_in.f a0_0 1 3).bind fun t160 => (if t160 = true then (if (l0_1.length : Int) > 6 then (impl_ResText.j0 k true a0_0 l0_1) else (if a0_0 = 1 then ((impl_within.f l0_1 (l0_1.length : Int) 999999999999).bind fun t161 => (impl_ResText.j0 k (!t161) a0_0 l0_1)) else (if (l0_1.length : Int) > 0 then (impl_ResText.j0 k true a0_0 l0_1) else ((impl_within.f l0_1 (l0_1.length : Int) 999999999999).bind fun t162 => (impl_ResText.j0 k (!t162) a0_0 l0_1))))) else (impl_ResText.j0 k true a0_0 l0_1))) = some r := h
 clear h
 have HC2 := aM H
 clear H
 go_enter Tryd.func10, Tryd.ntmps10
 go_upto_region 1 with (first | ((with_reducible refine gate_dst (N := 1) rfl ?_); (try (refine gate_guard (by rfl) ?_; dsimp only)); refine bx 1 #[.int .i64 a0_0, .slice A0_1 l0_1.length c0_1] 27 ?_; intro gb159 hg w3 hbox hb; have BK159 := aM (hbox); have GW159 := aM ((gz hg HB.out)); have IGW159 : Nonempty _ := ⟨GW159.out⟩; have GE159 := aM ((gz hg HB.out)); have IGE159 : Nonempty _ := ⟨GE159.out⟩; replace HB := aM (bj HB.out hb); clear hb hbox hg))
 (try simp only [Act.put, sA, s0, sS])
 go_cut [32] (fun v32 wc => ∃ (kq : Nat) (x32_1 : Bool), v32 = .bool x32_1 ∧ Aside0 (impl_ResText.j0 kq x32_1 a0_0 l0_1 = some r) ∧ Aside0 (kq ≤ k) ∧ Aside0 (wc.heap[gb159]? = some (.cells #[.int .i64 a0_0, (.slice A0_1 l0_1.length c0_1)] 27 (0, 0))) ∧ Aside0 (Below w.heap.size w wc))
 case first =>
  have H := HC2.out
  clear HC2
  obtain ⟨t160, A4, H⟩ := bS H
  try dsimp only at H
  by_cases c5 : t160 = true
  ·subst c5
   rw [if_pos rfl] at H
   try dsimp only at H
   by_cases c6 : (l0_1.length : Int) > 6
   ·rw [if_pos c6] at H
    have c6b0 := decide_eq_true c6
    have c6b1 : decide (6 < l0_1.length) = true := decide_eq_true (by omega)
    clear c6
    (first | rw [c6b0] | (simp only [i64_w, i32_w]; rw [c6b0]) | rw [c6b1] | skip)
    have H' := aM H
    clear H
    obtain ⟨hcz7_0, hcz7_1, hfz7_0, hfz7_1⟩ := cf2 BK159.out
    go_wp2_with (first | ((with_reducible refine gate_callee (f := 26) rfl ?_); refine gL (some 5) Tryd.func26 #[.int .i64 a0_0, .int .i64 1, .int .i64 3] ?_; (with_reducible refine (impl_in.calls a0_0 1 3 true _ A4.out).mono ?_); rintro e w' ⟨rfl, ⟨nd, rfl⟩⟩; refine ⟨_, rfl, ?_⟩))
    go_meet
    case rel => exact ⟨_, (true), (by first | rfl | (simp; done) | (simp [*]; done)), H', ⟨by first | omega | exact Nat.le_refl _⟩, ⟨by exact lK <| BK159.out⟩, ⟨by exact jB HB.out⟩⟩
   ·rw [if_neg c6] at H
    have c6b0 := decide_eq_false c6
    have c6b1 : decide (6 < l0_1.length) = false := decide_eq_false (by omega)
    clear c6
    (first | rw [c6b0] | (simp only [i64_w, i32_w]; rw [c6b0]) | rw [c6b1] | skip)
    by_cases c8 : a0_0 = 1
    ·rw [if_pos c8] at H
     have c8b0 := beq_iff_eq.mpr c8
     have c8b1 := bne_eq_false_iff_eq.mpr c8
     clear c8
     obtain ⟨t161, A9, H⟩ := bS H
     try dsimp only at H
     have H' := aM H
     clear H
     obtain ⟨hcz10_0, hcz10_1, hfz10_0, hfz10_1⟩ := cf2 BK159.out
     go_wp2_with (first | ((with_reducible refine gate_callee (f := 26) rfl ?_); refine gL (some 5) Tryd.func26 #[.int .i64 a0_0, .int .i64 1, .int .i64 3] ?_; (with_reducible refine (impl_in.calls a0_0 1 3 true _ A4.out).mono ?_); rintro e w' ⟨rfl, ⟨nd, rfl⟩⟩; refine ⟨_, rfl, ?_⟩) | (go_at_call 27; (with_reducible refine (impl_within.calls _ _ l0_1 (l0_1.length : Int) 999999999999 t161 _ ?side1 ?side2 A9.out).mono ?_); (case side1 => repeat (first | exact (Kd.C_below HR0_1.out (by exact jB HB.out)) | (with_reducible refine Kd.C_alloc ?_ _) | (with_reducible refine Kd.C_drewN ?_ _) | (with_reducible refine Kd.C_drew ?_))); (case side2 => exact HC0_1.out); rintro e w11 ⟨rfl, hb⟩; replace BK159 := aM (bb BK159.out hb); replace HB := aM (bj HB.out hb); (try clear hb)))
     go_meet
     case rel => exact ⟨_, (!t161), (by first | rfl | (simp; done) | (simp [*]; done)), H', ⟨by first | omega | exact Nat.le_refl _⟩, ⟨by exact lK <| BK159.out⟩, ⟨by exact jB HB.out⟩⟩
    ·rw [if_neg c8] at H
     have c8b0 := beq_eq_false_iff_ne.mpr c8
     have c8b1 := bne_iff_ne.mpr c8
     by_cases c12 : (l0_1.length : Int) > 0
     ·rw [if_pos c12] at H
      have c12b0 := decide_eq_true c12
      have c12b1 : decide (0 < l0_1.length) = true := decide_eq_true (by omega)
      clear c12
      have H' := aM H
      clear H
      obtain ⟨hcz13_0, hcz13_1, hfz13_0, hfz13_1⟩ := cf2 BK159.out
      go_wp2_with (first | ((with_reducible refine gate_callee (f := 26) rfl ?_); refine gL (some 5) Tryd.func26 #[.int .i64 a0_0, .int .i64 1, .int .i64 3] ?_; (with_reducible refine (impl_in.calls a0_0 1 3 true _ A4.out).mono ?_); rintro e w' ⟨rfl, ⟨nd, rfl⟩⟩; refine ⟨_, rfl, ?_⟩))
      go_meet
      case rel => exact ⟨_, (true), (by first | rfl | (simp; done) | (simp [*]; done)), H', ⟨by first | omega | exact Nat.le_refl _⟩, ⟨by exact lK <| BK159.out⟩, ⟨by exact jB HB.out⟩⟩
     ·rw [if_neg c12] at H
      have c12b0 := decide_eq_false c12
      have c12b1 : decide (0 < l0_1.length) = false := decide_eq_false (by omega)
      clear c12
      obtain ⟨t162, A14, H⟩ := bS H
      try dsimp only at H
      have H' := aM H
      clear H
      obtain ⟨hcz15_0, hcz15_1, hfz15_0, hfz15_1⟩ := cf2 BK159.out
      go_wp2_with (first | ((with_reducible refine gate_callee (f := 26) rfl ?_); refine gL (some 5) Tryd.func26 #[.int .i64 a0_0, .int .i64 1, .int .i64 3] ?_; (with_reducible refine (impl_in.calls a0_0 1 3 true _ A4.out).mono ?_); rintro e w' ⟨rfl, ⟨nd, rfl⟩⟩; refine ⟨_, rfl, ?_⟩) | (go_at_call 27; (with_reducible refine (impl_within.calls _ _ l0_1 (l0_1.length : Int) 999999999999 t162 _ ?side1 ?side2 A14.out).mono ?_); (case side1 => repeat (first | exact (Kd.C_below HR0_1.out (by exact jB HB.out)) | (with_reducible refine Kd.C_alloc ?_ _) | (with_reducible refine Kd.C_drewN ?_ _) | (with_reducible refine Kd.C_drew ?_))); (case side2 => exact HC0_1.out); rintro e w16 ⟨rfl, hb⟩; replace BK159 := aM (bb BK159.out hb); replace HB := aM (bj HB.out hb); (try clear hb)))
      go_meet
      case rel => exact ⟨_, (!t162), (by first | rfl | (simp; done) | (simp [*]; done)), H', ⟨by first | omega | exact Nat.le_refl _⟩, ⟨by exact lK <| BK159.out⟩, ⟨by exact jB HB.out⟩⟩
  ·replace c5 := Bool.eq_false_iff.mpr c5
   subst c5
   rw [if_neg nf] at H
   try dsimp only at H
   have H' := aM H
   clear H
   obtain ⟨hcz17_0, hcz17_1, hfz17_0, hfz17_1⟩ := cf2 BK159.out
   go_wp2_with (first | ((with_reducible refine gate_callee (f := 26) rfl ?_); refine gL (some 5) Tryd.func26 #[.int .i64 a0_0, .int .i64 1, .int .i64 3] ?_; (with_reducible refine (impl_in.calls a0_0 1 3 false _ A4.out).mono ?_); rintro e w' ⟨rfl, ⟨nd, rfl⟩⟩; refine ⟨_, rfl, ?_⟩))
   go_meet
   case rel => exact ⟨_, (true), (by first | rfl | (simp; done) | (simp [*]; done)), H', ⟨by first | omega | exact Nat.le_refl _⟩, ⟨by exact lK <| BK159.out⟩, ⟨by exact jB HB.out⟩⟩
 case rest =>
  clear HC2
  try clear c1
  try clear c2
  try clear p2
  try clear c5
  try clear c6
  try clear c6b0
  try clear c6b1
  try clear c8
  try clear c8b0
  try clear c8b1
  try clear c10
  try clear c12
  try clear c12b0
  try clear c12b1
  try clear hcz10_0
  try clear hcz10_1
  try clear hcz13_0
  try clear hcz13_1
  try clear hcz15_0
  try clear hcz15_1
  try clear hcz17_0
  try clear hcz17_1
  try clear hcz7_0
  try clear hcz7_1
  try clear hfz10_0
  try clear hfz10_1
  try clear hfz13_0
  try clear hfz13_1
  try clear hfz15_0
  try clear hfz15_1
  try clear hfz17_0
  try clear hfz17_1
  try clear hfz7_0
  try clear hfz7_1
  obtain ⟨kq, x32_1, rfl, HA, HJ1, BK159, HB⟩ := hcut
  cases kq with
  | zero => exact absurd HA.out (by simp [impl_ResText.j0])
  | succ kj1 =>
   have H := HA.out
   clear HA
   simp only [impl_ResText.j0] at H
   by_cases c18 : x32_1 = true
   ·subst c18
    rw [if_pos rfl] at H
    try dsimp only at H
    obtain rfl := Option.some.inj H
    go_wp2
    go_ret
    exact ⟨er, by exact jB HB.out⟩
   ·replace c18 := Bool.eq_false_iff.mpr c18
    subst c18
    rw [if_neg nf] at H
    try dsimp only at H
    obtain ⟨t163, A19, H⟩ := bS H
    try dsimp only at H
    by_cases c20 : 0 ≤ a0_0
    ·rw [if_pos c20] at H
     have c20b0 := decide_eq_true c20
     clear c20
     by_cases c21 : a0_0 < (t163.length : Int)
     ·rw [if_pos c21] at H
      have c21b0 := decide_eq_true c21
      clear c21
      obtain ⟨t167, A22, H⟩ := bS H
      try dsimp only at H
      by_cases c23 : (rdOf ByteArray.empty t163 a0_0).size + t167.size ≤ 9223372036854775807
      ·rw [if_pos c23] at H
       have c23b0 := eq_true c23
       have c23b1 := decide_eq_true c23
       try have c23b2 : (9223372036854775807 < (rdOf ByteArray.empty t163 a0_0).size + t167.size) = False := eq_false (Nat.not_lt.2 c23)
       obtain rfl := Option.some.inj H
       try go_wp2
       replace BK159 := aM (blk_drew BK159.out)
       replace HB := aM (below_drew1 HB.out)
       refine start_ (n := 10) (S := fun w' => w'.cell? ⟨gb159, 0, none⟩ = some (.int .i64 a0_0) ∧ w'.cell? ⟨gb159, 1, none⟩ = some (.slice A0_1 l0_1.length c0_1)) (ds := []) #[false, false, false, false, false, false, false, false, false, false] (by kernel_rfl) rfl rfl ⟨(blk_cell BK159.out 0).trans rfl, (blk_cell BK159.out 1).trans rfl⟩ (fun hHeld => ?_); refine with_tabW impl_ResText.tab3 impl_ResText.bits3 (fun HT_ HW_ => ?_)
       generalize wc.drew = w24 at BK159 HB hHeld ⊢
       refine pure_ (i := 1) (N := some 34) (v := ?_) (a' := ?_) #[false, true, false, false, false, false, false, false, false, false] rfl rfl (any_of HT_.out (by kernel_rfl)) (fun _ _ _ h => h) (Or.inl ⟨by rfl, ?_⟩) ?_ ?_
       rotate_left
       ·intro w'
        go_simp
        with_reducible rfl
       rotate_left
       ·simp only [Act.put, sA, s0, sS, i64_w, i32_w]
        rfl
       refine pure_ (i := 5) (N := some 38) (v := ?_) (a' := ?_) #[false, true, false, false, false, true, false, false, false, false] rfl rfl (any_of HT_.out (by kernel_rfl)) (fun _ _ _ h => h) (Or.inl ⟨by rfl, ?_⟩) ?_ ?_
       rotate_left
       ·intro w'
        go_simp
        with_reducible rfl
       rotate_left
       ·simp only [Act.put, sA, s0, sS, i64_w, i32_w]
        rfl
       refine take_ (i := 2) (N := some 35) (v := ?_) (a' := ?_) #[false, true, true, false, false, true, false, false, false, false] rfl rfl (take_ofW HT_.out HW_.out (by kernel_rfl)) (fun _ _ _ h => h) (Or.inl ⟨by rfl, ?_⟩) hHeld ?_ ?_
       rotate_left
       ·rintro w' ⟨s0, s1⟩
        go_simp
        with_reducible rfl
       rotate_left
       ·simp only [Act.put, sA, s0, sS, i64_w, i32_w]
        rfl
       refine take_ (i := 6) (N := some 39) (v := ?_) (a' := ?_) #[false, true, true, false, false, true, true, false, false, false] rfl rfl (take_ofW HT_.out HW_.out (by kernel_rfl)) (fun _ _ _ h => h) (Or.inl ⟨by rfl, ?_⟩) hHeld ?_ ?_
       rotate_left
       ·rintro w' ⟨s0, s1⟩
        go_simp
        with_reducible rfl
       rotate_left
       ·simp only [Act.put, sA, s0, sS, i64_w, i32_w]
        rfl
       refine one_ (i := 0) (N := some 33) #[true, true, true, false, false, true, true, false, false, false] rfl rfl (one_of HT_.out (by kernel_rfl)) (by decide) (fun K hK => ?_)
       refine goes_ Tryd.func28 (by kernel_rfl) rfl #[] (by rfl) rfl rfl (by (try simp only [mA, mC, mN]); first | done | rfl | (simp only [ld, lt]; rfl)) ?_
       with_reducible refine (impl_codeWords.calls  t163 _ A19.out).mono ?_
       rintro e w25 ⟨v164, rfl, ho0, hb⟩
       refine ⟨_, rfl, ?_⟩
       have HO165 := aM (Kd.R_lower ho0 (below_size (by exact jB HB.out)))
       replace BK159 := aM (bb BK159.out hb)
       replace HB := aM (bj HB.out hb)
       (try clear hb)
       (try clear hb2)
       (try clear hk)
       (try clear hi)
       (try clear ho0)
       obtain ⟨Ao26, co26, eo26⟩ := Kd.R_slice HO165.out
       (first | subst eo26 | (injection eo26 with f1_ f2_ f3_; have f4_ := f1_.symm; have f5_ := f3_.symm; clear f1_ f2_ f3_; subst f4_; subst f5_))
       have p166 : 0 ≤ (a0_0 : Int) := of_decide_eq_true (by first | (with_reducible assumption) | assumption)
       have q166 : a0_0 < (t163.length : Int) := of_decide_eq_true (by first | (with_reducible assumption) | assumption)
       obtain ⟨ad166, e166, hx166_0⟩ := Kd.at_string (Kd.R_reads' HO165.out).2.2 a0_0 p166 q166
       cases e166
       replace p166 := eq_true p166
       replace q166 := eq_true q166
       refine hK.out _ _ ⟨(blk_cell BK159.out 0).trans rfl, (blk_cell BK159.out 1).trans rfl⟩ (fun hHeld => ?_)
       refine stronger_ (S2 := fun w' => w'.cell? ⟨gb159, 0, none⟩ = some (.int .i64 a0_0) ∧ w'.cell? ⟨gb159, 1, none⟩ = some (.slice A0_1 l0_1.length c0_1) ∧ w'.cell? (ad166.add (a0_0).toNat) = some (.string (rdOf ByteArray.empty t163 a0_0))) (fun _ h => ⟨h.1, h.2.1⟩) _ _ _ _ ⟨hHeld.1, hHeld.2, hx166_0⟩ ?_
       replace hHeld := And.intro hHeld.1 (And.intro hHeld.2 hx166_0)
       clear hK K
       refine norm_ (a' := ?_) ?_ ?_
       rotate_left
       ·show Act.put _ (some 33) _ = _
        simp only [Act.put, sA, s0, sS, i64_w, i32_w]
        rfl
       refine pure_ (i := 3) (N := some 36) (v := ?_) (a' := ?_) #[true, true, true, true, false, true, true, false, false, false] rfl rfl (any_of HT_.out (by kernel_rfl)) (fun _ _ _ h => h) (Or.inl ⟨by rfl, ?_⟩) ?_ ?_
       rotate_left
       ·intro w'
        go_simp
        with_reducible rfl
       rotate_left
       ·simp only [Act.put, sA, s0, sS, i64_w, i32_w]
        rfl
       refine take_ (i := 4) (N := some 37) (v := ?_) (a' := ?_) #[true, true, true, true, true, true, true, false, false, false] rfl rfl (take_ofW HT_.out HW_.out (by kernel_rfl)) (fun _ _ _ h => h) (Or.inl ⟨by rfl, ?_⟩) hHeld ?_ ?_
       rotate_left
       ·rintro w' ⟨s0, s1, s2⟩
        go_simp
        with_reducible rfl
       rotate_left
       ·simp only [Act.put, sA, s0, sS, i64_w, i32_w]
        rfl
       refine one_ (i := 7) (N := some 40) #[true, true, true, true, true, true, true, true, false, false] rfl rfl (one_of HT_.out (by kernel_rfl)) (by decide) (fun K hK => ?_)
       refine goes_ Tryd.func29 (by kernel_rfl) rfl #[.slice A0_1 l0_1.length c0_1] (by rfl) rfl rfl (by (try simp only [mA, mC, mN]); first | done | rfl | (simp only [ld, lt]; rfl)) ?_
       with_reducible refine (impl_joined.calls _ _ l0_1 t167 _ ?side1 ?side2 A22.out (HTAB.out _ (by exact jB HB.out))).mono ?_
       (case side1 => exact lC <| (Kd.C_below HR0_1.out HB.out))
       (case side2 => exact HC0_1.out)
       rintro e w27 ⟨rfl, hb⟩
       have HS2_ := (hb.cell (World.block_lt_of_cell? _ _ (hHeld.2.2))).trans (hHeld.2.2)
       refine ⟨_, rfl, ?_⟩
       replace HO165 := aM (rb HO165.out hb)
       replace BK159 := aM (bb BK159.out hb)
       replace HB := aM (bj HB.out hb)
       (try clear hb)
       (try clear hb2)
       (try clear hk)
       (try clear hi)
       refine hK.out _ _ ⟨(blk_cell BK159.out 0).trans rfl, (blk_cell BK159.out 1).trans rfl, HS2_⟩ (fun hHeld => ?_)
       clear hK K
       refine norm_ (a' := ?_) ?_ ?_
       rotate_left
       ·show Act.put _ (some 40) _ = _
        simp only [Act.put, sA, s0, sS, i64_w, i32_w]
        rfl
       refine pure_ (i := 8) (N := some 41) (v := ?_) (a' := ?_) #[true, true, true, true, true, true, true, true, true, false] rfl rfl (any_of HT_.out (by kernel_rfl)) (fun _ _ _ h => h) (Or.inl ⟨by rfl, ?_⟩) ?_ ?_
       rotate_left
       ·intro w'
        go_simp
        with_reducible rfl
       rotate_left
       ·simp only [Act.put, sA, s0, sS, i64_w, i32_w]
        rfl
       refine pure_ (i := 9) (N := some 2) (v := ?_) (a' := ?_) #[true, true, true, true, true, true, true, true, true, true] rfl rfl (any_of HT_.out (by kernel_rfl)) (fun _ _ _ h => h) (Or.inl ⟨by rfl, ?_⟩) ?_ ?_
       rotate_left
       ·intro w'
        go_simp
        with_reducible rfl
       rotate_left
       ·simp only [Act.put, sA, s0, sS, i64_w, i32_w]
        rfl
       refine done_ (done_of HT_.out (by kernel_rfl)) ?_
       try go_wp2
       go_ret
       exact ⟨er, by exact jB HB.out⟩
      ·rw [if_neg c23] at H
       exact absurd H (by simp)
     ·rw [if_neg c21] at H
      exact absurd H (by simp)
    ·rw [if_neg c20] at H
     exact absurd H (by simp)

-- NOT PRINTED: function 61 (utf8_RuneCountInString)

-- NOT PRINTED: function 72 (utf8_decodeRuneInStringSlow)

-- NOT PRINTED: function 62 (utf8_DecodeRuneInString)

-- NOT PRINTED: function 54 (strings_explode)

-- NOT PRINTED: function 88 (bytealg_IndexByteString)

-- NOT PRINTED: function 73 (stringslite_IndexByte)

-- NOT PRINTED: function 74 (bytealg_IndexString)

-- NOT PRINTED: function 75 (bytealg_Cutover)

-- NOT PRINTED: function 89 (bytealg_hashStr_string)

-- NOT PRINTED: function 76 (bytealg_IndexRabinKarp_string)

-- NOT PRINTED: function 64 (stringslite_Index)

-- NOT PRINTED: function 56 (strings_Index)

-- NOT PRINTED: function 63 (bytealg_CountString)

-- NOT PRINTED: function 55 (strings_Count)

-- NOT PRINTED: function 47 (strings_genSplit)

/-! ### strings_Split: function 33, by hand -/
theorem str_row (w : World) (xs : List ByteArray) (hl : xs.length ≤ 4611686018427387904) :
  Kd.R Kd.string 9 (w.alloc (.cells (xs.map Value.string).toArray 9)) w.heap.size (fun _ => True) (.slice (some ⟨w.heap.size, 0, none⟩) xs.length xs.length) xs := by
 refine ⟨fun _ _ => trivial, xs.map Value.string, ⟨?_, .inr ⟨w.heap.size, xs.length, (xs.map Value.string).toArray, rfl, Nat.le_refl _, (by show (w.heap.push _)[w.heap.size]? = _; simp), Nat.le_refl _, ?_, ?_, ?_⟩⟩, ?_, fun j p h => ?_⟩
 ·show (xs.map Value.string).length = xs.length * 1
  simp
 ·unfold maxLen
  omega
 ·show (xs.map Value.string).toArray.size = xs.length * 1
  simp
 ·show List.take (xs.length * 1) (xs.map Value.string).toArray.toList = _
  rw [Nat.mul_one]
  exact List.take_of_length_le (by simp)
 ·show (xs.map Value.string).length = xs.length * 1
  simp
 ·show List.take 1 (List.drop (j * 1) (xs.map Value.string)) = [Value.string p]
  obtain ⟨hj, e⟩ := List.getElem?_eq_some_iff.mp h
  rw [Nat.mul_one, List.drop_eq_getElem_cons (by simpa using hj), List.take_succ_cons, List.take_zero, List.getElem_map, e]
def strings_Split.f (a0 : ByteArray) (a1 : ByteArray) : Option (List ByteArray) := if a1.size = 1 ∧ a0.size ≤ 1048576 then some (Go.Lib.splitB a1 0 (Go.Lib.countB a0 a1) a0) else none
theorem strings_Split.calls (a0 : ByteArray) (a1 : ByteArray) (r : List ByteArray) (w : World) (h : strings_Split.f a0 a1 = some r) (htab : Tryd.TB w) :
  Calls Tryd.prog 33 #[.string a0, .string a1] w fun e w' => ∃ v0_ : Value, e = .returned (v0_) ∧ Kd.R Kd.string 9 w' w.heap.size (fun _ => True) v0_ r ∧ Below w.heap.size w w' := by
 unfold strings_Split.f at h
 by_cases hL : a1.size = 1 ∧ a0.size ≤ 1048576
 case neg => rw [if_neg hL] at h; exact absurd h (by simp)
 case pos =>
  rw [if_pos hL] at h
  obtain rfl := Option.some.inj h
  clear h
  obtain ⟨m, hm⟩ := htab.maxLen
  have hlen := Go.Lib.splitB_all a1 (by omega) 0 _ a0 rfl
  have hcnt := Go.Lib.countB_le a1 (by omega) _ a0 (Nat.le_refl _)
  refine (Tryd.strings_Split a0 a1 m w (by omega) hm (by omega)).mono ?_
  rintro e w' ⟨rfl, rfl⟩
  refine ⟨.slice (some ⟨w.heap.size, 0, none⟩) (Go.Lib.splitB a1 0 (Go.Lib.countB a0 a1) a0).length (Go.Lib.splitB a1 0 (Go.Lib.countB a0 a1) a0).length, by rw [hlen], str_row w _ (by omega), below_alloc (Below.refl _ _) _⟩

-- NOT PRINTED: function 95 (strconv_lower)

-- NOT PRINTED: function 96 (strconv_underscoreOK)

-- NOT PRINTED: function 90 (strconv_ParseUint)

-- NOT PRINTED: function 77 (strconv_ParseInt)

-- NOT PRINTED: function 65 (strconv_Atoi_65)

-- NOT PRINTED: function 91 (stringslite_Clone)

-- NOT PRINTED: function 78 (strconv_syntaxError)

-- NOT PRINTED: function 79 (strconv_rangeError)

-- NOT PRINTED: function 92 (errors_New)

-- NOT PRINTED: function 80 (strconv_baseError)

-- NOT PRINTED: function 81 (strconv_bitSizeError)

-- NOT PRINTED: function 66 (strconv_toError)

-- NOT PRINTED: function 57 (strconv_Atoi_57)

-- NOT PRINTED: function 82 (stringslite_HasPrefix)

-- NOT PRINTED: function 67 (stringslite_TrimPrefix)

-- NOT PRINTED: function 58 (strings_TrimPrefix)

/-! ### impl_numberOf: function 48, by hand -/
/-- A word's number, and whether it is one. -/
def numV (s : ByteArray) : Int × Bool :=
 match Go.Lib.atoiAll s.data.toList with
 | .ok v => (v, (Go.Lib.itoa v == s.toList) && decide (((Go.Lib.trimPrefix s.data.toList [45]).length : Int) ≤ 12))
 | .range => (Go.Lib.atoiSat s.data.toList, false)
 | _ => (0, false)
theorem numB {w w' : World} (h : w' = w ∨ ∃ t, w' = Go.Lib.bytesWorld w 5 t) : Below w.heap.size w w' := by
 rcases h with rfl | ⟨t, rfl⟩
 ·exact Below.refl _ _
 ·exact Go.Lib.bytesWorld_below _ _ _
def impl_numberOf.f (a0 : ByteArray) : Option (Int × Bool) := if a0.size ≤ 1048576 then some (numV a0) else none
theorem impl_numberOf.calls (a0 : ByteArray) (r1 : Int) (r2 : Bool) (w : World) (h : impl_numberOf.f a0 = some (r1, r2)) (htab : Tryd.TB w) :
  Calls Tryd.prog 48 #[.string a0] w fun e w' => e = .returned (.tuple #[.int .i64 r1, .bool r2]) ∧ Below w.heap.size w w' := by
 unfold impl_numberOf.f at h
 by_cases hL : a0.size ≤ 1048576
 case neg => rw [if_neg hL] at h; exact absurd h (by simp)
 case pos =>
  rw [if_pos hL] at h
  have h := Option.some.inj h
  have HT := aM htab
  clear htab
  unfold numV at h
  cases ha : Go.Lib.atoiAll a0.data.toList with
  | ok v =>
   rw [ha] at h
   obtain ⟨rfl, rfl⟩ := Prod.mk.inj h
   clear h
   have hv := Go.Lib.atoiAll_bounds ha
   have HA := aM (Tryd.strconv_Atoi_ok a0 (by omega) v ha w)
   have HI := aM (Tryd.strconv_Itoa v hv.1 hv.2)
   clear ha hv
   go_enter Tryd.func48, Tryd.ntmps48
   go_wp2_with (first
    | (go_at_call 57; refine HA.out.mono ?_; rintro e w1 ⟨rfl, hw⟩; have HB1 := aM (numB hw); clear hw)
    | (go_at_call 45; refine (HI.out _ (Tryd.TB.below HT.out HB1.out).tab).mono ?_; rintro e w2 ⟨rfl, kk, os, rfl⟩; have HB2 := aM (below_grown HB1.out HB1.out.size kk os))
    | (go_at_call 58; refine (Tryd.strings_TrimPrefix _ _ _).mono ?_; rintro e w3 ⟨rfl, rfl⟩))
   all_goals go_ret2
   all_goals refine ⟨?_, HB2.out⟩
   all_goals first | rfl | (simp [*]; done) | skip
  | range =>
   rw [ha] at h
   obtain ⟨rfl, rfl⟩ := Prod.mk.inj h
   clear h
   obtain ⟨tp, p, hvar⟩ := HT.out.ran
   have HA := aM (Tryd.strconv_Atoi_range_var a0 (by omega) ha tp p w hvar)
   clear ha hvar
   go_enter Tryd.func48, Tryd.ntmps48
   go_wp2_with (first
    | (go_at_call 57; refine HA.out.mono ?_; rintro e w1 ⟨N_, rfl, hN, hb, hw⟩; have HB1 := aM hw; clear hN hb hw))
   go_ret2
   exact ⟨rfl, HB1.out⟩
  | _ =>
   rw [ha] at h
   obtain ⟨rfl, rfl⟩ := Prod.mk.inj h
   clear h
   obtain ⟨tp, p, hvar⟩ := HT.out.syn
   have HA := aM (Tryd.strconv_Atoi_bad a0 (by omega) (fun v e => by rw [ha] at e; cases e) (fun e => by rw [ha] at e; cases e) tp p w hvar)
   clear ha hvar
   go_enter Tryd.func48, Tryd.ntmps48
   go_wp2_with (first
    | (go_at_call 57; refine HA.out.mono ?_; rintro e w1 ⟨N_, rfl, hN, hb, hw⟩; have HB1 := aM hw; clear hN hb hw))
   go_ret2
   exact ⟨rfl, HB1.out⟩

/-! ### impl_numbersOf: function 34 -/
def impl_numbersOf.l0 : Nat → List Int → List ByteArray → Int → Int → Option (List Int × Bool)
 | 0, _, _, _, _ => none
 | k + 1, x4, x9, x10, x11 => if x11 < x10 then (if 0 ≤ x11 then (if x11 < (x9.length : Int) then ((impl_numberOf.f (rdOf ByteArray.empty x9 x11)).bind fun bt169 => (if bt169.2 = true then (if x4.length < 17592186044416 then (impl_numbersOf.l0 k (x4 ++ [bt169.1]) x9 x10 (wrap64 (x11 + 1))) else (none)) else (some (([] : List Int), false)))) else (none)) else (none)) else (some (x4, true))
def impl_numbersOf.f (k : Nat) (l0 : List ByteArray) : Option (List Int × Bool) := impl_numbersOf.l0 k ([] : List Int) l0 (l0.length : Int) 0
theorem impl_numbersOf.mono_l : ∀ k, (∀ y0 y1 y2 y3, LeO (impl_numbersOf.l0 k y0 y1 y2 y3) (impl_numbersOf.l0 (k + 1) y0 y1 y2 y3))
 | 0 => fun _ _ _ _ r h => by simp [impl_numbersOf.l0] at h
 | k + 1 => by
  have ih0 := impl_numbersOf.mono_l k
  ·intro y0 y1 y2 y3
   unfold impl_numbersOf.l0
   repeat' first
   | (with_reducible exact ih0 _ _ _ _)
   | (with_reducible exact LeO.refl _)
   | (with_reducible exact LeO.none _)
   | (with_reducible refine LeO.ite ?_ ?_)
   | (with_reducible refine LeO.bind ?_ (fun _ => ?_))
   | exact LeO.none _
   | refine LeO.ite ?_ ?_
   | refine LeO.bind ?_ (fun _ => ?_)
theorem impl_numbersOf.mono : ∀ a0 k, LeO (impl_numbersOf.f k a0) (impl_numbersOf.f (k + 1) a0) := by
 intro a0 k
 have ih0 := impl_numbersOf.mono_l k
 unfold impl_numbersOf.f
 repeat' first
   | (with_reducible exact ih0 _ _ _ _)
   | (with_reducible exact LeO.refl _)
   | (with_reducible exact LeO.none _)
   | (with_reducible refine LeO.ite ?_ ?_)
   | (with_reducible refine LeO.bind ?_ (fun _ => ?_))
   | exact LeO.none _
   | refine LeO.ite ?_ ?_
   | refine LeO.bind ?_ (fun _ => ?_)
theorem impl_numbersOf.calls (k : Nat) (A0 : Option Addr) (c0 : Nat) (l0 : List ByteArray) (r1 : List Int) (r2 : Bool) (w : World) (hr0 : Kd.C Kd.string w A0 l0.length l0) (hc0 : l0.length ≤ c0) (h : impl_numbersOf.f k l0 = some (r1, r2)) (htab : Tryd.TB w) :
  Calls Tryd.prog 34 #[.slice A0 l0.length c0] w fun e w' => ∃ v0_ : Value, e = .returned (.tuple #[v0_, .bool r2]) ∧ Kd.R (Kd.int .i64) 3 w' w.heap.size (fun _ => True) v0_ r1 ∧ Below w.heap.size w w' := by
 have HTAB : Aside0 (∀ w', Below w.heap.size w w' → Tryd.TB w') := ⟨fun w' hb => Tryd.TB.below htab hb⟩
 clear htab
 have HR0 := aM hr0
 have HC0 := aM hc0
 clear hr0 hc0
 have HB := aM (Below.refl w.heap.size w)
 have H : (impl_numbersOf.l0 k ([] : List Int) l0 (l0.length : Int) 0) = some (r1, r2) := h
 clear h
 have H' := aM H
 clear H
 go_enter Tryd.func34, Tryd.ntmps34
 go_wp2
 go_loopg [4, 11] k (fun kq v4 v11 w' => ∃ (x4_1 : List Int) (x11_1 : Int), v11 = .int .i64 x11_1 ∧ Aside0 (impl_numbersOf.l0 kq x4_1 l0 (l0.length : Int) x11_1 = some (r1, r2)) ∧ Aside0 (kq ≤ k) ∧ Aside0 (Kd.R (Kd.int .i64) 3 w' w.heap.size (fun _ => True) v4 x4_1) ∧ Aside0 (Below w.heap.size w w'))
 case atStart => exact ⟨(([] : List Int)), (0), (by first | rfl | (simp; done) | (simp [*]; done)), H', ⟨Nat.le_refl _⟩, ⟨by first | exact Kd.R_nil _ _ _ _ _ | exact Kd.N_nil _ _ _ _ _ | exact Kd.V_nil _ _ _ _ _ | exact Kd.Q_nil _ _ _ _ _ | exact Kd.S_nil _ _ _ _ _⟩, ⟨by exact lB HB.out⟩⟩
 case round =>
  clear H'
  obtain ⟨x4_1, x11_1, rfl, HA, HK1, HO_4, HB⟩ := hrel
  cases gk with
  | zero => exact absurd HA.out (by simp [impl_numbersOf.l0])
  | succ k1 =>
   have H := HA.out
   clear HA
   simp only [impl_numbersOf.l0] at H
   by_cases c2 : x11_1 < (l0.length : Int)
   ·rw [if_pos c2] at H
    have c2b0 := decide_eq_true c2
    clear c2
    by_cases c3 : 0 ≤ x11_1
    ·rw [if_pos c3] at H
     have c3b0 := decide_eq_true c3
     clear c3
     by_cases c4 : x11_1 < (l0.length : Int)
     ·rw [if_pos c4] at H
      have c4b0 := decide_eq_true c4
      clear c4
      obtain ⟨⟨t169, t170⟩, A5, H⟩ := bS H
      try dsimp only at H
      by_cases c6 : t170 = true
      ·subst c6
       rw [if_pos rfl] at H
       try dsimp only at H
       by_cases c7 : x4_1.length < 17592186044416
       ·rw [if_pos c7] at H
        have LMc7 := aM c7
        clear c7
        obtain ⟨y171, hy171⟩ : ∃ y_ : List Int, y_ = (x4_1 ++ [t169]) := ⟨_, rfl⟩
        try rw [← hy171] at H
        try dsimp only [Option.bind_some] at H
        have Ny171 := aM hy171
        clear hy171
        have H' := aM H
        clear H
        have p168 : 0 ≤ (x11_1 : Int) := of_decide_eq_true (by first | (with_reducible assumption) | assumption)
        have q168 : x11_1 < (l0.length : Int) := of_decide_eq_true (by first | (with_reducible assumption) | assumption)
        obtain ⟨ad168, e168, hx168_0⟩ := Kd.at_string HR0.out x11_1 p168 q168
        cases e168
        replace hx168_0 := cl HB.out hx168_0
        replace p168 := eq_true p168
        replace q168 := eq_true q168
        go_wp2_with (first | ((with_reducible refine gate_callee (f := 48) rfl ?_); refine gL (some 17) Tryd.func48 #[.string (rdOf ByteArray.empty l0 x11_1)] ?_; (with_reducible refine (impl_numberOf.calls (rdOf ByteArray.empty l0 x11_1) t169 true _ A5.out (HTAB.out _ (by exact jB HB.out))).mono ?_); rintro e w8 ⟨rfl, hb⟩; refine ⟨_, rfl, ?_⟩; replace HO_4 := aM (rb HO_4.out hb); replace HB := aM (bj HB.out hb); (try clear hb)) | ((with_reducible refine gate_builtin (b := .append) (xs := #[.tmp 22, .tmp 24]) rfl ?_); at_builtin; refine Kd.R_append (Kd.int .i64) (w0 := w) w.heap.size rfl (.tmp 22) (.tmp 24) 22 3 (.int .i64 0) 8 rfl Tryd.underlying22 info3 rfl (by decide) (by omega) u4 x4_1 t169 [.int .i64 t169] (fun _ => True) (fun _ => False) rfl rfl ?aP (fun _ hk => hk.elim) ?aF ?aO ?aB ?aS ?aL ?_; (case aP => exact rfl); (case aB => exact (by exact lB HB.out)); (case aF => exact (fun _ _ => trivial)); (case aO => exact (by exact lR HO_4.out)); (case aS => exact (below_size (by exact lB HB.out))); (case aL => have := LMc7.out; omega); intro v172 w9 ho hb hg hat; rw [← Ny171.out] at ho; replace HB := aM (hb); have HO173 := aM (ho); clear HO_4 ho hb hg hat))
        go_roundg k1
        case measure => have := HK1.out; omega
        case rel => exact ⟨(y171), (wrap64 (x11_1 + 1)), (by first | rfl | (simp; done) | (simp [*]; done)), H', ⟨by have := HK1.out; omega⟩, ⟨by exact lR <| HO173.out⟩, ⟨by exact lB HB.out⟩⟩
       ·rw [if_neg c7] at H
        exact absurd H (by simp)
      ·replace c6 := Bool.eq_false_iff.mpr c6
       subst c6
       rw [if_neg nf] at H
       try dsimp only at H
       simp only [Option.some.injEq, Prod.mk.injEq] at H
       obtain ⟨rfl, rfl⟩ := H
       have p168 : 0 ≤ (x11_1 : Int) := of_decide_eq_true (by first | (with_reducible assumption) | assumption)
       have q168 : x11_1 < (l0.length : Int) := of_decide_eq_true (by first | (with_reducible assumption) | assumption)
       obtain ⟨ad168, e168, hx168_0⟩ := Kd.at_string HR0.out x11_1 p168 q168
       cases e168
       replace hx168_0 := cl HB.out hx168_0
       replace p168 := eq_true p168
       replace q168 := eq_true q168
       go_wp2_with (first | ((with_reducible refine gate_callee (f := 48) rfl ?_); refine gL (some 17) Tryd.func48 #[.string (rdOf ByteArray.empty l0 x11_1)] ?_; (with_reducible refine (impl_numberOf.calls (rdOf ByteArray.empty l0 x11_1) t169 false _ A5.out (HTAB.out _ (by exact jB HB.out))).mono ?_); rintro e w10 ⟨rfl, hb⟩; refine ⟨_, rfl, ?_⟩; replace HO_4 := aM (rb HO_4.out hb); replace HB := aM (bj HB.out hb); (try clear hb)))
       go_ret2
       exact ⟨_, er, by first | exact Kd.R_nil _ _ _ _ _ | exact Kd.N_nil _ _ _ _ _ | exact Kd.V_nil _ _ _ _ _ | exact Kd.Q_nil _ _ _ _ _ | exact Kd.S_nil _ _ _ _ _, by exact lB HB.out⟩
     ·rw [if_neg c4] at H
      exact absurd H (by simp)
    ·rw [if_neg c3] at H
     exact absurd H (by simp)
   ·rw [if_neg c2] at H
    have c2b0 := decide_eq_false c2
    clear c2
    simp only [Option.some.injEq, Prod.mk.injEq] at H
    obtain ⟨rfl, rfl⟩ := H
    go_wp2
    go_ret2
    exact ⟨_, er, by exact lR <| HO_4.out, by exact lB HB.out⟩

/-! ### slices_Index_string_string: function 35, by hand -/
def slices_Index_string_string.f (l0 : List ByteArray) (a1 : ByteArray) : Option (Int) := some (Go.Lib.idxOfS l0 a1)
theorem slices_Index_string_string.calls (A0 : Option Addr) (c0 : Nat) (l0 : List ByteArray) (a1 : ByteArray) (r : Int) (w : World) (hr0 : Kd.C Kd.string w A0 l0.length l0) (hc0 : l0.length ≤ c0) (h : slices_Index_string_string.f l0 a1 = some r) :
  Calls Tryd.prog 35 #[.slice A0 l0.length c0, .string a1] w fun e w' => e = .returned (.int .i64 r) ∧ Below w.heap.size w w' := by
 obtain rfl := Option.some.inj h
 clear h
 by_cases hl : l0 = []
 ·subst hl
  refine (Tryd.slices_Index_string_empty A0 c0 a1 w).mono ?_
  rintro e w' ⟨rfl, rfl⟩
  exact ⟨rfl, Below.refl _ _⟩
 ·have hpos : 0 < l0.length := List.length_pos_iff.mpr hl
  obtain ⟨ad, e1, hx⟩ := Kd.at_string hr0 0 (by omega) (by omega)
  subst e1
  obtain ⟨b, off, sp⟩ := ad
  have hsp : sp = none := by
   cases sp with
   | none => rfl
   | some x =>
    exfalso
    simp only [Addr.add, Int.toNat_zero, if_true, World.cell?] at hx
    split at hx
    ·simp at hx
    ·cases hx
  subst hsp
  have hc : ∀ j, j < l0.length → w.cell? ⟨b, off + j, none⟩ = some (.string (l0.getD j ByteArray.empty)) := by
   intro j hj
   obtain ⟨ad', e', hx'⟩ := Kd.at_string hr0 (j : Int) (by omega) (by omega)
   cases e'
   have e3 : (Addr.mk b off none).add j = ⟨b, off + j, none⟩ := by
    unfold Addr.add
    split
    ·subst_vars; rfl
    ·rfl
   rw [show ((j : Int)).toNat = j by omega, e3] at hx'
   simpa [rdOf] using hx'
  refine (Tryd.slices_Index_string b off l0.length c0 l0 a1 w (Nat.le_refl _) hr0.2.1 hc).mono ?_
  rintro e w' ⟨rfl, rfl⟩
  rw [List.take_length]
  exact ⟨rfl, Below.refl _ _⟩

end Go.Proofs.YtcafmfmlnfaogaaDoor.QFnExactResRead

-- shorter
