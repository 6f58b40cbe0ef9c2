/- Plain functions, and that the Go code computes them: written by a program of this session over the seat's translation; the conditions stand in each theorem. -/
import Derived.Test.YtcafmfmlnfaogaaDoorQFnExactResOkx0
import Derived.Test.YtcafmfmlnfaogaaDoorQFnExactResOkx1
import Derived.Test.YtcafmfmlnfaogaaDoorQFnExactResOkx2
namespace Go.Proofs.YtcafmfmlnfaogaaDoor.QFnExactResOk
open Go.RowKit Go.Proofs.YtcafmfmlnfaogaaDoorW.PrintWords Go.Proofs.YtcafmfmlnfaogaaDoorW.PrintLast Go.Proofs.YtcafmfmlnfaogaaDoorW.PrintMore Go.Proofs.YtcafmfmlnfaogaaDoor.HWords
open Value (ownBlock)
attribute [local go_sem] max2_int min2_int max_two min_two max_three min_three max_four min_four   -- for this text's walks alone
set_option maxRecDepth 100000
set_option maxHeartbeats 8000000
set_option linter.unusedVariables false
set_option linter.unusedSimpArgs false

/-! ### impl_ResText: function 10 -/
def impl_ResText.j0 : Nat → Bool → Int → List Int → Option (ByteArray)
 | 0, _, _, _ => none
 | k + 1, x32, x144000, x144001 => if x32 = true then (some (⟨#[]⟩ : ByteArray)) else ((impl_codeWords.f).bind fun t147 => (if 0 ≤ x144000 then (if x144000 < (t147.length : Int) then ((impl_joined.f x144001).bind fun t151 => (if (rdOf ByteArray.empty t147 x144000).size + t151.size ≤ 9223372036854775807 then (some ((rdOf ByteArray.empty t147 x144000) ++ t151)) else (none))) else (none)) else (none)))
def impl_ResText.f (k : Nat) (a0_0 : Int) (l0_1 : List Int) : Option (ByteArray) := (impl_in.f a0_0 1 3).bind fun t144 => (if t144 = true then (if (l0_1.length : Int) > 6 then (impl_ResText.j0 k true a0_0 l0_1) else (if a0_0 = 1 then ((impl_within.f l0_1 (l0_1.length : Int) 999999999999).bind fun t145 => (impl_ResText.j0 k (!t145) a0_0 l0_1)) else (if (l0_1.length : Int) > 0 then (impl_ResText.j0 k true a0_0 l0_1) else ((impl_within.f l0_1 (l0_1.length : Int) 999999999999).bind fun t146 => (impl_ResText.j0 k (!t146) a0_0 l0_1))))) else (impl_ResText.j0 k true a0_0 l0_1))
theorem impl_ResText.mono_l : ∀ k, (∀ y0 y1 y2, LeO (impl_ResText.j0 k y0 y1 y2) (impl_ResText.j0 (k + 1) y0 y1 y2))
 | 0 => fun _ _ _ r h => by simp [impl_ResText.j0] at h
 | k + 1 => by
  have ih0 := impl_ResText.mono_l k
  ·intro y0 y1 y2
   unfold impl_ResText.j0
   repeat' first
   | (with_reducible exact ih0 _ _ _)
   | (with_reducible exact LeO.refl _)
   | (with_reducible exact LeO.none _)
   | (with_reducible refine LeO.ite ?_ ?_)
   | (with_reducible refine LeO.bind ?_ (fun _ => ?_))
   | exact LeO.none _
   | refine LeO.ite ?_ ?_
   | refine LeO.bind ?_ (fun _ => ?_)
theorem impl_ResText.mono : ∀ a0 a1 k, LeO (impl_ResText.f k a0 a1) (impl_ResText.f (k + 1) a0 a1) := by
 intro a0 a1 k
 have ih0 := impl_ResText.mono_l k
 unfold impl_ResText.f
 repeat' first
   | (with_reducible exact ih0 _ _ _)
   | (with_reducible exact LeO.refl _)
   | (with_reducible exact LeO.none _)
   | (with_reducible refine LeO.ite ?_ ?_)
   | (with_reducible refine LeO.bind ?_ (fun _ => ?_))
   | exact LeO.none _
   | refine LeO.ite ?_ ?_
   | refine LeO.bind ?_ (fun _ => ?_)
def impl_ResText.T3 : Bool × List (List Nat × List Nat) := (true, [([], []), ([], []), ([1], [1]), ([0, 2], [0, 2]), ([3], [3]), ([], []), ([5], [5]), ([6, 0], [6]), ([4, 7], [4, 7]), ([8, 7, 0, 1, 2, 3, 4, 5, 6, 7, 8], [8])])
def impl_ResText.B3 : List Nat := [0, 0, 2, 7, 15, 0, 32, 97, 255, 511]
theorem impl_ResText.tab3 : rtab .any (opsOf Tryd.f10 3) = impl_ResText.T3 := by kernel_rfl
theorem impl_ResText.bits3 : waitsOk impl_ResText.T3.2 impl_ResText.B3 = true := by kernel_rfl
theorem impl_ResText.calls (k : Nat) (a0_0 : Int) (A0_1 : Option Addr) (c0_1 : Nat) (l0_1 : List Int) (r : ByteArray) (w : World) (hr0_1 : Kd.C (Kd.int .i64) w A0_1 l0_1.length l0_1) (hc0_1 : l0_1.length ≤ c0_1) (h : impl_ResText.f k a0_0 l0_1 = some r) (htab : Go.Lib.TabIs Tryd.prog w "internal/strconv.uint64pow10" .u64 Go.Lib.pow10Tab) :
  Calls Tryd.prog 10 #[.agg #[.int .i64 a0_0, .slice A0_1 l0_1.length c0_1]] w fun e w' => e = .returned (.string r) ∧ Below w.heap.size w w' := by
 have HTAB : Aside0 (∀ w', Below w.heap.size w w' → Go.Lib.TabIs Tryd.prog w' "internal/strconv.uint64pow10" .u64 Go.Lib.pow10Tab) := ⟨fun w' hb => Go.Lib.tabBelow_of_tabIs htab w' hb⟩
 clear htab
 have hu27 := Tryd.underlying27
 have HR0_1 := aM hr0_1
 have HC0_1 := aM hc0_1
 clear hr0_1 hc0_1
 have HB := aM (Below.refl w.heap.size w)
 have H : ((impl_in.f a0_0 1 3).bind fun t144 => (if t144 = true then (if (l0_1.length : Int) > 6 then (impl_ResText.j0 k true a0_0 l0_1) else (if a0_0 = 1 then ((impl_within.f l0_1 (l0_1.length : Int) 999999999999).bind fun t145 => (impl_ResText.j0 k (!t145) a0_0 l0_1)) else (if (l0_1.length : Int) > 0 then (impl_ResText.j0 k true a0_0 l0_1) else ((impl_within.f l0_1 (l0_1.length : Int) 999999999999).bind fun t146 => (impl_ResText.j0 k (!t146) a0_0 l0_1))))) else (impl_ResText.j0 k true a0_0 l0_1))) = some r := h
 clear h
 have HC2 := aM H
 clear H
 go_enter Tryd.func10, Tryd.ntmps10
 go_upto_region 1 with (first | ((with_reducible refine gate_dst (N := 1) rfl ?_); (try (refine gate_guard (by rfl) ?_; dsimp only)); refine bx 1 #[.int .i64 a0_0, .slice A0_1 l0_1.length c0_1] 27 ?_; intro gb143 hg w3 hbox hb; have BK143 := aM (hbox); have GW143 := aM ((gz hg HB.out)); have IGW143 : Nonempty _ := ⟨GW143.out⟩; have GE143 := aM ((gz hg HB.out)); have IGE143 : Nonempty _ := ⟨GE143.out⟩; replace HB := aM (bj HB.out hb); clear hb hbox hg))
 (try simp only [Act.put, sA, s0, sS])
 go_cut [32] (fun v32 wc => ∃ (kq : Nat) (x32_1 : Bool), v32 = .bool x32_1 ∧ Aside0 (impl_ResText.j0 kq x32_1 a0_0 l0_1 = some r) ∧ Aside0 (kq ≤ k) ∧ Aside0 (wc.heap[gb143]? = some (.cells #[.int .i64 a0_0, (.slice A0_1 l0_1.length c0_1)] 27 (0, 0))) ∧ Aside0 (Below w.heap.size w wc))
 case first =>
  have H := HC2.out
  clear HC2
  obtain ⟨t144, A4, H⟩ := bS H
  try dsimp only at H
  by_cases c5 : t144 = true
  ·subst c5
   rw [if_pos rfl] at H
   try dsimp only at H
   by_cases c6 : (l0_1.length : Int) > 6
   ·rw [if_pos c6] at H
    have c6b0 := decide_eq_true c6
    have c6b1 : decide (6 < l0_1.length) = true := decide_eq_true (by omega)
    clear c6
    (first | rw [c6b0] | (simp only [i64_w, i32_w]; rw [c6b0]) | skip)
    have H' := aM H
    clear H
    obtain ⟨hcz7_0, hcz7_1, hfz7_0, hfz7_1⟩ := cf2 BK143.out
    go_wp2_with (first | ((with_reducible refine gate_callee (f := 26) rfl ?_); refine gL (some 5) Tryd.func26 #[.int .i64 a0_0, .int .i64 1, .int .i64 3] ?_; (with_reducible refine (impl_in.calls a0_0 1 3 true _ A4.out).mono ?_); rintro e w' ⟨rfl, ⟨nd, rfl⟩⟩; refine ⟨_, rfl, ?_⟩))
    go_meet
    case rel => exact ⟨_, (true), (by first | rfl | (simp; done) | (simp [*]; done)), H', ⟨by first | omega | exact Nat.le_refl _⟩, ⟨by exact lK <| BK143.out⟩, ⟨by exact jB HB.out⟩⟩
   ·rw [if_neg c6] at H
    have c6b0 := decide_eq_false c6
    have c6b1 : decide (6 < l0_1.length) = false := decide_eq_false (by omega)
    clear c6
    (first | rw [c6b0] | (simp only [i64_w, i32_w]; rw [c6b0]) | skip)
    by_cases c8 : a0_0 = 1
    ·rw [if_pos c8] at H
     have c8b0 := beq_iff_eq.mpr c8
     have c8b1 := bne_eq_false_iff_eq.mpr c8
     clear c8
     obtain ⟨t145, A9, H⟩ := bS H
     try dsimp only at H
     have H' := aM H
     clear H
     obtain ⟨hcz10_0, hcz10_1, hfz10_0, hfz10_1⟩ := cf2 BK143.out
     go_wp2_with (first | ((with_reducible refine gate_callee (f := 26) rfl ?_); refine gL (some 5) Tryd.func26 #[.int .i64 a0_0, .int .i64 1, .int .i64 3] ?_; (with_reducible refine (impl_in.calls a0_0 1 3 true _ A4.out).mono ?_); rintro e w' ⟨rfl, ⟨nd, rfl⟩⟩; refine ⟨_, rfl, ?_⟩) | (go_at_call 27; (with_reducible refine (impl_within.calls _ _ l0_1 (l0_1.length : Int) 999999999999 t145 _ ?side1 ?side2 A9.out).mono ?_); (case side1 => repeat (first | exact (Kd.C_below HR0_1.out (by exact jB HB.out)) | (with_reducible refine Kd.C_alloc ?_ _) | (with_reducible refine Kd.C_drewN ?_ _) | (with_reducible refine Kd.C_drew ?_))); (case side2 => exact HC0_1.out); rintro e w11 ⟨rfl, hb⟩; replace BK143 := aM (bb BK143.out hb); replace HB := aM (bj HB.out hb); (try clear hb)))
     go_meet
     case rel => exact ⟨_, (!t145), (by first | rfl | (simp; done) | (simp [*]; done)), H', ⟨by first | omega | exact Nat.le_refl _⟩, ⟨by exact lK <| BK143.out⟩, ⟨by exact jB HB.out⟩⟩
    ·rw [if_neg c8] at H
     have c8b0 := beq_eq_false_iff_ne.mpr c8
     have c8b1 := bne_iff_ne.mpr c8
     by_cases c12 : (l0_1.length : Int) > 0
     ·rw [if_pos c12] at H
      have c12b0 := decide_eq_true c12
      have c12b1 : decide (0 < l0_1.length) = true := decide_eq_true (by omega)
      clear c12
      have H' := aM H
      clear H
      obtain ⟨hcz13_0, hcz13_1, hfz13_0, hfz13_1⟩ := cf2 BK143.out
      go_wp2_with (first | ((with_reducible refine gate_callee (f := 26) rfl ?_); refine gL (some 5) Tryd.func26 #[.int .i64 a0_0, .int .i64 1, .int .i64 3] ?_; (with_reducible refine (impl_in.calls a0_0 1 3 true _ A4.out).mono ?_); rintro e w' ⟨rfl, ⟨nd, rfl⟩⟩; refine ⟨_, rfl, ?_⟩))
      go_meet
      case rel => exact ⟨_, (true), (by first | rfl | (simp; done) | (simp [*]; done)), H', ⟨by first | omega | exact Nat.le_refl _⟩, ⟨by exact lK <| BK143.out⟩, ⟨by exact jB HB.out⟩⟩
     ·rw [if_neg c12] at H
      have c12b0 := decide_eq_false c12
      have c12b1 : decide (0 < l0_1.length) = false := decide_eq_false (by omega)
      clear c12
      obtain ⟨t146, A14, H⟩ := bS H
      try dsimp only at H
      have H' := aM H
      clear H
      obtain ⟨hcz15_0, hcz15_1, hfz15_0, hfz15_1⟩ := cf2 BK143.out
      go_wp2_with (first | ((with_reducible refine gate_callee (f := 26) rfl ?_); refine gL (some 5) Tryd.func26 #[.int .i64 a0_0, .int .i64 1, .int .i64 3] ?_; (with_reducible refine (impl_in.calls a0_0 1 3 true _ A4.out).mono ?_); rintro e w' ⟨rfl, ⟨nd, rfl⟩⟩; refine ⟨_, rfl, ?_⟩) | (go_at_call 27; (with_reducible refine (impl_within.calls _ _ l0_1 (l0_1.length : Int) 999999999999 t146 _ ?side1 ?side2 A14.out).mono ?_); (case side1 => repeat (first | exact (Kd.C_below HR0_1.out (by exact jB HB.out)) | (with_reducible refine Kd.C_alloc ?_ _) | (with_reducible refine Kd.C_drewN ?_ _) | (with_reducible refine Kd.C_drew ?_))); (case side2 => exact HC0_1.out); rintro e w16 ⟨rfl, hb⟩; replace BK143 := aM (bb BK143.out hb); replace HB := aM (bj HB.out hb); (try clear hb)))
      go_meet
      case rel => exact ⟨_, (!t146), (by first | rfl | (simp; done) | (simp [*]; done)), H', ⟨by first | omega | exact Nat.le_refl _⟩, ⟨by exact lK <| BK143.out⟩, ⟨by exact jB HB.out⟩⟩
  ·replace c5 := Bool.eq_false_iff.mpr c5
   subst c5
   rw [if_neg nf] at H
   try dsimp only at H
   have H' := aM H
   clear H
   obtain ⟨hcz17_0, hcz17_1, hfz17_0, hfz17_1⟩ := cf2 BK143.out
   go_wp2_with (first | ((with_reducible refine gate_callee (f := 26) rfl ?_); refine gL (some 5) Tryd.func26 #[.int .i64 a0_0, .int .i64 1, .int .i64 3] ?_; (with_reducible refine (impl_in.calls a0_0 1 3 false _ A4.out).mono ?_); rintro e w' ⟨rfl, ⟨nd, rfl⟩⟩; refine ⟨_, rfl, ?_⟩))
   go_meet
   case rel => exact ⟨_, (true), (by first | rfl | (simp; done) | (simp [*]; done)), H', ⟨by first | omega | exact Nat.le_refl _⟩, ⟨by exact lK <| BK143.out⟩, ⟨by exact jB HB.out⟩⟩
 case rest =>
  clear HC2
  try clear c1
  try clear c2
  try clear p2
  try clear c5
  try clear c6
  try clear c6b0
  try clear c6b1
  try clear c8
  try clear c8b0
  try clear c8b1
  try clear c10
  try clear c12
  try clear c12b0
  try clear c12b1
  try clear hcz10_0
  try clear hcz10_1
  try clear hcz13_0
  try clear hcz13_1
  try clear hcz15_0
  try clear hcz15_1
  try clear hcz17_0
  try clear hcz17_1
  try clear hcz7_0
  try clear hcz7_1
  try clear hfz10_0
  try clear hfz10_1
  try clear hfz13_0
  try clear hfz13_1
  try clear hfz15_0
  try clear hfz15_1
  try clear hfz17_0
  try clear hfz17_1
  try clear hfz7_0
  try clear hfz7_1
  obtain ⟨kq, x32_1, rfl, HA, HJ1, BK143, HB⟩ := hcut
  cases kq with
  | zero => exact absurd HA.out (by simp [impl_ResText.j0])
  | succ kj1 =>
   have H := HA.out
   clear HA
   simp only [impl_ResText.j0] at H
   by_cases c18 : x32_1 = true
   ·subst c18
    rw [if_pos rfl] at H
    try dsimp only at H
    obtain rfl := Option.some.inj H
    go_wp2
    go_ret
    exact ⟨er, by exact jB HB.out⟩
   ·replace c18 := Bool.eq_false_iff.mpr c18
    subst c18
    rw [if_neg nf] at H
    try dsimp only at H
    obtain ⟨t147, A19, H⟩ := bS H
    try dsimp only at H
    by_cases c20 : 0 ≤ a0_0
    ·rw [if_pos c20] at H
     have c20b0 := decide_eq_true c20
     clear c20
     by_cases c21 : a0_0 < (t147.length : Int)
     ·rw [if_pos c21] at H
      have c21b0 := decide_eq_true c21
      clear c21
      obtain ⟨t151, A22, H⟩ := bS H
      try dsimp only at H
      by_cases c23 : (rdOf ByteArray.empty t147 a0_0).size + t151.size ≤ 9223372036854775807
      ·rw [if_pos c23] at H
       have c23b0 := eq_true c23
       have c23b1 := decide_eq_true c23
       try have c23b2 : (9223372036854775807 < (rdOf ByteArray.empty t147 a0_0).size + t151.size) = False := eq_false (Nat.not_lt.2 c23)
       obtain rfl := Option.some.inj H
       try go_wp2
       replace BK143 := aM (blk_drew BK143.out)
       replace HB := aM (below_drew1 HB.out)
       refine start_ (n := 10) (S := fun w' => w'.cell? ⟨gb143, 0, none⟩ = some (.int .i64 a0_0) ∧ w'.cell? ⟨gb143, 1, none⟩ = some (.slice A0_1 l0_1.length c0_1)) (ds := []) #[false, false, false, false, false, false, false, false, false, false] (by kernel_rfl) rfl rfl ⟨(blk_cell BK143.out 0).trans rfl, (blk_cell BK143.out 1).trans rfl⟩ (fun hHeld => ?_); refine with_tabW impl_ResText.tab3 impl_ResText.bits3 (fun HT_ HW_ => ?_)
       generalize wc.drew = w24 at BK143 HB hHeld ⊢
       refine pure_ (i := 1) (N := some 34) (v := ?_) (a' := ?_) #[false, true, false, false, false, false, false, false, false, false] rfl rfl (any_of HT_.out (by kernel_rfl)) (fun _ _ _ h => h) (Or.inl ⟨by rfl, ?_⟩) ?_ ?_
       rotate_left
       ·intro w'
        go_simp
        with_reducible rfl
       rotate_left
       ·simp only [Act.put, sA, s0, sS, i64_w, i32_w]
        rfl
       refine pure_ (i := 5) (N := some 38) (v := ?_) (a' := ?_) #[false, true, false, false, false, true, false, false, false, false] rfl rfl (any_of HT_.out (by kernel_rfl)) (fun _ _ _ h => h) (Or.inl ⟨by rfl, ?_⟩) ?_ ?_
       rotate_left
       ·intro w'
        go_simp
        with_reducible rfl
       rotate_left
       ·simp only [Act.put, sA, s0, sS, i64_w, i32_w]
        rfl
       refine take_ (i := 2) (N := some 35) (v := ?_) (a' := ?_) #[false, true, true, false, false, true, false, false, false, false] rfl rfl (take_ofW HT_.out HW_.out (by kernel_rfl)) (fun _ _ _ h => h) (Or.inl ⟨by rfl, ?_⟩) hHeld ?_ ?_
       rotate_left
       ·rintro w' ⟨s0, s1⟩
        go_simp
        with_reducible rfl
       rotate_left
       ·simp only [Act.put, sA, s0, sS, i64_w, i32_w]
        rfl
       refine take_ (i := 6) (N := some 39) (v := ?_) (a' := ?_) #[false, true, true, false, false, true, true, false, false, false] rfl rfl (take_ofW HT_.out HW_.out (by kernel_rfl)) (fun _ _ _ h => h) (Or.inl ⟨by rfl, ?_⟩) hHeld ?_ ?_
       rotate_left
       ·rintro w' ⟨s0, s1⟩
        go_simp
        with_reducible rfl
       rotate_left
       ·simp only [Act.put, sA, s0, sS, i64_w, i32_w]
        rfl
       refine one_ (i := 0) (N := some 33) #[true, true, true, false, false, true, true, false, false, false] rfl rfl (one_of HT_.out (by kernel_rfl)) (by decide) (fun K hK => ?_)
       refine goes_ Tryd.func28 (by kernel_rfl) rfl #[] (by rfl) rfl rfl (by (try simp only [mA, mC, mN]); first | done | rfl | (simp only [ld, lt]; rfl)) ?_
       with_reducible refine (impl_codeWords.calls  t147 _ A19.out).mono ?_
       rintro e w25 ⟨v148, rfl, ho0, hb⟩
       refine ⟨_, rfl, ?_⟩
       have HO149 := aM (Kd.R_lower ho0 (below_size (by exact jB HB.out)))
       replace BK143 := aM (bb BK143.out hb)
       replace HB := aM (bj HB.out hb)
       (try clear hb)
       (try clear hb2)
       (try clear hk)
       (try clear hi)
       (try clear ho0)
       obtain ⟨Ao26, co26, eo26⟩ := Kd.R_slice HO149.out
       (first | subst eo26 | (injection eo26 with f1_ f2_ f3_; have f4_ := f1_.symm; have f5_ := f3_.symm; clear f1_ f2_ f3_; subst f4_; subst f5_))
       have p150 : 0 ≤ (a0_0 : Int) := of_decide_eq_true (by first | (with_reducible assumption) | assumption)
       have q150 : a0_0 < (t147.length : Int) := of_decide_eq_true (by first | (with_reducible assumption) | assumption)
       obtain ⟨ad150, e150, hx150_0⟩ := Kd.at_string (Kd.R_reads' HO149.out).2.2 a0_0 p150 q150
       cases e150
       replace p150 := eq_true p150
       replace q150 := eq_true q150
       refine hK.out _ _ ⟨(blk_cell BK143.out 0).trans rfl, (blk_cell BK143.out 1).trans rfl⟩ (fun hHeld => ?_)
       refine stronger_ (S2 := fun w' => w'.cell? ⟨gb143, 0, none⟩ = some (.int .i64 a0_0) ∧ w'.cell? ⟨gb143, 1, none⟩ = some (.slice A0_1 l0_1.length c0_1) ∧ w'.cell? (ad150.add (a0_0).toNat) = some (.string (rdOf ByteArray.empty t147 a0_0))) (fun _ h => ⟨h.1, h.2.1⟩) _ _ _ _ ⟨hHeld.1, hHeld.2, hx150_0⟩ ?_
       replace hHeld := And.intro hHeld.1 (And.intro hHeld.2 hx150_0)
       clear hK K
       refine norm_ (a' := ?_) ?_ ?_
       rotate_left
       ·show Act.put _ (some 33) _ = _
        simp only [Act.put, sA, s0, sS, i64_w, i32_w]
        rfl
       refine pure_ (i := 3) (N := some 36) (v := ?_) (a' := ?_) #[true, true, true, true, false, true, true, false, false, false] rfl rfl (any_of HT_.out (by kernel_rfl)) (fun _ _ _ h => h) (Or.inl ⟨by rfl, ?_⟩) ?_ ?_
       rotate_left
       ·intro w'
        go_simp
        with_reducible rfl
       rotate_left
       ·simp only [Act.put, sA, s0, sS, i64_w, i32_w]
        rfl
       refine take_ (i := 4) (N := some 37) (v := ?_) (a' := ?_) #[true, true, true, true, true, true, true, false, false, false] rfl rfl (take_ofW HT_.out HW_.out (by kernel_rfl)) (fun _ _ _ h => h) (Or.inl ⟨by rfl, ?_⟩) hHeld ?_ ?_
       rotate_left
       ·rintro w' ⟨s0, s1, s2⟩
        go_simp
        with_reducible rfl
       rotate_left
       ·simp only [Act.put, sA, s0, sS, i64_w, i32_w]
        rfl
       refine one_ (i := 7) (N := some 40) #[true, true, true, true, true, true, true, true, false, false] rfl rfl (one_of HT_.out (by kernel_rfl)) (by decide) (fun K hK => ?_)
       refine goes_ Tryd.func29 (by kernel_rfl) rfl #[.slice A0_1 l0_1.length c0_1] (by rfl) rfl rfl (by (try simp only [mA, mC, mN]); first | done | rfl | (simp only [ld, lt]; rfl)) ?_
       with_reducible refine (impl_joined.calls _ _ l0_1 t151 _ ?side1 ?side2 A22.out (HTAB.out _ (by exact jB HB.out))).mono ?_
       (case side1 => exact lC <| (Kd.C_below HR0_1.out HB.out))
       (case side2 => exact HC0_1.out)
       rintro e w27 ⟨rfl, hb⟩
       have HS2_ := (hb.cell (World.block_lt_of_cell? _ _ (hHeld.2.2))).trans (hHeld.2.2)
       refine ⟨_, rfl, ?_⟩
       replace HO149 := aM (rb HO149.out hb)
       replace BK143 := aM (bb BK143.out hb)
       replace HB := aM (bj HB.out hb)
       (try clear hb)
       (try clear hb2)
       (try clear hk)
       (try clear hi)
       refine hK.out _ _ ⟨(blk_cell BK143.out 0).trans rfl, (blk_cell BK143.out 1).trans rfl, HS2_⟩ (fun hHeld => ?_)
       clear hK K
       refine norm_ (a' := ?_) ?_ ?_
       rotate_left
       ·show Act.put _ (some 40) _ = _
        simp only [Act.put, sA, s0, sS, i64_w, i32_w]
        rfl
       refine pure_ (i := 8) (N := some 41) (v := ?_) (a' := ?_) #[true, true, true, true, true, true, true, true, true, false] rfl rfl (any_of HT_.out (by kernel_rfl)) (fun _ _ _ h => h) (Or.inl ⟨by rfl, ?_⟩) ?_ ?_
       rotate_left
       ·intro w'
        go_simp
        with_reducible rfl
       rotate_left
       ·simp only [Act.put, sA, s0, sS, i64_w, i32_w]
        rfl
       refine pure_ (i := 9) (N := some 2) (v := ?_) (a' := ?_) #[true, true, true, true, true, true, true, true, true, true] rfl rfl (any_of HT_.out (by kernel_rfl)) (fun _ _ _ h => h) (Or.inl ⟨by rfl, ?_⟩) ?_ ?_
       rotate_left
       ·intro w'
        go_simp
        with_reducible rfl
       rotate_left
       ·simp only [Act.put, sA, s0, sS, i64_w, i32_w]
        rfl
       refine done_ (done_of HT_.out (by kernel_rfl)) ?_
       try go_wp2
       go_ret
       exact ⟨er, by exact jB HB.out⟩
      ·rw [if_neg c23] at H
       exact absurd H (by simp)
     ·rw [if_neg c21] at H
      exact absurd H (by simp)
    ·rw [if_neg c20] at H
     exact absurd H (by simp)

/-! ### impl_ResOk: function 13 -/
def impl_ResOk.f (k : Nat) (a0_0 : Int) (l0_1 : List Int) : Option (Bool) := (impl_ResText.f k a0_0 l0_1).bind fun t153 => (some (t153.toList != ([] : List UInt8)))
theorem impl_ResOk.mono : ∀ a0 a1 k, LeO (impl_ResOk.f k a0 a1) (impl_ResOk.f (k + 1) a0 a1) := by
 intro a0 a1 k
 unfold impl_ResOk.f
 repeat' first
   | (with_reducible exact impl_ResText.mono _ _ _)
   | (with_reducible exact LeO.refl _)
   | (with_reducible exact LeO.none _)
   | (with_reducible refine LeO.ite ?_ ?_)
   | (with_reducible refine LeO.bind ?_ (fun _ => ?_))
   | exact LeO.none _
   | refine LeO.ite ?_ ?_
   | refine LeO.bind ?_ (fun _ => ?_)
theorem impl_ResOk.calls (k : Nat) (a0_0 : Int) (A0_1 : Option Addr) (c0_1 : Nat) (l0_1 : List Int) (r : Bool) (w : World) (hr0_1 : Kd.C (Kd.int .i64) w A0_1 l0_1.length l0_1) (hc0_1 : l0_1.length ≤ c0_1) (h : impl_ResOk.f k a0_0 l0_1 = some r) (htab : Go.Lib.TabIs Tryd.prog w "internal/strconv.uint64pow10" .u64 Go.Lib.pow10Tab) :
  Calls Tryd.prog 13 #[.agg #[.int .i64 a0_0, .slice A0_1 l0_1.length c0_1]] w fun e w' => e = .returned (.bool r) ∧ Below w.heap.size w w' := by
 have HTAB : Aside0 (∀ w', Below w.heap.size w w' → Go.Lib.TabIs Tryd.prog w' "internal/strconv.uint64pow10" .u64 Go.Lib.pow10Tab) := ⟨fun w' hb => Go.Lib.tabBelow_of_tabIs htab w' hb⟩
 clear htab
 have hu27 := Tryd.underlying27
 have HR0_1 := aM hr0_1
 have HC0_1 := aM hc0_1
 clear hr0_1 hc0_1
 have HB := aM (Below.refl w.heap.size w)
 have H : ((impl_ResText.f k a0_0 l0_1).bind fun t153 => (some (t153.toList != ([] : List UInt8)))) = some r := h
 clear h
 obtain ⟨t153, A2, H⟩ := bS H
 try dsimp only at H
 obtain rfl := Option.some.inj H
 go_enter Tryd.func13, Tryd.ntmps13
 go_wp2_with (first | ((with_reducible refine gate_dst (N := 1) rfl ?_); refine bx 1 #[.int .i64 a0_0, .slice A0_1 l0_1.length c0_1] 27 ?_; intro gb152 hg w3 hbox hb; have BK152 := aM (hbox); have GW152 := aM ((gz hg HB.out)); have IGW152 : Nonempty _ := ⟨GW152.out⟩; have GE152 := aM ((gz hg HB.out)); have IGE152 : Nonempty _ := ⟨GE152.out⟩; replace HB := aM (bj HB.out hb); clear hb hbox hg; obtain ⟨hcz4_0, hcz4_1, hfz4_0, hfz4_1⟩ := cf2 BK152.out) | ((with_reducible refine gate_callee (f := 10) rfl ?_); refine gL (some 4) Tryd.func10 #[.agg #[.int .i64 a0_0, .slice A0_1 l0_1.length c0_1]] ?_; (with_reducible refine (impl_ResText.calls k a0_0 _ _ l0_1 t153 _ ?side1 ?side2 A2.out (HTAB.out _ (by exact jB HB.out))).mono ?_); (case side1 => exact lC <| (Kd.C_below HR0_1.out HB.out)); (case side2 => exact HC0_1.out); rintro e w5 ⟨rfl, hb⟩; refine ⟨_, rfl, ?_⟩; replace BK152 := aM (bb BK152.out hb); replace HB := aM (bj HB.out hb); (try clear hb)))
 go_ret
 exact ⟨by first | exact er | (have hl_ : (t153.toList != ([] : List UInt8)) = !t153.toList.isEmpty := (by cases t153.toList <;> rfl); rw [hl_]; first | done | rfl | simp), by exact jB HB.out⟩

/-! ### laws_FnExactResOk: function 4 -/
def laws_FnExactResOk.f (k : Nat) (a0_0 : Int) (l0_1 : List Int) : Option (Bool) := (laws_szResResult.f a0_0 l0_1 1048576).bind fun t155 => (if t155 < 0 then (some true) else ((laws_toResResult.f k a0_0 l0_1).bind fun bt156 => ((spec_ResOk.f k bt156.1 bt156.2).bind fun t160 => ((laws_toResResult.f k a0_0 l0_1).bind fun bt161 => ((impl_ResOk.f k bt161.1 bt161.2).bind fun t166 => (if (t166 != t160) = true then (some false) else ((laws_toResResult.f k a0_0 l0_1).bind fun bt167 => ((laws_eqResResult.f k bt161.1 bt161.2 bt167.1 bt167.2).bind fun t171 => (if t171 = true then (some true) else (some false))))))))))
theorem laws_FnExactResOk.mono : ∀ a0 a1 k, LeO (laws_FnExactResOk.f k a0 a1) (laws_FnExactResOk.f (k + 1) a0 a1) := by
 intro a0 a1 k
 unfold laws_FnExactResOk.f
 repeat' first
   | (with_reducible exact impl_ResOk.mono _ _ _)
   | (with_reducible exact laws_eqResResult.mono _ _ _ _ _)
   | (with_reducible exact laws_toResResult.mono _ _ _)
   | (with_reducible exact spec_ResOk.mono _ _ _)
   | (with_reducible exact LeO.refl _)
   | (with_reducible exact LeO.none _)
   | (with_reducible refine LeO.ite ?_ ?_)
   | (with_reducible refine LeO.bind ?_ (fun _ => ?_))
   | exact LeO.none _
   | refine LeO.ite ?_ ?_
   | refine LeO.bind ?_ (fun _ => ?_)
theorem laws_FnExactResOk.calls (k : Nat) (a0_0 : Int) (A0_1 : Option Addr) (c0_1 : Nat) (l0_1 : List Int) (r : Bool) (w : World) (hr : Aside0 (r = true)) (hr0_1 : Kd.C (Kd.int .i64) w A0_1 l0_1.length l0_1) (hc0_1 : l0_1.length ≤ c0_1) (h : laws_FnExactResOk.f k a0_0 l0_1 = some r) (htab : Go.Lib.TabIs Tryd.prog w "internal/strconv.uint64pow10" .u64 Go.Lib.pow10Tab) :
  Calls Tryd.prog 4 #[.agg #[.int .i64 a0_0, .slice A0_1 l0_1.length c0_1]] w fun e w' => e = .returned (.bool r) ∧ Below w.heap.size w w' := by
 have HTAB : Aside0 (∀ w', Below w.heap.size w w' → Go.Lib.TabIs Tryd.prog w' "internal/strconv.uint64pow10" .u64 Go.Lib.pow10Tab) := ⟨fun w' hb => Go.Lib.tabBelow_of_tabIs htab w' hb⟩
 clear htab
 have hu24 := Tryd.underlying24
 have hu27 := Tryd.underlying27
 have HR0_1 := aM hr0_1
 have HC0_1 := aM hc0_1
 clear hr0_1 hc0_1
 have HB := aM (Below.refl w.heap.size w)
 have H : ((laws_szResResult.f a0_0 l0_1 1048576).bind fun t155 => (if t155 < 0 then (some true) else ((laws_toResResult.f k a0_0 l0_1).bind fun bt156 => ((spec_ResOk.f k bt156.1 bt156.2).bind fun t160 => ((laws_toResResult.f k a0_0 l0_1).bind fun bt161 => ((impl_ResOk.f k bt161.1 bt161.2).bind fun t166 => (if (t166 != t160) = true then (some false) else ((laws_toResResult.f k a0_0 l0_1).bind fun bt167 => ((laws_eqResResult.f k bt161.1 bt161.2 bt167.1 bt167.2).bind fun t171 => (if t171 = true then (some true) else (some false))))))))))) = some r := h
 clear h
 obtain ⟨t155, A2, H⟩ := bS H
 try dsimp only at H
 by_cases c3 : t155 < 0
 ·rw [if_pos c3] at H
  have c3b0 := decide_eq_true c3
  clear c3
  obtain rfl := Option.some.inj H
  go_enter Tryd.func4, Tryd.ntmps4
  go_wp2_with (first | ((with_reducible refine gate_dst (N := 1) rfl ?_); refine bx 1 #[.int .i64 a0_0, .slice A0_1 l0_1.length c0_1] 24 ?_; intro gb154 hg w4 hbox hb; have BK154 := aM (hbox); have GW154 := aM ((gz hg HB.out)); have IGW154 : Nonempty _ := ⟨GW154.out⟩; have GE154 := aM ((gz hg HB.out)); have IGE154 : Nonempty _ := ⟨GE154.out⟩; replace HB := aM (bj HB.out hb); clear hb hbox hg; obtain ⟨hcz5_0, hcz5_1, hfz5_0, hfz5_1⟩ := cf2 BK154.out) | ((with_reducible refine gate_callee (f := 7) rfl ?_); refine gL (some 9) Tryd.func7 #[.agg #[.int .i64 a0_0, .slice A0_1 l0_1.length c0_1], .int .i64 1048576] ?_; (with_reducible refine (laws_szResResult.calls a0_0 _ _ l0_1 1048576 t155 _ ?side1 ?side2 A2.out).mono ?_); (case side1 => exact lC <| (Kd.C_below HR0_1.out HB.out)); (case side2 => exact HC0_1.out); rintro e w6 ⟨rfl, hb⟩; refine ⟨_, rfl, ?_⟩; replace BK154 := aM (bb BK154.out hb); replace HB := aM (bj HB.out hb); (try clear hb)))
  go_ret
  exact ⟨er, by exact jB HB.out⟩
 ·rw [if_neg c3] at H
  have c3b0 := decide_eq_false c3
  clear c3
  obtain ⟨⟨t156, t157⟩, A7, H⟩ := bS H
  try dsimp only at H
  obtain ⟨t160, A8, H⟩ := bS H
  try dsimp only at H
  obtain ⟨⟨t161, t162⟩, A9, H⟩ := bS H
  try dsimp only at H
  obtain ⟨t166, A10, H⟩ := bS H
  try dsimp only at H
  by_cases c11 : (t166 != t160) = true
  ·rw [if_pos c11] at H
   have c11b0 : (t166 != t160) = true := c11
   (try (have c11b1 : decide (t166 = t160) = false := by simpa using c11))
   (try (have c11b2 : (t166 == t160) = false := by simpa using c11))
   (try (have c11b3 : ¬ (t166 = t160) := by simpa using c11))
   clear c11
   exact absurd (Option.some.inj H) (by rw [hr.out]; decide)
  ·rw [if_neg c11] at H
   have c11b0 : (t166 != t160) = false := by simpa using c11
   (try (have c11b1 : decide (t166 = t160) = true := by simpa using c11))
   (try (have c11b2 : (t166 == t160) = true := by simpa using c11))
   clear c11
   obtain ⟨⟨t167, t168⟩, A12, H⟩ := bS H
   try dsimp only at H
   obtain ⟨t171, A13, H⟩ := bS H
   try dsimp only at H
   by_cases c14 : t171 = true
   ·subst c14
    rw [if_pos rfl] at H
    try dsimp only at H
    obtain rfl := Option.some.inj H
    go_enter Tryd.func4, Tryd.ntmps4
    try go_wp2_with (first | ((with_reducible refine gate_dst (N := 1) rfl ?_); refine bx 1 #[.int .i64 a0_0, .slice A0_1 l0_1.length c0_1] 24 ?_; intro gb154 hg w15 hbox hb; have BK154 := aM (hbox); have GW154 := aM ((gz hg HB.out)); have IGW154 : Nonempty _ := ⟨GW154.out⟩; have GE154 := aM ((gz hg HB.out)); have IGE154 : Nonempty _ := ⟨GE154.out⟩; replace HB := aM (bj HB.out hb); clear hb hbox hg; obtain ⟨hcz16_0, hcz16_1, hfz16_0, hfz16_1⟩ := cf2 BK154.out) | ((with_reducible refine gate_callee (f := 7) rfl ?_); refine gL (some 9) Tryd.func7 #[.agg #[.int .i64 a0_0, .slice A0_1 l0_1.length c0_1], .int .i64 1048576] ?_; (with_reducible refine (laws_szResResult.calls a0_0 _ _ l0_1 1048576 t155 _ ?side1 ?side2 A2.out).mono ?_); (case side1 => exact lC <| (Kd.C_below HR0_1.out HB.out)); (case side2 => exact HC0_1.out); rintro e w17 ⟨rfl, hb⟩; refine ⟨_, rfl, ?_⟩; replace BK154 := aM (bb BK154.out hb); replace HB := aM (bj HB.out hb); (try clear hb); obtain ⟨hcz18_0, hcz18_1, hfz18_0, hfz18_1⟩ := cf2 BK154.out) | ((with_reducible refine gate_callee (f := 9) rfl ?_); refine gL (some 13) Tryd.func9 #[.agg #[.int .i64 a0_0, .slice A0_1 l0_1.length c0_1]] ?_; (with_reducible refine (laws_toResResult.calls k a0_0 _ _ l0_1 t156 t157 _ ?side1 ?side2 A7.out).mono ?_); (case side1 => exact lC <| (Kd.C_below HR0_1.out HB.out)); (case side2 => exact HC0_1.out); rintro e w19 ⟨v158, rfl, ho0, hb⟩; refine ⟨_, rfl, ?_⟩; have HO159 := aM (Kd.R_lower ho0 (below_size (by exact jB HB.out))); replace BK154 := aM (bb BK154.out hb); replace HB := aM (bj HB.out hb); (try clear hb); (try clear ho0); obtain ⟨Ao20, co20, eo20⟩ := Kd.R_slice HO159.out; subst eo20) | ((with_reducible refine gate_callee (f := 12) rfl ?_); refine gL (some 14) Tryd.func12 #[.agg #[.int .i64 t156, .slice Ao20 t157.length co20]] ?_; (with_reducible refine (spec_ResOk.calls k t156 _ _ t157 t160 _ ?side1 ?side2 A8.out).mono ?_); (case side1 => exact lC <| (Kd.R_reads' HO159.out).2.2); (case side2 => exact (Kd.R_reads' HO159.out).2.1); rintro e w21 ⟨rfl, hb⟩; refine ⟨_, rfl, ?_⟩; replace HO159 := aM (rb HO159.out hb); replace BK154 := aM (bb BK154.out hb); replace HB := aM (bj HB.out hb); (try clear hb); obtain ⟨hcz22_0, hcz22_1, hfz22_0, hfz22_1⟩ := cf2 BK154.out) | ((with_reducible refine gate_callee (f := 9) rfl ?_); refine gL (some 16) Tryd.func9 #[.agg #[.int .i64 a0_0, .slice A0_1 l0_1.length c0_1]] ?_; (with_reducible refine (laws_toResResult.calls k a0_0 _ _ l0_1 t161 t162 _ ?side1 ?side2 A9.out).mono ?_); (case side1 => exact lC <| (Kd.C_below HR0_1.out HB.out)); (case side2 => exact HC0_1.out); rintro e w23 ⟨v163, rfl, ho0, hb⟩; refine ⟨_, rfl, ?_⟩; have HO164 := aM (Kd.R_lower (Kd.R_new' ho0 (rl HO159.out)) (below_size (by exact jB HB.out))); replace HO159 := aM (Kd.R_elder' (by exact lR HO159.out) (Kd.R_base ho0) hb); replace BK154 := aM (bb BK154.out hb); replace HB := aM (bj HB.out hb); (try clear hb); (try clear ho0)) | ((with_reducible refine gate_dst (N := 5) rfl ?_); refine bx 5 #[.int .i64 0, .slice none 0 0] 27 ?_; intro gb165 hg w24 hbox hb; replace HO159 := aM (rb HO159.out hb); replace HO164 := aM (rb HO164.out hb); have BK165 := aM (hbox); have GW165 := aM ((gz hg HB.out)); have IGW165 : Nonempty _ := ⟨GW165.out⟩; have GE165 := aM ((gz hg HB.out)); have IGE165 : Nonempty _ := ⟨GE165.out⟩; replace HB := aM (bj HB.out hb); have NB154_165 := aM ((neL hg (lK BK154.out) : gb154 ≠ gb165)); have NB165_154 := aM ((neG hg (lK BK154.out) : gb165 ≠ gb154)); replace BK154 := aM (bb BK154.out hb); clear hb hbox hg; have hnb25 := NB165_154.out; have hnc25 := NB154_165.out; obtain ⟨hcz26_0, hcz26_1, hfz26_0, hfz26_1⟩ := cf2 BK165.out; obtain ⟨Ao27, co27, eo27⟩ := Kd.R_slice HO164.out; subst eo27) | ((with_reducible refine gate_callee (f := 13) rfl ?_); refine gL (some 18) Tryd.func13 #[.agg #[.int .i64 t161, .slice Ao27 t162.length co27]] ?_; (with_reducible refine (impl_ResOk.calls k t161 _ _ t162 t166 _ ?side1 ?side2 A10.out (HTAB.out _ (by exact jB HB.out))).mono ?_); (case side1 => refine (Kd.R_reads' (e := 3) (base := w.heap.size) (ok := fun k_ => (True ∧ some k_ ≠ ownBlock (.slice Ao20 t157.length co20))) (n := t162.length) (c := co27) ?_).2.2; exact (qp (R2 HO164.out BK165.out))); (case side2 => exact (Kd.R_reads' HO164.out).2.1); rintro e w28 ⟨rfl, hb⟩; refine ⟨_, rfl, ?_⟩; replace HO159 := aM (Kd.R_below (qp (R2 HO159.out BK165.out)) hb); replace HO164 := aM (Kd.R_below (qp (R2 HO164.out BK165.out)) hb); replace BK154 := aM (blk_below (f2 (lK BK154.out) NB154_165.out) hb); replace BK165 := aM (blk_below (g := gb165) (o := .cells #[.int .i64 t161, .slice Ao27 t162.length co27] 27 (0, 0)) (by exact p2 (lK BK165.out)) hb); replace HB := aM (bj HB.out hb); (try clear hb)))
    replace HO159 := aM (Kd.R_drew HO159.out)
    replace HO164 := aM (Kd.R_drew HO164.out)
    replace BK154 := aM (blk_drew BK154.out)
    replace BK165 := aM (blk_drew BK165.out)
    replace HB := aM (below_drew1 HB.out)
    refine start_ (n := 5) (S := fun w' => w'.cell? ⟨gb165, 0, none⟩ = some (.int .i64 t161) ∧ w'.cell? ⟨gb165, 1, none⟩ = some (.slice Ao27 t162.length co27) ∧ w'.cell? ⟨gb154, 0, none⟩ = some (.int .i64 a0_0) ∧ w'.cell? ⟨gb154, 1, none⟩ = some (.slice A0_1 l0_1.length c0_1)) (ds := []) #[false, false, false, false, false] (by kernel_rfl) rfl rfl ⟨(blk_cell BK165.out 0).trans rfl, (blk_cell BK165.out 1).trans rfl, (blk_cell BK154.out 0).trans rfl, (blk_cell BK154.out 1).trans rfl⟩ (fun hHeld => ?_)
    generalize w28.drew = w29 at HO159 HO164 BK154 BK165 HB hHeld ⊢
    refine take_ (i := 0) (N := some 22) (v := ?_) (a' := ?_) #[true, false, false, false, false] rfl rfl (by kernel_rfl) (fun _ _ _ h => h) (Or.inl ⟨by rfl, ?_⟩) hHeld ?_ ?_
    rotate_left
    ·rintro w' ⟨s0, s1, s2, s3⟩
     go_simp
     with_reducible rfl
    rotate_left
    ·simp only [Act.put, sA, s0, sS, i64_w, i32_w]
     rfl
    refine take_ (i := 1) (N := some 23) (v := ?_) (a' := ?_) #[true, true, false, false, false] rfl rfl (by kernel_rfl) (fun _ _ _ h => h) (Or.inl ⟨by rfl, ?_⟩) hHeld ?_ ?_
    rotate_left
    ·rintro w' ⟨s0, s1, s2, s3⟩
     go_simp
     with_reducible rfl
    rotate_left
    ·simp only [Act.put, sA, s0, sS, i64_w, i32_w]
     rfl
    refine one_ (i := 2) (N := some 24) #[true, true, true, false, false] rfl rfl (by kernel_rfl) (by decide) (fun K hK => ?_)
    refine goes_ Tryd.func9 (by kernel_rfl) rfl #[.agg #[.int .i64 a0_0, .slice A0_1 l0_1.length c0_1]] (by rfl) rfl rfl (by (try simp only [mA, mC, mN]); first | done | rfl | (simp only [ld, lt]; rfl)) ?_
    with_reducible refine (laws_toResResult.calls k a0_0 _ _ l0_1 t167 t168 _ ?side1 ?side2 A12.out).mono ?_
    (case side1 => exact lC <| (Kd.C_below HR0_1.out HB.out))
    (case side2 => exact HC0_1.out)
    rintro e w30 ⟨v169, rfl, ho0, hb⟩
    refine ⟨_, rfl, ?_⟩
    have HO170 := aM (Kd.R_lower (Kd.R_new' (Kd.R_new' ho0 (rl HO159.out)) (rl HO164.out)) (below_size (by exact jB HB.out)))
    replace HO159 := aM (Kd.R_elder' (by exact lR HO159.out) (Kd.R_base ho0) hb)
    replace HO164 := aM (Kd.R_elder' (by exact lR HO164.out) (Kd.R_base ho0) hb)
    replace BK154 := aM (bb BK154.out hb)
    replace BK165 := aM (bb BK165.out hb)
    replace HB := aM (bj HB.out hb)
    (try clear hb)
    (try clear hb2)
    (try clear hk)
    (try clear hi)
    (try clear ho0)
    obtain ⟨Ao31, co31, eo31⟩ := Kd.R_slice HO170.out
    (first | subst eo31 | (injection eo31 with f1_ f2_ f3_; have f4_ := f1_.symm; have f5_ := f3_.symm; clear f1_ f2_ f3_; subst f4_; subst f5_))
    refine hK.out _ _ ⟨(blk_cell BK165.out 0).trans rfl, (blk_cell BK165.out 1).trans rfl, (blk_cell BK154.out 0).trans rfl, (blk_cell BK154.out 1).trans rfl⟩ (fun hHeld => ?_)
    clear hK K
    refine norm_ (a' := ?_) ?_ ?_
    rotate_left
    ·show Act.put _ (some 24) _ = _
     simp only [Act.put, sA, s0, sS, i64_w, i32_w]
     rfl
    refine one_ (i := 3) (N := some 25) #[true, true, true, true, false] rfl rfl (by kernel_rfl) (by decide) (fun K hK => ?_)
    refine goes_ Tryd.func11 (by kernel_rfl) rfl #[.agg #[.int .i64 t161, .slice Ao27 t162.length co27], .agg #[.int .i64 t167, .slice Ao31 t168.length co31]] (by rfl) rfl rfl (by (try simp only [mA, mC, mN]); first | done | rfl | (simp only [ld, lt]; rfl)) ?_
    with_reducible refine (laws_eqResResult.calls k t161 _ _ t162 t167 _ _ t168 true _ ?side1 ?side2 ?side3 ?side4 A13.out).mono ?_
    (case side1 => exact lC <| (Kd.R_reads' HO164.out).2.2)
    (case side2 => exact (Kd.R_reads' HO164.out).2.1)
    (case side3 => exact lC <| (Kd.R_reads' HO170.out).2.2)
    (case side4 => exact (Kd.R_reads' HO170.out).2.1)
    rintro e w32 ⟨rfl, hb⟩
    refine ⟨_, rfl, ?_⟩
    replace HO159 := aM (rb HO159.out hb)
    replace HO164 := aM (rb HO164.out hb)
    replace HO170 := aM (rb HO170.out hb)
    replace BK154 := aM (bb BK154.out hb)
    replace BK165 := aM (bb BK165.out hb)
    replace HB := aM (bj HB.out hb)
    (try clear hb)
    (try clear hb2)
    (try clear hk)
    (try clear hi)
    refine hK.out _ _ ⟨(blk_cell BK165.out 0).trans rfl, (blk_cell BK165.out 1).trans rfl, (blk_cell BK154.out 0).trans rfl, (blk_cell BK154.out 1).trans rfl⟩ (fun hHeld => ?_)
    clear hK K
    refine norm_ (a' := ?_) ?_ ?_
    rotate_left
    ·show Act.put _ (some 25) _ = _
     simp only [Act.put, sA, s0, sS, i64_w, i32_w]
     rfl
    refine pure_ (i := 4) (N := some 26) (v := ?_) (a' := ?_) #[true, true, true, true, true] rfl rfl (by kernel_rfl) (fun _ _ _ h => h) (Or.inl ⟨by rfl, ?_⟩) ?_ ?_
    rotate_left
    ·intro w'
     go_simp
     with_reducible rfl
    rotate_left
    ·simp only [Act.put, sA, s0, sS, i64_w, i32_w]
     rfl
    refine done_ (by kernel_rfl) ?_
    try go_wp2
    go_ret
    exact ⟨er, by exact jB HB.out⟩
   ·replace c14 := Bool.eq_false_iff.mpr c14
    subst c14
    rw [if_neg nf] at H
    try dsimp only at H
    exact absurd (Option.some.inj H) (by rw [hr.out]; decide)

/-- THE ONE PURE STATEMENT of laws_FnExactResOk. -/
def laws_FnExactResOk.Pure : Prop := ∀ (a0_0 : Int) (l0_1 : List Int), (Lit.int .i64 a0_0).wf = true → (l0_1.length ≤ 9223372036854775807 ∧ ∀ x0 ∈ l0_1, (Lit.int .i64 x0).wf = true) → ∃ k, laws_FnExactResOk.f k a0_0 l0_1 = some true
theorem laws_FnExactResOk.walk (P : laws_FnExactResOk.Pure) (a0_0 : Int) (A0_1 : Option Addr) (c0_1 : Nat) (l0_1 : List Int) (w : World) (hr0_1 : Kd.C (Kd.int .i64) w A0_1 l0_1.length l0_1) (hc0_1 : l0_1.length ≤ c0_1) (hw0_0 : (Lit.int .i64 a0_0).wf = true) (hw0_1 : (l0_1.length ≤ 9223372036854775807 ∧ ∀ x0 ∈ l0_1, (Lit.int .i64 x0).wf = true)) (htab : Go.Lib.TabIs Tryd.prog w "internal/strconv.uint64pow10" .u64 Go.Lib.pow10Tab) :
  Calls Tryd.prog 4 #[.agg #[.int .i64 a0_0, .slice A0_1 l0_1.length c0_1]] w fun e w' => e = .returned (.bool true) ∧ Below w.heap.size w w' := by
 obtain ⟨k, h⟩ := P a0_0 l0_1 hw0_0 hw0_1
 refine (laws_FnExactResOk.calls k a0_0 A0_1 c0_1 l0_1 true w ⟨rfl⟩ hr0_1 hc0_1 h htab).mono ?_
 rintro e w' ⟨rfl, hd⟩
 exact ⟨rfl, hd⟩

end Go.Proofs.YtcafmfmlnfaogaaDoor.QFnExactResOk

-- shorter
