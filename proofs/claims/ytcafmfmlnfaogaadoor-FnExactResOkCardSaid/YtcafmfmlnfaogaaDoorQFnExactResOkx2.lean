/- Plain functions, and that the Go code computes them: written by a program of this session over the seat's translation; the conditions stand in each theorem. -/
import Derived.Test.YtcafmfmlnfaogaaDoorQFnExactResOkx0
import Derived.Test.YtcafmfmlnfaogaaDoorQFnExactResOkx1
namespace Go.Proofs.YtcafmfmlnfaogaaDoor.QFnExactResOk
open Go.RowKit Go.Proofs.YtcafmfmlnfaogaaDoorW.PrintWords Go.Proofs.YtcafmfmlnfaogaaDoorW.PrintLast Go.Proofs.YtcafmfmlnfaogaaDoorW.PrintMore Go.Proofs.YtcafmfmlnfaogaaDoor.HWords
attribute [local go_sem] max2_int min2_int max_two min_two max_three min_three max_four min_four   -- for this text's walks alone
set_option maxRecDepth 100000
set_option maxHeartbeats 8000000
set_option linter.unusedVariables false
set_option linter.unusedSimpArgs false

/-! ### spec_ResText: function 8 -/
mutual
def spec_ResText.j0 : Nat → List ByteArray → Bool → Int → List Int → Option (ByteArray)
 | 0, _, _, _, _ => none
 | k + 1, x3, x36, x129000, x129001 => if x36 = true then (some (⟨#[]⟩ : ByteArray)) else (if 0 ≤ x129000 then (if x129000 < (x3.length : Int) then (spec_ResText.l0 k (rdOf ByteArray.empty x3 x129000) 0 x129000 x129001) else (none)) else (none))
def spec_ResText.l0 : Nat → ByteArray → Int → Int → List Int → Option (ByteArray)
 | 0, _, _, _, _ => none
 | k + 1, x4, x5, x129000, x129001 => if x5 < (x129001.length : Int) then (if x4.size + 1 ≤ 9223372036854775807 then (if 0 ≤ x5 then ((spec_l1Digits.f k (rd x129001 x5)).bind fun t137 => (if (x4 ++ (⟨#[32]⟩ : ByteArray)).size + t137.size ≤ 9223372036854775807 then (spec_ResText.l0 k ((x4 ++ (⟨#[32]⟩ : ByteArray)) ++ t137) (wrap64 (x5 + 1)) x129000 x129001) else (none))) else (none)) else (none)) else (some x4)
end
def spec_ResText.f (k : Nat) (a0_0 : Int) (l0_1 : List Int) : Option (ByteArray) := (some (([(⟨#[]⟩ : ByteArray), (⟨#[100, 111, 110, 101]⟩ : ByteArray), (⟨#[115, 116, 111, 112, 112, 101, 100]⟩ : ByteArray), (⟨#[111, 118, 101, 114]⟩ : ByteArray)] : List ByteArray) : List ByteArray)).bind fun y129 => ((spec_l1In.f a0_0 1 3).bind fun t132 => (if t132 = true then (if a0_0 = 1 then (if (l0_1.length : Int) > 6 then (spec_ResText.j0 k y129 true a0_0 l0_1) else ((spec_l1All.f k l0_1 (l0_1.length : Int) 999999999999).bind fun t133 => (spec_ResText.j0 k y129 (!t133) a0_0 l0_1))) else (if (l0_1.length : Int) > 0 then (spec_ResText.j0 k y129 true a0_0 l0_1) else (if (l0_1.length : Int) > 6 then (spec_ResText.j0 k y129 true a0_0 l0_1) else ((spec_l1All.f k l0_1 (l0_1.length : Int) 999999999999).bind fun t134 => (spec_ResText.j0 k y129 (!t134) a0_0 l0_1))))) else (spec_ResText.j0 k y129 true a0_0 l0_1)))
theorem spec_ResText.mono_l : ∀ k, (∀ y0 y1 y2 y3, LeO (spec_ResText.j0 k y0 y1 y2 y3) (spec_ResText.j0 (k + 1) y0 y1 y2 y3)) ∧ (∀ y0 y1 y2 y3, LeO (spec_ResText.l0 k y0 y1 y2 y3) (spec_ResText.l0 (k + 1) y0 y1 y2 y3))
 | 0 => ⟨fun _ _ _ _ r h => by simp [spec_ResText.j0] at h, fun _ _ _ _ r h => by simp [spec_ResText.l0] at h⟩
 | k + 1 => by
  obtain ⟨ih0, ih1⟩ := spec_ResText.mono_l k
  refine ⟨?_, ?_⟩
  ·intro y0 y1 y2 y3
   unfold spec_ResText.j0
   repeat' first
   | (with_reducible exact ih0 _ _ _ _)
   | (with_reducible exact ih1 _ _ _ _)
   | (with_reducible exact spec_l1All.mono _ _ _ _)
   | (with_reducible exact spec_l1Digits.mono _ _)
   | (with_reducible exact LeO.refl _)
   | (with_reducible exact LeO.none _)
   | (with_reducible refine LeO.ite ?_ ?_)
   | (with_reducible refine LeO.bind ?_ (fun _ => ?_))
   | exact LeO.none _
   | refine LeO.ite ?_ ?_
   | refine LeO.bind ?_ (fun _ => ?_)
  ·intro y0 y1 y2 y3
   unfold spec_ResText.l0
   repeat' first
   | (with_reducible exact ih0 _ _ _ _)
   | (with_reducible exact ih1 _ _ _ _)
   | (with_reducible exact spec_l1All.mono _ _ _ _)
   | (with_reducible exact spec_l1Digits.mono _ _)
   | (with_reducible exact LeO.refl _)
   | (with_reducible exact LeO.none _)
   | (with_reducible refine LeO.ite ?_ ?_)
   | (with_reducible refine LeO.bind ?_ (fun _ => ?_))
   | exact LeO.none _
   | refine LeO.ite ?_ ?_
   | refine LeO.bind ?_ (fun _ => ?_)
theorem spec_ResText.mono : ∀ a0 a1 k, LeO (spec_ResText.f k a0 a1) (spec_ResText.f (k + 1) a0 a1) := by
 intro a0 a1 k
 obtain ⟨ih0, ih1⟩ := spec_ResText.mono_l k
 unfold spec_ResText.f
 repeat' first
   | (with_reducible exact ih0 _ _ _ _)
   | (with_reducible exact ih1 _ _ _ _)
   | (with_reducible exact spec_l1All.mono _ _ _ _)
   | (with_reducible exact spec_l1Digits.mono _ _)
   | (with_reducible exact LeO.refl _)
   | (with_reducible exact LeO.none _)
   | (with_reducible refine LeO.ite ?_ ?_)
   | (with_reducible refine LeO.bind ?_ (fun _ => ?_))
   | exact LeO.none _
   | refine LeO.ite ?_ ?_
   | refine LeO.bind ?_ (fun _ => ?_)
theorem spec_ResText.calls (k : Nat) (a0_0 : Int) (A0_1 : Option Addr) (c0_1 : Nat) (l0_1 : List Int) (r : ByteArray) (w : World) (hr0_1 : Kd.C (Kd.int .i64) w A0_1 l0_1.length l0_1) (hc0_1 : l0_1.length ≤ c0_1) (h : spec_ResText.f k a0_0 l0_1 = some r) :
  Calls Tryd.prog 8 #[.agg #[.int .i64 a0_0, .slice A0_1 l0_1.length c0_1]] w fun e w' => e = .returned (.string r) ∧ Below w.heap.size w w' := by
 have hu27 := Tryd.underlying27
 have HR0_1 := aM hr0_1
 have HC0_1 := aM hc0_1
 clear hr0_1 hc0_1
 have HB := aM (Below.refl w.heap.size w)
 have H : ((some (([(⟨#[]⟩ : ByteArray), (⟨#[100, 111, 110, 101]⟩ : ByteArray), (⟨#[115, 116, 111, 112, 112, 101, 100]⟩ : ByteArray), (⟨#[111, 118, 101, 114]⟩ : ByteArray)] : List ByteArray) : List ByteArray)).bind fun y129 => ((spec_l1In.f a0_0 1 3).bind fun t132 => (if t132 = true then (if a0_0 = 1 then (if (l0_1.length : Int) > 6 then (spec_ResText.j0 k y129 true a0_0 l0_1) else ((spec_l1All.f k l0_1 (l0_1.length : Int) 999999999999).bind fun t133 => (spec_ResText.j0 k y129 (!t133) a0_0 l0_1))) else (if (l0_1.length : Int) > 0 then (spec_ResText.j0 k y129 true a0_0 l0_1) else (if (l0_1.length : Int) > 6 then (spec_ResText.j0 k y129 true a0_0 l0_1) else ((spec_l1All.f k l0_1 (l0_1.length : Int) 999999999999).bind fun t134 => (spec_ResText.j0 k y129 (!t134) a0_0 l0_1))))) else (spec_ResText.j0 k y129 true a0_0 l0_1)))) = some r := h
 clear h
 obtain ⟨y129, hy129⟩ : ∃ y_ : List ByteArray, y_ = (([(⟨#[]⟩ : ByteArray), (⟨#[100, 111, 110, 101]⟩ : ByteArray), (⟨#[115, 116, 111, 112, 112, 101, 100]⟩ : ByteArray), (⟨#[111, 118, 101, 114]⟩ : ByteArray)] : List ByteArray)) := ⟨_, rfl⟩
 replace H : ((spec_l1In.f a0_0 1 3).bind fun t132 => (if t132 = true then (if a0_0 = 1 then (if (l0_1.length : Int) > 6 then (spec_ResText.j0 k y129 true a0_0 l0_1) else ((spec_l1All.f k l0_1 (l0_1.length : Int) 999999999999).bind fun t133 => (spec_ResText.j0 k y129 (!t133) a0_0 l0_1))) else (if (l0_1.length : Int) > 0 then (spec_ResText.j0 k y129 true a0_0 l0_1) else (if (l0_1.length : Int) > 6 then (spec_ResText.j0 k y129 true a0_0 l0_1) else ((spec_l1All.f k l0_1 (l0_1.length : Int) 999999999999).bind fun t134 => (spec_ResText.j0 k y129 (!t134) a0_0 l0_1))))) else (spec_ResText.j0 k y129 true a0_0 l0_1))) = some r := by first | (rw [hy129]; exact H) | exact H
 have Ny129 := aM hy129
 clear hy129
 have HC2 := aM H
 clear H
 go_enter Tryd.func8, Tryd.ntmps8
 go_upto_region 2 with (first | ((with_reducible refine gate_dst (N := 1) rfl ?_); (try (refine gate_guard (by rfl) ?_; dsimp only)); refine bx 1 #[.int .i64 a0_0, .slice A0_1 l0_1.length c0_1] 27 ?_; intro gb128 hg w3 hbox hb; have BK128 := aM (hbox); have GW128 := aM ((gz hg HB.out)); have IGW128 : Nonempty _ := ⟨GW128.out⟩; have GE128 := aM ((gz hg HB.out)); have IGE128 : Nonempty _ := ⟨GE128.out⟩; replace HB := aM (bj HB.out hb); clear hb hbox hg) | ((with_reducible refine gate_dst (N := 6) rfl ?_); (try (refine gate_guard (by rfl) ?_; dsimp only)); refine Kd.R_lit Kd.string _ 9 ?hg (N := 6) ?hd (xs := ([(⟨#[]⟩ : ByteArray), (⟨#[100, 111, 110, 101]⟩ : ByteArray), (⟨#[115, 116, 111, 112, 112, 101, 100]⟩ : ByteArray), (⟨#[111, 118, 101, 114]⟩ : ByteArray)] : List ByteArray)) (inner := [.string (⟨#[]⟩ : ByteArray), .string (⟨#[100, 111, 110, 101]⟩ : ByteArray), .string (⟨#[115, 116, 111, 112, 112, 101, 100]⟩ : ByteArray), .string (⟨#[111, 118, 101, 114]⟩ : ByteArray)]) (ok := fun _ => True) (okp := fun _ => True) ?hr ?hp (fun _ hk => hk) trivial (Below.refl _ _) (Nat.le_refl _) (by simp) ?_; (case hd => rfl); (case hg => rfl); (case hr => first | (go_simp; done) | (go_simp; rfl)); (case hp => exact (Reps.one (show Kd.M Kd.string _ _ _ (⟨#[]⟩ : ByteArray) [.string (⟨#[]⟩ : ByteArray)] from rfl) (Reps.one (show Kd.M Kd.string _ _ _ (⟨#[100, 111, 110, 101]⟩ : ByteArray) [.string (⟨#[100, 111, 110, 101]⟩ : ByteArray)] from rfl) (Reps.one (show Kd.M Kd.string _ _ _ (⟨#[115, 116, 111, 112, 112, 101, 100]⟩ : ByteArray) [.string (⟨#[115, 116, 111, 112, 112, 101, 100]⟩ : ByteArray)] from rfl) (Reps.one (show Kd.M Kd.string _ _ _ (⟨#[111, 118, 101, 114]⟩ : ByteArray) [.string (⟨#[111, 118, 101, 114]⟩ : ByteArray)] from rfl) (Reps.none _ _)))))); intro v130 w4 ho5 hb hg_ hnew_; clear hg_ hnew_; (first | rw [← Ny129.out] at ho5 | (simp only [Int.reduceToNat] at ho5; rw [← Ny129.out] at ho5)); have HO131 := aM (Kd.R_lower ho5 (below_size (by exact jB HB.out))); replace BK128 := aM (bb BK128.out hb); replace HB := aM (bj HB.out hb); clear hb ho5))
 (try simp only [Act.put, sA, s0, sS])
 go_cut [36] (fun v36 wc => ∃ (kq : Nat) (x36_1 : Bool), v36 = .bool x36_1 ∧ Aside0 (spec_ResText.j0 kq y129 x36_1 a0_0 l0_1 = some r) ∧ Aside0 (kq ≤ k) ∧ Aside0 (Kd.R Kd.string 9 wc w.heap.size (fun _ => True) v130 y129) ∧ Aside0 (wc.heap[gb128]? = some (.cells #[.int .i64 a0_0, (.slice A0_1 l0_1.length c0_1)] 27 (0, 0))) ∧ Aside0 (Below w.heap.size w wc))
 case first =>
  have H := HC2.out
  clear HC2
  obtain ⟨t132, A6, H⟩ := bS H
  try dsimp only at H
  by_cases c7 : t132 = true
  ·subst c7
   rw [if_pos rfl] at H
   try dsimp only at H
   by_cases c8 : a0_0 = 1
   ·rw [if_pos c8] at H
    have c8b0 := beq_iff_eq.mpr c8
    have c8b1 := bne_eq_false_iff_eq.mpr c8
    clear c8
    (first | rw [c8b0] | (simp only [i64_w, i32_w]; rw [c8b0]) | skip)
    by_cases c9 : (l0_1.length : Int) > 6
    ·rw [if_pos c9] at H
     have c9b0 := decide_eq_true c9
     have c9b1 : decide (6 < l0_1.length) = true := decide_eq_true (by omega)
     clear c9
     have H' := aM H
     clear H
     obtain ⟨hcz10_0, hcz10_1, hfz10_0, hfz10_1⟩ := cf2 BK128.out
     go_wp2_with (first | ((with_reducible refine gate_callee (f := 22) rfl ?_); refine gL (some 9) Tryd.func22 #[.int .i64 a0_0, .int .i64 1, .int .i64 3] ?_; (with_reducible refine (spec_l1In.calls a0_0 1 3 true _ A6.out).mono ?_); rintro e w' ⟨rfl, ⟨nd, rfl⟩⟩; refine ⟨_, rfl, ?_⟩))
     go_meet
     case rel => exact ⟨_, (true), (by first | rfl | (simp; done) | (simp [*]; done)), H', ⟨by first | omega | exact Nat.le_refl _⟩, ⟨by exact lR <| HO131.out⟩, ⟨by exact lK <| BK128.out⟩, ⟨by exact jB HB.out⟩⟩
    ·rw [if_neg c9] at H
     have c9b0 := decide_eq_false c9
     have c9b1 : decide (6 < l0_1.length) = false := decide_eq_false (by omega)
     clear c9
     obtain ⟨t133, A11, H⟩ := bS H
     try dsimp only at H
     have H' := aM H
     clear H
     obtain ⟨hcz12_0, hcz12_1, hfz12_0, hfz12_1⟩ := cf2 BK128.out
     go_wp2_with (first | ((with_reducible refine gate_callee (f := 22) rfl ?_); refine gL (some 9) Tryd.func22 #[.int .i64 a0_0, .int .i64 1, .int .i64 3] ?_; (with_reducible refine (spec_l1In.calls a0_0 1 3 true _ A6.out).mono ?_); rintro e w' ⟨rfl, ⟨nd, rfl⟩⟩; refine ⟨_, rfl, ?_⟩) | (go_at_call 23; (with_reducible refine (spec_l1All.calls k _ _ l0_1 (l0_1.length : Int) 999999999999 t133 _ ?side1 ?side2 A11.out).mono ?_); (case side1 => repeat (first | exact (Kd.C_below HR0_1.out (by exact jB HB.out)) | (with_reducible refine Kd.C_alloc ?_ _) | (with_reducible refine Kd.C_drewN ?_ _) | (with_reducible refine Kd.C_drew ?_))); (case side2 => exact HC0_1.out); rintro e w' ⟨rfl, ⟨nd, rfl⟩⟩))
     go_meet
     case rel => exact ⟨_, (!t133), (by first | rfl | (simp; done) | (simp [*]; done)), H', ⟨by first | omega | exact Nat.le_refl _⟩, ⟨by exact lR <| HO131.out⟩, ⟨by exact lK <| BK128.out⟩, ⟨by exact jB HB.out⟩⟩
   ·rw [if_neg c8] at H
    have c8b0 := beq_eq_false_iff_ne.mpr c8
    have c8b1 := bne_iff_ne.mpr c8
    (first | rw [c8b0] | (simp only [i64_w, i32_w]; rw [c8b0]) | skip)
    by_cases c13 : (l0_1.length : Int) > 0
    ·rw [if_pos c13] at H
     have c13b0 := decide_eq_true c13
     have c13b1 : decide (0 < l0_1.length) = true := decide_eq_true (by omega)
     clear c13
     have H' := aM H
     clear H
     obtain ⟨hcz14_0, hcz14_1, hfz14_0, hfz14_1⟩ := cf2 BK128.out
     go_wp2_with (first | ((with_reducible refine gate_callee (f := 22) rfl ?_); refine gL (some 9) Tryd.func22 #[.int .i64 a0_0, .int .i64 1, .int .i64 3] ?_; (with_reducible refine (spec_l1In.calls a0_0 1 3 true _ A6.out).mono ?_); rintro e w' ⟨rfl, ⟨nd, rfl⟩⟩; refine ⟨_, rfl, ?_⟩))
     go_meet
     case rel => exact ⟨_, (true), (by first | rfl | (simp; done) | (simp [*]; done)), H', ⟨by first | omega | exact Nat.le_refl _⟩, ⟨by exact lR <| HO131.out⟩, ⟨by exact lK <| BK128.out⟩, ⟨by exact jB HB.out⟩⟩
    ·rw [if_neg c13] at H
     have c13b0 := decide_eq_false c13
     have c13b1 : decide (0 < l0_1.length) = false := decide_eq_false (by omega)
     clear c13
     by_cases c15 : (l0_1.length : Int) > 6
     ·rw [if_pos c15] at H
      have c15b0 := decide_eq_true c15
      have c15b1 : decide (6 < l0_1.length) = true := decide_eq_true (by omega)
      clear c15
      have H' := aM H
      clear H
      obtain ⟨hcz16_0, hcz16_1, hfz16_0, hfz16_1⟩ := cf2 BK128.out
      go_wp2_with (first | ((with_reducible refine gate_callee (f := 22) rfl ?_); refine gL (some 9) Tryd.func22 #[.int .i64 a0_0, .int .i64 1, .int .i64 3] ?_; (with_reducible refine (spec_l1In.calls a0_0 1 3 true _ A6.out).mono ?_); rintro e w' ⟨rfl, ⟨nd, rfl⟩⟩; refine ⟨_, rfl, ?_⟩))
      go_meet
      case rel => exact ⟨_, (true), (by first | rfl | (simp; done) | (simp [*]; done)), H', ⟨by first | omega | exact Nat.le_refl _⟩, ⟨by exact lR <| HO131.out⟩, ⟨by exact lK <| BK128.out⟩, ⟨by exact jB HB.out⟩⟩
     ·rw [if_neg c15] at H
      have c15b0 := decide_eq_false c15
      have c15b1 : decide (6 < l0_1.length) = false := decide_eq_false (by omega)
      clear c15
      obtain ⟨t134, A17, H⟩ := bS H
      try dsimp only at H
      have H' := aM H
      clear H
      obtain ⟨hcz18_0, hcz18_1, hfz18_0, hfz18_1⟩ := cf2 BK128.out
      go_wp2_with (first | ((with_reducible refine gate_callee (f := 22) rfl ?_); refine gL (some 9) Tryd.func22 #[.int .i64 a0_0, .int .i64 1, .int .i64 3] ?_; (with_reducible refine (spec_l1In.calls a0_0 1 3 true _ A6.out).mono ?_); rintro e w' ⟨rfl, ⟨nd, rfl⟩⟩; refine ⟨_, rfl, ?_⟩) | (go_at_call 23; (with_reducible refine (spec_l1All.calls k _ _ l0_1 (l0_1.length : Int) 999999999999 t134 _ ?side1 ?side2 A17.out).mono ?_); (case side1 => repeat (first | exact (Kd.C_below HR0_1.out (by exact jB HB.out)) | (with_reducible refine Kd.C_alloc ?_ _) | (with_reducible refine Kd.C_drewN ?_ _) | (with_reducible refine Kd.C_drew ?_))); (case side2 => exact HC0_1.out); rintro e w' ⟨rfl, ⟨nd, rfl⟩⟩))
      go_meet
      case rel => exact ⟨_, (!t134), (by first | rfl | (simp; done) | (simp [*]; done)), H', ⟨by first | omega | exact Nat.le_refl _⟩, ⟨by exact lR <| HO131.out⟩, ⟨by exact lK <| BK128.out⟩, ⟨by exact jB HB.out⟩⟩
  ·replace c7 := Bool.eq_false_iff.mpr c7
   subst c7
   rw [if_neg nf] at H
   try dsimp only at H
   have H' := aM H
   clear H
   obtain ⟨hcz19_0, hcz19_1, hfz19_0, hfz19_1⟩ := cf2 BK128.out
   go_wp2_with (first | ((with_reducible refine gate_callee (f := 22) rfl ?_); refine gL (some 9) Tryd.func22 #[.int .i64 a0_0, .int .i64 1, .int .i64 3] ?_; (with_reducible refine (spec_l1In.calls a0_0 1 3 false _ A6.out).mono ?_); rintro e w' ⟨rfl, ⟨nd, rfl⟩⟩; refine ⟨_, rfl, ?_⟩))
   go_meet
   case rel => exact ⟨_, (true), (by first | rfl | (simp; done) | (simp [*]; done)), H', ⟨by first | omega | exact Nat.le_refl _⟩, ⟨by exact lR <| HO131.out⟩, ⟨by exact lK <| BK128.out⟩, ⟨by exact jB HB.out⟩⟩
 case rest =>
  clear HC2
  try clear c1
  try clear c2
  try clear p2
  try clear c7
  try clear c8
  try clear c8b0
  try clear c8b1
  try clear c9
  try clear c9b0
  try clear c9b1
  try clear c13
  try clear c13b0
  try clear c13b1
  try clear c15
  try clear c15b0
  try clear c15b1
  try clear hcz10_0
  try clear hcz10_1
  try clear hcz12_0
  try clear hcz12_1
  try clear hcz14_0
  try clear hcz14_1
  try clear hcz16_0
  try clear hcz16_1
  try clear hcz18_0
  try clear hcz18_1
  try clear hcz19_0
  try clear hcz19_1
  try clear hfz10_0
  try clear hfz10_1
  try clear hfz12_0
  try clear hfz12_1
  try clear hfz14_0
  try clear hfz14_1
  try clear hfz16_0
  try clear hfz16_1
  try clear hfz18_0
  try clear hfz18_1
  try clear hfz19_0
  try clear hfz19_1
  obtain ⟨kq, x36_1, rfl, HA, HJ1, HO_3, BK128, HB⟩ := hcut
  cases kq with
  | zero => exact absurd HA.out (by simp [spec_ResText.j0])
  | succ kj1 =>
   have H := HA.out
   clear HA
   simp only [spec_ResText.j0] at H
   by_cases c20 : x36_1 = true
   ·subst c20
    rw [if_pos rfl] at H
    try dsimp only at H
    obtain rfl := Option.some.inj H
    go_wp2
    go_ret
    exact ⟨er, by exact jB HB.out⟩
   ·replace c20 := Bool.eq_false_iff.mpr c20
    subst c20
    rw [if_neg nf] at H
    try dsimp only at H
    by_cases c21 : 0 ≤ a0_0
    ·rw [if_pos c21] at H
     have c21b0 := decide_eq_true c21
     clear c21
     by_cases c22 : a0_0 < (y129.length : Int)
     ·rw [if_pos c22] at H
      have c22b0 := decide_eq_true c22
      clear c22
      have H' := aM H
      clear H
      obtain ⟨hcz23_0, hcz23_1, hfz23_0, hfz23_1⟩ := cf2 BK128.out
      obtain ⟨Ao24, co24, eo24⟩ := Kd.R_slice HO_3.out
      subst eo24
      have p135 : 0 ≤ (a0_0 : Int) := of_decide_eq_true (by first | (with_reducible assumption) | assumption)
      have q135 : a0_0 < (y129.length : Int) := of_decide_eq_true (by first | (with_reducible assumption) | assumption)
      obtain ⟨ad135, e135, hx135_0⟩ := Kd.at_string (Kd.R_reads' HO_3.out).2.2 a0_0 p135 q135
      cases e135
      replace p135 := eq_true p135
      replace q135 := eq_true q135
      go_wp2
      go_loopg [4, 5] kj1 (fun kq v4 v5 w' => ∃ (x4_2 : ByteArray) (x5_2 : Int), v4 = .string x4_2 ∧ v5 = .int .i64 x5_2 ∧ Aside0 (spec_ResText.l0 kq x4_2 x5_2 a0_0 l0_1 = some r) ∧ Aside0 (kq ≤ kj1) ∧ Aside0 (w'.heap[gb128]? = some (.cells #[.int .i64 a0_0, (.slice A0_1 l0_1.length c0_1)] 27 (0, 0))) ∧ Aside0 (Below w.heap.size w w'))
      case atStart => exact ⟨(rdOf ByteArray.empty y129 a0_0), (0), (by first | rfl | (simp; done) | (simp [*]; done)), (by first | rfl | (simp; done) | (simp [*]; done)), H', ⟨Nat.le_refl _⟩, ⟨by exact lK <| BK128.out⟩, ⟨by exact jB HB.out⟩⟩
      case round =>
       clear H'
       try clear c1
       try clear p1
       try clear q1
       try clear hx1
       try clear c2
       try clear p2
       try clear c7
       try clear c8
       try clear c8b0
       try clear c8b1
       try clear c9
       try clear c9b0
       try clear c9b1
       try clear c13
       try clear c13b0
       try clear c13b1
       try clear p13
       try clear q13
       try clear hx13
       try clear c15
       try clear c15b0
       try clear c15b1
       try clear c20
       try clear c21
       try clear c21b0
       try clear c22
       try clear c22b0
       try clear hcz10_0
       try clear hcz10_1
       try clear hcz12_0
       try clear hcz12_1
       try clear hcz14_0
       try clear hcz14_1
       try clear hcz16_0
       try clear hcz16_1
       try clear hcz18_0
       try clear hcz18_1
       try clear hcz19_0
       try clear hcz19_1
       try clear hcz23_0
       try clear hcz23_1
       try clear hfz10_0
       try clear hfz10_1
       try clear hfz12_0
       try clear hfz12_1
       try clear hfz14_0
       try clear hfz14_1
       try clear hfz16_0
       try clear hfz16_1
       try clear hfz18_0
       try clear hfz18_1
       try clear hfz19_0
       try clear hfz19_1
       try clear hfz23_0
       try clear hfz23_1
       try clear hx135_0
       try clear p135
       try clear p2
       try clear q135
       obtain ⟨x4_2, x5_2, rfl, rfl, HA, HK2, BK128, HB⟩ := hrel
       cases gk with
       | zero => exact absurd HA.out (by simp [spec_ResText.l0])
       | succ k2 =>
        have H := HA.out
        clear HA
        simp only [spec_ResText.l0] at H
        by_cases c25 : x5_2 < (l0_1.length : Int)
        ·rw [if_pos c25] at H
         have c25b0 := decide_eq_true c25
         clear c25
         by_cases c26 : x4_2.size + 1 ≤ 9223372036854775807
         ·rw [if_pos c26] at H
          have c26b0 := eq_true c26
          have c26b1 := decide_eq_true c26
          try have c26b2 : (9223372036854775807 < x4_2.size + 1) = False := eq_false (Nat.not_lt.2 c26)
          by_cases c27 : 0 ≤ x5_2
          ·rw [if_pos c27] at H
           have c27b0 := decide_eq_true c27
           clear c27
           obtain ⟨t137, A28, H⟩ := bS H
           try dsimp only at H
           by_cases c29 : (x4_2 ++ (⟨#[32]⟩ : ByteArray)).size + t137.size ≤ 9223372036854775807
           ·rw [if_pos c29] at H
            have c29b0 := eq_true c29
            have c29b1 := decide_eq_true c29
            try have c29b2 : (9223372036854775807 < (x4_2 ++ (⟨#[32]⟩ : ByteArray)).size + t137.size) = False := eq_false (Nat.not_lt.2 c29)
            have c29b3 : x4_2.size + 1 + t137.size ≤ 9223372036854775807 := by rw [ByteArray.size_append] at c29; exact c29
            have c29b4 := eq_true c29b3
            have c29b5 := decide_eq_true c29b3
            have c29b6 : (9223372036854775807 < x4_2.size + 1 + t137.size) = False := eq_false (Nat.not_lt.2 c29b3)
            have H' := aM H
            clear H
            obtain ⟨hcz30_0, hcz30_1, hfz30_0, hfz30_1⟩ := cf2 BK128.out
            have p136 : 0 ≤ (x5_2 : Int) := of_decide_eq_true (by first | (with_reducible assumption) | assumption)
            have q136 : x5_2 < (l0_1.length : Int) := of_decide_eq_true (by first | (with_reducible assumption) | assumption)
            obtain ⟨ad136, e136, hx136_0⟩ := Kd.at_int HR0_1.out x5_2 p136 q136
            cases e136
            replace hx136_0 := cl HB.out hx136_0
            replace p136 := eq_true p136
            replace q136 := eq_true q136
            go_wp2_with (first | ((with_reducible refine gate_callee (f := 24) rfl ?_); refine gL (some 56) Tryd.func24 #[.int .i64 (rd l0_1 x5_2)] ?_; (with_reducible refine (spec_l1Digits.calls k2 (rd l0_1 x5_2) t137 _ A28.out).mono ?_); rintro e w31 ⟨rfl, hb⟩; refine ⟨_, rfl, ?_⟩; replace BK128 := aM (bb BK128.out hb); replace HB := aM (bj HB.out hb); (try clear hb)))
            go_roundg k2
            case measure => have := HJ1.out; have := HK2.out; omega
            case rel => exact ⟨((x4_2 ++ (⟨#[32]⟩ : ByteArray)) ++ t137), (wrap64 (x5_2 + 1)), (by first | rfl | (simp; done) | (simp [*]; done)), (by first | rfl | (simp; done) | (simp [*]; done)), H', ⟨by have := HJ1.out; have := HK2.out; omega⟩, ⟨by exact lK <| BK128.out⟩, ⟨by exact jB HB.out⟩⟩
           ·rw [if_neg c29] at H
            exact absurd H (by simp)
          ·rw [if_neg c27] at H
           exact absurd H (by simp)
         ·rw [if_neg c26] at H
          exact absurd H (by simp)
        ·rw [if_neg c25] at H
         have c25b0 := decide_eq_false c25
         clear c25
         obtain rfl := Option.some.inj H
         obtain ⟨hcz32_0, hcz32_1, hfz32_0, hfz32_1⟩ := cf2 BK128.out
         go_wp2
         go_ret
         exact ⟨er, by exact jB HB.out⟩
     ·rw [if_neg c22] at H
      exact absurd H (by simp)
    ·rw [if_neg c21] at H
     exact absurd H (by simp)

/-! ### spec_ResOk: function 12 -/
def spec_ResOk.f (k : Nat) (a0_0 : Int) (l0_1 : List Int) : Option (Bool) := (spec_ResText.f k a0_0 l0_1).bind fun t139 => (some (t139.toList != ([] : List UInt8)))
theorem spec_ResOk.mono : ∀ a0 a1 k, LeO (spec_ResOk.f k a0 a1) (spec_ResOk.f (k + 1) a0 a1) := by
 intro a0 a1 k
 unfold spec_ResOk.f
 repeat' first
   | (with_reducible exact spec_ResText.mono _ _ _)
   | (with_reducible exact LeO.refl _)
   | (with_reducible exact LeO.none _)
   | (with_reducible refine LeO.ite ?_ ?_)
   | (with_reducible refine LeO.bind ?_ (fun _ => ?_))
   | exact LeO.none _
   | refine LeO.ite ?_ ?_
   | refine LeO.bind ?_ (fun _ => ?_)
theorem spec_ResOk.calls (k : Nat) (a0_0 : Int) (A0_1 : Option Addr) (c0_1 : Nat) (l0_1 : List Int) (r : Bool) (w : World) (hr0_1 : Kd.C (Kd.int .i64) w A0_1 l0_1.length l0_1) (hc0_1 : l0_1.length ≤ c0_1) (h : spec_ResOk.f k a0_0 l0_1 = some r) :
  Calls Tryd.prog 12 #[.agg #[.int .i64 a0_0, .slice A0_1 l0_1.length c0_1]] w fun e w' => e = .returned (.bool r) ∧ Below w.heap.size w w' := by
 have hu27 := Tryd.underlying27
 have HR0_1 := aM hr0_1
 have HC0_1 := aM hc0_1
 clear hr0_1 hc0_1
 have HB := aM (Below.refl w.heap.size w)
 have H : ((spec_ResText.f k a0_0 l0_1).bind fun t139 => (some (t139.toList != ([] : List UInt8)))) = some r := h
 clear h
 obtain ⟨t139, A2, H⟩ := bS H
 try dsimp only at H
 obtain rfl := Option.some.inj H
 go_enter Tryd.func12, Tryd.ntmps12
 go_wp2_with (first | ((with_reducible refine gate_dst (N := 1) rfl ?_); refine bx 1 #[.int .i64 a0_0, .slice A0_1 l0_1.length c0_1] 27 ?_; intro gb138 hg w3 hbox hb; have BK138 := aM (hbox); have GW138 := aM ((gz hg HB.out)); have IGW138 : Nonempty _ := ⟨GW138.out⟩; have GE138 := aM ((gz hg HB.out)); have IGE138 : Nonempty _ := ⟨GE138.out⟩; replace HB := aM (bj HB.out hb); clear hb hbox hg; obtain ⟨hcz4_0, hcz4_1, hfz4_0, hfz4_1⟩ := cf2 BK138.out) | ((with_reducible refine gate_callee (f := 8) rfl ?_); refine gL (some 4) Tryd.func8 #[.agg #[.int .i64 a0_0, .slice A0_1 l0_1.length c0_1]] ?_; (with_reducible refine (spec_ResText.calls k a0_0 _ _ l0_1 t139 _ ?side1 ?side2 A2.out).mono ?_); (case side1 => exact lC <| (Kd.C_below HR0_1.out HB.out)); (case side2 => exact HC0_1.out); rintro e w5 ⟨rfl, hb⟩; refine ⟨_, rfl, ?_⟩; replace BK138 := aM (bb BK138.out hb); replace HB := aM (bj HB.out hb); (try clear hb)))
 go_ret
 exact ⟨by first | exact er | (have hl_ : (t139.toList != ([] : List UInt8)) = !t139.toList.isEmpty := (by cases t139.toList <;> rfl); rw [hl_]; first | done | rfl | simp), by exact jB HB.out⟩

/-! ### impl_in: function 26 -/
def impl_in.f (a0 : Int) (a1 : Int) (a2 : Int) : Option (Bool) := if a0 ≥ a1 then (some (decide (a0 ≤ a2))) else (some false)
theorem impl_in.calls (a0 : Int) (a1 : Int) (a2 : Int) (r : Bool) (w : World) (h : impl_in.f a0 a1 a2 = some r) :
  Calls Tryd.prog 26 #[.int .i64 a0, .int .i64 a1, .int .i64 a2] w fun e w' => e = .returned (.bool r) ∧ Drawn0 w w' := by
 have H : (if a0 ≥ a1 then (some (decide (a0 ≤ a2))) else (some false)) = some r := h
 clear h
 by_cases c4 : a0 ≥ a1
 ·rw [if_pos c4] at H
  have c4b0 := decide_eq_true c4
  clear c4
  obtain rfl := Option.some.inj H
  go_enter Tryd.func26, Tryd.ntmps26
  go_wp2
  go_ret
  exact ⟨by first | rfl | (simp; done) | (simp [*]; done), by repeat (first | exact Drawn0.refl _ | apply Drawn0.step)⟩
 ·rw [if_neg c4] at H
  have c4b0 := decide_eq_false c4
  clear c4
  obtain rfl := Option.some.inj H
  go_enter Tryd.func26, Tryd.ntmps26
  go_wp2
  go_ret
  exact ⟨by first | rfl | (simp; done) | (simp [*]; done), by repeat (first | exact Drawn0.refl _ | apply Drawn0.step)⟩

-- NOT PRINTED: function 51 (slices_IndexFunc_int_int)

-- NOT PRINTED: function 42 (slices_ContainsFunc_int_int)

-- NOT PRINTED: function 43 (impl_within_1)

/-! ### impl_within: function 27, by hand -/
set_option maxHeartbeats 1000000 in
theorem idx_ints (q : Int → Bool) (g : Nat) (lb : Array Value) (eg : ∀ args w, (callFunc g args).run Tryd.prog w = .ok (.enter g args) w) (A0 : Option Addr) (c0 : Nat) (xs : List Int) (w : World)
  (hr : Kd.C (Kd.int .i64) w A0 xs.length xs) (hp : ∀ x, x ∈ xs → ∀ W : World, Below w.heap.size w W → Calls Tryd.prog g (#[.int .i64 x] ++ lb) W fun e w' => e = .returned (.bool (q x)) ∧ Below W.heap.size W w') :
  Calls Tryd.prog 51 #[.slice A0 xs.length c0, .func (.func g) #[] lb] w fun e w' => e = .returned (.int .i64 (idxOf q xs)) ∧ Below w.heap.size w w' := by
 have hm := Kd.C_max hr
 have HR := aM hr
 have HP := aM hp
 clear hr hp
 go_enter Tryd.func51, Tryd.ntmps51
 go_wp2
 go_loopg [5, 8] xs.length (fun gg _ s8 wr => ∃ x : Int, s8 = .int .i64 x ∧ Aside0 (0 ≤ x ∧ x ≤ xs.length ∧ (xs.length : Int) - x ≤ gg) ∧ Aside0 (Below w.heap.size w wr) ∧ Aside0 (∀ j : Int, 0 ≤ j → j < x → q (xs.getD j.toNat 0) = false))
 case atStart => exact ⟨0, rfl, ⟨by omega, by omega, by omega⟩, ⟨Below.refl _ _⟩, ⟨fun j h0 h1 => by omega⟩⟩
 case round =>
  obtain ⟨x, rfl, HX, HB, HN⟩ := hrel
  have p1 := HX.out.1
  by_cases hlt : x < (xs.length : Int)
  ·obtain ⟨ad, e1, hx⟩ := Kd.at_int (Kd.C_below HR.out HB.out) x p1 hlt
   cases e1
   have hcall := HP.out (rd xs x) (mem_rd 0 xs x p1 hlt) _ HB.out
   cases hq : q (rd xs x) with
   | true =>
    rw [hq] at hcall
    have HQ := aM hq
    clear hq
    have HC := aM hcall
    clear hcall
    go_wp2_with (go_at_fn g; refine HC.out.mono ?_; rintro e w' ⟨rfl, hb⟩)
    go_ret
    refine ⟨?_, below_then HB.out HB.out.size hb⟩
    rw [idxOf_hit 0 x p1 hlt HQ.out HN.out]
    rfl
   | false =>
    rw [hq] at hcall
    have HQ := aM hq
    clear hq
    have HC := aM hcall
    clear hcall
    go_wp2_with (go_at_fn g; refine HC.out.mono ?_; rintro e w' ⟨rfl, hb⟩)
    go_roundg (xs.length - (x.toNat + 1))
    case measure => have := HX.out; omega
    case rel =>
     refine ⟨x + 1, by go_num, ⟨by have := HX.out; omega, by have := HX.out; omega, by have := HX.out; omega⟩, ⟨below_then HB.out HB.out.size hb⟩, ⟨fun j h0 h1 => ?_⟩⟩
     by_cases e : j = x
     ·subst e; exact HQ.out
     ·exact HN.out j h0 (by omega)
  ·go_wp2
   go_ret
   refine ⟨?_, HB.out⟩
   rw [idxOf_miss 0 (fun j h0 h1 => HN.out j h0 (by have := HX.out; omega))]
   rfl
set_option maxHeartbeats 1000000 in
theorem has_ints (q : Int → Bool) (g : Nat) (lb : Array Value) (eg : ∀ args w, (callFunc g args).run Tryd.prog w = .ok (.enter g args) w) (A0 : Option Addr) (c0 : Nat) (xs : List Int) (w : World)
  (hr : Kd.C (Kd.int .i64) w A0 xs.length xs) (hp : ∀ x, x ∈ xs → ∀ W : World, Below w.heap.size w W → Calls Tryd.prog g (#[.int .i64 x] ++ lb) W fun e w' => e = .returned (.bool (q x)) ∧ Below W.heap.size W w') :
  Calls Tryd.prog 42 #[.slice A0 xs.length c0, .func (.func g) #[] lb] w fun e w' => e = .returned (.bool (xs.any q)) ∧ Below w.heap.size w w' := by
 have HC := aM (idx_ints q g lb eg A0 c0 xs w hr hp)
 rw [← idxOf_any q xs]
 generalize idxOf q xs = n at HC
 clear hr hp
 go_enter Tryd.func42, Tryd.ntmps42
 go_wp2_with (go_at_call 51; refine HC.out.mono ?_; rintro e w' ⟨rfl, hb⟩)
 go_ret
 exact ⟨rfl, hb⟩
def inB (n lo hi : Int) : Bool := decide (lo ≤ n) && decide (n ≤ hi)
theorem in_inB (n lo hi : Int) : impl_in.f n lo hi = some (inB n lo hi) := by
 unfold impl_in.f inB
 by_cases h : n ≥ lo
 ·rw [if_pos h]; simp [h]
 ·rw [if_neg h]; simp [h]
set_option maxHeartbeats 1000000 in
theorem within_pred (most : Int) (B : Nat) (W : World) (x : Int) (hc : W.cell? ⟨B, 0, none⟩ = some (.int .i64 most)) :
  Calls Tryd.prog 43 (#[.int .i64 x] ++ #[.pointer (some ⟨B, 0, none⟩)]) W fun e w' => e = .returned (.bool (!inB x (wrap64 (-most)) most)) ∧ Below W.heap.size W w' := by
 show Calls Tryd.prog 43 #[.int .i64 x, .pointer (some ⟨B, 0, none⟩)] W _
 have HI := aM (impl_in.calls x (wrap64 (-most)) most (inB x (wrap64 (-most)) most) W (in_inB _ _ _))
 go_enter Tryd.func43, Tryd.ntmps43
 go_wp2_with (go_at_call 26; refine HI.out.mono ?_; rintro e w' ⟨rfl, hd⟩)
 go_ret
 exact ⟨rfl, hd.below⟩
def impl_within.f (l0 : List Int) (a1 : Int) (a2 : Int) : Option (Bool) := some (decide ((l0.length : Int) = a1) && !(l0.any fun x => !inB x (wrap64 (-a2)) a2))
theorem impl_within.calls (A0 : Option Addr) (c0 : Nat) (l0 : List Int) (a1 : Int) (a2 : Int) (r : Bool) (w : World) (hr0 : Kd.C (Kd.int .i64) w A0 l0.length l0) (hc0 : l0.length ≤ c0) (h : impl_within.f l0 a1 a2 = some r) :
  Calls Tryd.prog 27 #[.slice A0 l0.length c0, .int .i64 a1, .int .i64 a2] w fun e w' => e = .returned (.bool r) ∧ Below w.heap.size w w' := by
 obtain rfl := Option.some.inj h
 clear h
 have eg : ∀ args w, (callFunc 43 args).run Tryd.prog w = .ok (.enter 43 args) w := enters_of Tryd.func43 (by kernel_rfl) rfl
 have HC := aM (has_ints (fun x => !inB x (wrap64 (-a2)) a2) 43 #[.pointer (some ⟨w.heap.size, 0, none⟩)] eg A0 c0 l0 (w.alloc (.cells #[.int .i64 a2] 3)) (Kd.C_alloc hr0 _)
  (fun x _ W hb => within_pred a2 w.heap.size W x ((hb.cell (p := ⟨w.heap.size, 0, none⟩) (by simp)).trans (by simp))))
 clear hr0
 by_cases hn : (l0.length : Int) = a1
 ·have hb1 : ((l0.length : Int) == a1) = true := beq_iff_eq.mpr hn
  have hd : decide ((l0.length : Int) = a1) = true := decide_eq_true hn
  rw [hd]
  clear hn hd
  generalize l0.any (fun x => !inB x (wrap64 (-a2)) a2) = b at HC
  go_enter Tryd.func27, Tryd.ntmps27
  go_wp2_with (go_at_call 42; refine HC.out.mono ?_; rintro e w' ⟨rfl, hb⟩)
  go_ret
  exact ⟨by simp, below_then (below_alloc (Below.refl _ _) _) (by simp) hb⟩
 ·have hb1 : ((l0.length : Int) == a1) = false := beq_eq_false_iff_ne.mpr hn
  have hd : decide ((l0.length : Int) = a1) = false := decide_eq_false hn
  rw [hd]
  clear hn hd HC
  go_enter Tryd.func27, Tryd.ntmps27
  go_wp2
  go_ret
  exact ⟨by simp, below_alloc (Below.refl _ _) _⟩

/-! ### impl_codeWords: function 28 -/
def impl_codeWords.f  : Option (List ByteArray) := some (([(⟨#[]⟩ : ByteArray), (⟨#[100, 111, 110, 101]⟩ : ByteArray), (⟨#[115, 116, 111, 112, 112, 101, 100]⟩ : ByteArray), (⟨#[111, 118, 101, 114]⟩ : ByteArray)] : List ByteArray))
theorem impl_codeWords.calls  (r : List ByteArray) (w : World) (h : impl_codeWords.f  = some r) :
  Calls Tryd.prog 28 #[] w fun e w' => ∃ v0_ : Value, e = .returned (v0_) ∧ Kd.R Kd.string 9 w' w.heap.size (fun _ => True) v0_ r ∧ Below w.heap.size w w' := by
 have HB := aM (Below.refl w.heap.size w)
 have H : (some (([(⟨#[]⟩ : ByteArray), (⟨#[100, 111, 110, 101]⟩ : ByteArray), (⟨#[115, 116, 111, 112, 112, 101, 100]⟩ : ByteArray), (⟨#[111, 118, 101, 114]⟩ : ByteArray)] : List ByteArray))) = some r := h
 clear h
 obtain ⟨y140, hy140⟩ : ∃ y_ : List ByteArray, y_ = (([(⟨#[]⟩ : ByteArray), (⟨#[100, 111, 110, 101]⟩ : ByteArray), (⟨#[115, 116, 111, 112, 112, 101, 100]⟩ : ByteArray), (⟨#[111, 118, 101, 114]⟩ : ByteArray)] : List ByteArray)) := ⟨_, rfl⟩
 replace H : (some y140) = some r := by first | (rw [hy140]; exact H) | exact H
 have Ny140 := aM hy140
 clear hy140
 obtain rfl := Option.some.inj H
 go_enter Tryd.func28, Tryd.ntmps28
 go_wp2_with (first | ((with_reducible refine gate_dst (N := 1) rfl ?_); refine Kd.R_lit Kd.string _ 9 ?hg (N := 1) ?hd (xs := ([(⟨#[]⟩ : ByteArray), (⟨#[100, 111, 110, 101]⟩ : ByteArray), (⟨#[115, 116, 111, 112, 112, 101, 100]⟩ : ByteArray), (⟨#[111, 118, 101, 114]⟩ : ByteArray)] : List ByteArray)) (inner := [.string (⟨#[]⟩ : ByteArray), .string (⟨#[100, 111, 110, 101]⟩ : ByteArray), .string (⟨#[115, 116, 111, 112, 112, 101, 100]⟩ : ByteArray), .string (⟨#[111, 118, 101, 114]⟩ : ByteArray)]) (ok := fun _ => True) (okp := fun _ => True) ?hr ?hp (fun _ hk => hk) trivial (Below.refl _ _) (Nat.le_refl _) (by simp) ?_; (case hd => rfl); (case hg => rfl); (case hr => first | (go_simp; done) | (go_simp; rfl)); (case hp => exact (Reps.one (show Kd.M Kd.string _ _ _ (⟨#[]⟩ : ByteArray) [.string (⟨#[]⟩ : ByteArray)] from rfl) (Reps.one (show Kd.M Kd.string _ _ _ (⟨#[100, 111, 110, 101]⟩ : ByteArray) [.string (⟨#[100, 111, 110, 101]⟩ : ByteArray)] from rfl) (Reps.one (show Kd.M Kd.string _ _ _ (⟨#[115, 116, 111, 112, 112, 101, 100]⟩ : ByteArray) [.string (⟨#[115, 116, 111, 112, 112, 101, 100]⟩ : ByteArray)] from rfl) (Reps.one (show Kd.M Kd.string _ _ _ (⟨#[111, 118, 101, 114]⟩ : ByteArray) [.string (⟨#[111, 118, 101, 114]⟩ : ByteArray)] from rfl) (Reps.none _ _)))))); intro v141 w1 ho2 hb hg_ hnew_; clear hg_ hnew_; (first | rw [← Ny140.out] at ho2 | (simp only [Int.reduceToNat] at ho2; rw [← Ny140.out] at ho2)); have HO142 := aM (Kd.R_lower ho2 (below_size (by exact lB HB.out))); replace HB := aM (bj HB.out hb); clear hb ho2))
 go_ret
 exact ⟨_, er, by exact lR <| HO142.out, by exact lB HB.out⟩

-- NOT PRINTED: function 59 (abi_NoEscape)

-- NOT PRINTED: function 52 (strings_Builder_copyCheck)

-- NOT PRINTED: function 44 (strings_Builder_WriteString)

-- NOT PRINTED: function 68 (strconv_small)

-- NOT PRINTED: function 83 (strconv_log10Pow2)

-- NOT PRINTED: function 84 (bits_Len64)

-- NOT PRINTED: function 85 (strconv_bool2_int)

-- NOT PRINTED: function 69 (strconv_numDigits)

-- NOT PRINTED: function 70 (strconv_formatBase10)

-- NOT PRINTED: function 86 (strconv_isPowerOfTwo)

-- NOT PRINTED: function 93 (bits_TrailingZeros32)

-- NOT PRINTED: function 94 (bits_TrailingZeros64)

-- NOT PRINTED: function 87 (bits_TrailingZeros)

-- NOT PRINTED: function 71 (strconv_formatBits)

-- NOT PRINTED: function 60 (strconv_FormatInt)

-- NOT PRINTED: function 53 (strconv_Itoa_53)

-- NOT PRINTED: function 45 (strconv_Itoa_45)

-- NOT PRINTED: function 46 (strings_Builder_String)

/-! ### impl_joined: function 29, by hand -/
/-- Behind a call the region may be told to keep more than ahead of it. -/
theorem stronger_ {P : Program} {md : Region.Mode} {ops : Array Oper} {Q : Exit → Act → World → Prop} {S S2 : World → Prop} (hs : ∀ w, S2 w → S w) :
  ∀ (fuel : Nat) (l : Array Bool) (a : Act) (w : World), S2 w → wpAnyLast P md ops Q S2 [] fuel l a w → wpAnyLast P md ops Q S [] fuel l a w
 | 0, _, _, _, _, h => h
 | fuel + 1, _, _, _, h2, h => ⟨h.1, fun i hi => wpOp_mono (fun a' w' h' => ⟨fun _ _ => hs _ (h'.1 (by simp) h2), stronger_ hs fuel _ a' w' (h'.1 (by simp) h2) h'.2⟩) (h.2 i hi)⟩
def joinedL (l : List Int) : List UInt8 := (l.map fun n => 32 :: Go.Lib.itoa n).flatten
theorem joinedL_snoc (l : List Int) (n : Int) : joinedL (l ++ [n]) = joinedL l ++ (32 :: Go.Lib.itoa n) := by simp [joinedL]
theorem joinedL_len (l : List Int) (h : ∀ x ∈ l, -9223372036854775808 ≤ x ∧ x ≤ 9223372036854775807) : (joinedL l).length ≤ 22 * l.length := by
 induction l with
 | nil => simp [joinedL]
 | cons a l ih =>
  have h1 := Go.Lib.itoa_length_le a (h a (by simp)).1 (h a (by simp)).2
  have h2 := ih (fun x hx => h x (by simp [hx]))
  simp only [joinedL, List.map_cons, List.flatten_cons, List.length_append, List.length_cons] at *
  omega
theorem isB_grow {T e : TypeId} {B b : Nat} {bs : List Value} {w : World} (h : Go.Lib.IsBuilder T e B b bs w) (k : Nat) (os : Array Obj) : Go.Lib.IsBuilder T e B b bs (Go.Sort.grow (w.drewN k) os) := by
 have go : ∀ p, Go.Lib.BuilderAt T e B b p bs w → Go.Lib.BuilderAt T e B b p bs (Go.Sort.grow (w.drewN k) os) := by
  intro p hp
  have hlt := hp.lt
  obtain ⟨hB, v, hb, hown, hne⟩ := hp
  refine ⟨hB, v, (Go.Sort.heap_grow_old (w.drewN k) os (by exact hlt)).trans hb, hown.kept (row := none) ⟨rfl, rfl, rfl, by simp [Go.Sort.grow, World.drewN], fun j hj _ => Go.Sort.heap_grow_old (w.drewN k) os (by exact hj)⟩ ?_, hne⟩
  cases v.ownBlock with
  | none => exact .inl rfl
  | some _ => exact .inr (by simp)
 rcases h with h | h
 ·exact .inl (go _ h)
 ·exact .inr (go _ h)
theorem below_grown {B : Nat} {w0 w : World} (h : Below B w0 w) (hB : B ≤ w.heap.size) (k : Nat) (os : Array Obj) : Below B w0 (Go.Sort.grow (w.drewN k) os) :=
 ⟨h.os, h.tape, h.output, Nat.le_trans h.size (by simp [Go.Sort.grow, World.drewN]), fun j hj => (Go.Sort.heap_grow_old (w.drewN k) os (Nat.lt_of_lt_of_le hj hB)).trans (h.block j hj)⟩
theorem take_snoc (d : Int) (l : List Int) (x : Int) (h0 : 0 ≤ x) (h : x < (l.length : Int)) : l.take (x + 1).toNat = l.take x.toNat ++ [rd l x] := by
 have e : (x + 1).toNat = x.toNat + 1 := by omega
 rw [e, List.take_add_one, List.getElem?_eq_getElem (by omega)]
 simp only [Option.toList_some]
 congr 2
 unfold rd
 simp [List.getD_eq_getElem?_getD, List.getElem?_eq_getElem (show x.toNat < l.length by omega)]
theorem inB_of (l : List Int) (lo hi : Int) (h : (l.all fun x => inB x lo hi) = true) (x : Int) (hx : x ∈ l) : lo ≤ x ∧ x ≤ hi := by
 have := List.all_eq_true.mp h x hx
 simpa [inB] using this
def impl_joined.f (l0 : List Int) : Option (ByteArray) := if l0.length ≤ 6 ∧ (l0.all fun x => inB x (-999999999999) 999999999999) = true then some ⟨(joinedL l0).toArray⟩ else none
theorem impl_joined.calls (A0 : Option Addr) (c0 : Nat) (l0 : List Int) (r : ByteArray) (w : World) (hr0 : Kd.C (Kd.int .i64) w A0 l0.length l0) (hc0 : l0.length ≤ c0) (h : impl_joined.f l0 = some r) (htab : Go.Lib.TabIs Tryd.prog w "internal/strconv.uint64pow10" .u64 Go.Lib.pow10Tab) :
  Calls Tryd.prog 29 #[.slice A0 l0.length c0] w fun e w' => e = .returned (.string r) ∧ Below w.heap.size w w' := by
 unfold impl_joined.f at h
 by_cases hL : l0.length ≤ 6 ∧ (l0.all fun x => inB x (-999999999999) 999999999999) = true
 case neg => rw [if_neg hL] at h; exact absurd h (by simp)
 case pos =>
  rw [if_pos hL] at h
  obtain rfl := Option.some.inj h
  clear h
  have hA := inB_of l0 _ _ hL.2
  have hlen := hL.1
  clear hL
  have HT := aM (Go.Lib.tabBelow_of_tabIs htab)
  have HR := aM hr0
  have HA := aM hA
  have HN := aM hlen
  clear htab hr0 hA hlen
  have HF := aM (Go.Lib.fresh_isBuilder 64 5 w)
  go_enter Tryd.func29, Tryd.ntmps29
  go_wp2
  go_loopg [5, 8] l0.length (fun gg _ s8 wr => ∃ x : Int, s8 = .int .i64 x ∧ Aside0 (0 ≤ x ∧ x ≤ l0.length ∧ (l0.length : Int) - x ≤ gg) ∧ Aside0 (Below w.heap.size w wr) ∧ Aside0 (Go.Lib.IsBuilder 64 5 w.heap.size w.heap.size (Go.Lib.byteCells (joinedL (l0.take x.toNat))) wr))
  case atStart => exact ⟨0, rfl, ⟨by omega, by omega, by omega⟩, ⟨below_alloc (Below.refl _ _) _⟩, ⟨HF.out⟩⟩
  case round =>
   obtain ⟨x, rfl, HX, HB, HO⟩ := hrel
   have p1 := HX.out.1
   by_cases hlt : x < (l0.length : Int)
   ·obtain ⟨ad, e1, hx⟩ := Kd.at_int (Kd.C_below HR.out HB.out) x p1 hlt
    cases e1
    have hmem := HA.out (rd l0 x) (mem_rd 0 l0 x p1 hlt)
    have HM := aM hmem
    clear hmem
    have HI := aM (Tryd.strconv_Itoa (rd l0 x) (by have := HM.out; omega) (by have := HM.out; omega))
    have hil := Go.Lib.itoa_length_le (rd l0 x) (by have := HM.out; omega) (by have := HM.out; omega)
    have hs : ((⟨#[32]⟩ : ByteArray).size + (⟨(Go.Lib.itoa (rd l0 x)).toArray⟩ : ByteArray).size ≤ 9223372036854775807) = True := eq_true (by simp [ByteArray.size]; omega)
    have hs2 : decide ((⟨#[32]⟩ : ByteArray).size + (⟨(Go.Lib.itoa (rd l0 x)).toArray⟩ : ByteArray).size ≤ 9223372036854775807) = true := decide_eq_true (of_eq_true hs)
    have HZ : Aside0 ((Go.Lib.byteCells (joinedL (l0.take x.toNat))).length + ((⟨#[32]⟩ : ByteArray) ++ (⟨(Go.Lib.itoa (rd l0 x)).toArray⟩ : ByteArray)).size ≤ 140737488355328) := by
     refine ⟨?_⟩
     have h1 := joinedL_len (l0.take x.toNat) (fun y hy => by have := HA.out y (List.mem_of_mem_take hy); omega)
     have h2 : (l0.take x.toNat).length ≤ 6 := Nat.le_trans (by simp; omega) HN.out
     have h3 : ((⟨#[32]⟩ : ByteArray) ++ (⟨(Go.Lib.itoa (rd l0 x)).toArray⟩ : ByteArray)).size = 1 + (Go.Lib.itoa (rd l0 x)).length := by rw [ByteArray.size_append]; simp [ByteArray.size]
     rw [Go.Lib.byteCells_length, h3]
     omega
    go_wp2_with (first
     | (go_at_call 45; refine (HI.out _ (HT.out _ HB.out)).mono ?_; rintro e w' ⟨rfl, kk, os, rfl⟩; have HB2 := aM (below_grown HB.out HB.out.size kk os); have HO2 := aM (isB_grow HO.out kk os))
     | (go_at_call 44; refine (Tryd.Builder_WriteString w.heap.size w.heap.size _ _ _ HO2.out (HZ.out) HB2.out.size).mono ?_; rintro e w3 ⟨rfl, hb3, hn3⟩; have HB3 := aM (HB2.out.trans hn3); have HO3 := aM hb3; clear hb3 hn3))
    go_roundg (l0.length - (x.toNat + 1))
    case measure => have := HX.out; omega
    case rel =>
     refine ⟨x + 1, congrArg _ (by have := HN.out; have := HX.out; unfold wrap64; omega), ⟨by have := HX.out; omega, by have := HX.out; omega, by have := HX.out; omega⟩, ⟨HB3.out⟩, ⟨?_⟩⟩
     refine .inr ?_
     have h3 := HO3.out
     rw [Go.Lib.strCells_eq, ← Go.Lib.byteCells_append] at h3
     have e2 : joinedL (l0.take (x + 1).toNat) = joinedL (l0.take x.toNat) ++ ((⟨#[32]⟩ : ByteArray) ++ (⟨(Go.Lib.itoa (rd l0 x)).toArray⟩ : ByteArray)).data.toList := by
      rw [take_snoc 0 l0 x p1 hlt, joinedL_snoc]
      simp
     rw [e2]
     exact h3
   ·have e3 : l0.take x.toNat = l0 := List.take_of_length_le (by have := HX.out; omega)
    have ho := HO.out
    rw [e3] at ho
    have HO4 := aM ho
    clear ho e3
    go_wp2_with (go_at_call 46; refine (Tryd.Builder_String_any w.heap.size w.heap.size (joinedL l0) _ HO4.out HB.out.size).mono ?_; rintro e w4 ⟨rfl, hn4⟩; have HB4 := aM (HB.out.trans hn4); clear hn4)
    go_ret
    exact ⟨rfl, HB4.out⟩

end Go.Proofs.YtcafmfmlnfaogaaDoor.QFnExactResOk

-- shorter
