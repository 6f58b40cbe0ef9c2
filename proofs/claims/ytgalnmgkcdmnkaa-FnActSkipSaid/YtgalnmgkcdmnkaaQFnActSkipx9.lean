/- Plain functions, and that the Go code computes them: written by a program of this session over the seat's translation; the conditions stand in each theorem. -/
import Derived.Test.YtgalnmgkcdmnkaaQFnActSkipx0
import Derived.Test.YtgalnmgkcdmnkaaQFnActSkipx1
import Derived.Test.YtgalnmgkcdmnkaaQFnActSkipx8
namespace Go.Proofs.Ytgalnmgkcdmnkaa.QFnActSkip
open Go.RowKit Go.Proofs.YtgalnmgkcdmnkaaW.PrintWords Go.Proofs.YtgalnmgkcdmnkaaW.PrintLast Go.Proofs.YtgalnmgkcdmnkaaW.PrintMore Go.Proofs.Ytgalnmgkcdmnkaa.HWords
attribute [local go_sem] max2_int min2_int max_two min_two max_three min_three max_four min_four   -- for this text's walks alone
set_option linter.unusedVariables false
set_option linter.unusedSimpArgs false

/-! ### impl_ActLine_ok: function 45 -/
def impl_ActLine_ok.f (k : Nat) (a0_0 : Int) (a0_1 : Int) (a0_2 : Int) (l0_3 : List Int) (l0_4 : List Int) (a0_5 : Int) : Option (Bool) := if a0_0 = 1 then ((impl_in.f a0_2 1 6).bind fun t592 => (if t592 = true then (if a0_1 = 0 then ((impl_FrmForm_small.f l0_3 l0_4 a0_5).bind fun t593 => (some t593)) else (some false)) else (some false))) else (if a0_0 = 2 then ((impl_in.f a0_1 0 2).bind fun t594 => (if t594 = true then (if a0_2 = 0 then ((impl_FrmForm_small.f l0_3 l0_4 a0_5).bind fun t595 => (some t595)) else (some false)) else (some false))) else (if a0_0 = 3 then (if a0_1 = 0 then (if a0_2 = 0 then ((impl_FrmForm_small.f l0_3 l0_4 a0_5).bind fun t596 => (some t596)) else (some false)) else (some false)) else (if a0_0 = 4 then (if a0_1 = 0 then (if a0_2 = 0 then ((impl_FrmForm_same.f k l0_3 l0_4 a0_5 ([] : List Int) ([] : List Int) 0).bind fun t597 => (some t597)) else (some false)) else (some false)) else (some false))))
theorem impl_ActLine_ok.mono : ∀ a0 a1 a2 a3 a4 a5 k, LeO (impl_ActLine_ok.f k a0 a1 a2 a3 a4 a5) (impl_ActLine_ok.f (k + 1) a0 a1 a2 a3 a4 a5) := by
 intro a0 a1 a2 a3 a4 a5 k
 unfold impl_ActLine_ok.f
 repeat' first
   | (with_reducible exact impl_FrmForm_same.mono _ _ _ _ _ _ _)
   | (with_reducible exact LeO.refl _)
   | (with_reducible exact LeO.none _)
   | (with_reducible refine LeO.ite ?_ ?_)
   | (with_reducible refine LeO.bind ?_ (fun _ => ?_))
   | exact LeO.none _
   | refine LeO.ite ?_ ?_
   | refine LeO.bind ?_ (fun _ => ?_)
set_option maxHeartbeats 8000000 in
set_option maxRecDepth 100000 in
theorem impl_ActLine_ok.calls (k : Nat) (a0_0 : Int) (a0_1 : Int) (a0_2 : Int) (A0_3 : Option Addr) (c0_3 : Nat) (l0_3 : List Int) (A0_4 : Option Addr) (c0_4 : Nat) (l0_4 : List Int) (a0_5 : Int) (r : Bool) (w : World) (hr0_3 : Kd.C (Kd.int .i64) w A0_3 l0_3.length l0_3) (hc0_3 : l0_3.length ≤ c0_3) (hr0_4 : Kd.C (Kd.int .i64) w A0_4 l0_4.length l0_4) (hc0_4 : l0_4.length ≤ c0_4) (h : impl_ActLine_ok.f k a0_0 a0_1 a0_2 l0_3 l0_4 a0_5 = some r) :
  Calls Try.prog 45 #[.agg #[.int .i64 a0_0, .int .i64 a0_1, .int .i64 a0_2, .slice A0_3 l0_3.length c0_3, .slice A0_4 l0_4.length c0_4, .int .i64 a0_5]] w fun e w' => e = .returned (.bool r) ∧ Below w.heap.size w w' := by
 have hu45 := Try.underlying45
 have hu43 := Try.underlying43
 have HR0_3 := Aside0.mk hr0_3
 have HC0_3 := Aside0.mk hc0_3
 clear hr0_3 hc0_3
 have HR0_4 := Aside0.mk hr0_4
 have HC0_4 := Aside0.mk hc0_4
 clear hr0_4 hc0_4
 have HB := Aside0.mk (Below.refl w.heap.size w)
 have H : (if a0_0 = 1 then ((impl_in.f a0_2 1 6).bind fun t592 => (if t592 = true then (if a0_1 = 0 then ((impl_FrmForm_small.f l0_3 l0_4 a0_5).bind fun t593 => (some t593)) else (some false)) else (some false))) else (if a0_0 = 2 then ((impl_in.f a0_1 0 2).bind fun t594 => (if t594 = true then (if a0_2 = 0 then ((impl_FrmForm_small.f l0_3 l0_4 a0_5).bind fun t595 => (some t595)) else (some false)) else (some false))) else (if a0_0 = 3 then (if a0_1 = 0 then (if a0_2 = 0 then ((impl_FrmForm_small.f l0_3 l0_4 a0_5).bind fun t596 => (some t596)) else (some false)) else (some false)) else (if a0_0 = 4 then (if a0_1 = 0 then (if a0_2 = 0 then ((impl_FrmForm_same.f k l0_3 l0_4 a0_5 ([] : List Int) ([] : List Int) 0).bind fun t597 => (some t597)) else (some false)) else (some false)) else (some false))))) = some r := h
 clear h
 by_cases c2 : a0_0 = 1
 ·rw [if_pos c2] at H
  have c2b0 := beq_iff_eq.mpr c2
  have c2b1 := bne_eq_false_iff_eq.mpr c2
  clear c2
  obtain ⟨t592, A3, H⟩ := bS H
  try dsimp only at H
  by_cases c4 : t592 = true
  ·subst c4
   have H1 : (if a0_1 = 0 then ((impl_FrmForm_small.f l0_3 l0_4 a0_5).bind fun t593 => (some t593)) else (some false)) = some r := by rw [if_pos rfl] at H; exact H
   clear H
   have H := H1
   clear H1
   by_cases c5 : a0_1 = 0
   ·rw [if_pos c5] at H
    have c5b0 := beq_iff_eq.mpr c5
    have c5b1 := bne_eq_false_iff_eq.mpr c5
    clear c5
    obtain ⟨t593, A6, H⟩ := bS H
    try dsimp only at H
    obtain rfl := Option.some.inj H
    go_enter Try.func45, Try.ntmps45
    go_wp2_with (first | ((with_reducible refine gate_dst (N := 1) rfl ?_); refine bx 1 #[.int .i64 a0_0, .int .i64 a0_1, .int .i64 a0_2, .slice A0_3 l0_3.length c0_3, .slice A0_4 l0_4.length c0_4, .int .i64 a0_5] 45 ?_; intro gb591 hg w7 hbox hb; have BK591 := Aside0.mk (hbox); have GW591 := Aside0.mk ((gz hg HB.out)); have IGW591 : Nonempty _ := ⟨GW591.out⟩; have GE591 := Aside0.mk ((gz hg HB.out)); have IGE591 : Nonempty _ := ⟨GE591.out⟩; replace HB := Aside0.mk (bj HB.out hb); clear hb hbox hg; obtain ⟨hcz8_0, hcz8_1, hcz8_2, hcz8_3, hcz8_4, hcz8_5, hfz8_0, hfz8_1, hfz8_2, hfz8_3, hfz8_4, hfz8_5⟩ := cf6 BK591.out) | ((with_reducible refine gate_callee (f := 23) rfl ?_); refine gL (some 9) Try.func23 #[.int .i64 a0_2, .int .i64 1, .int .i64 6] ?_; (with_reducible refine (impl_in.calls a0_2 1 6 true _ A3.out).mono ?_); rintro e w' ⟨rfl, ⟨nd, rfl⟩⟩; refine ⟨_, rfl, ?_⟩) | (go_at_call 58; (with_reducible refine (impl_FrmForm_small.calls _ _ l0_3 _ _ l0_4 a0_5 t593 _ ?side1 ?side2 ?side3 ?side4 A6.out).mono ?_); (case side1 => repeat (first | exact (Kd.C_below HR0_3.out (by exact jB HB.out)) | (with_reducible refine Kd.C_alloc ?_ _) | (with_reducible refine Kd.C_drewN ?_ _) | (with_reducible refine Kd.C_drew ?_))); (case side2 => exact HC0_3.out); (case side3 => repeat (first | exact (Kd.C_below HR0_4.out (by exact jB HB.out)) | (with_reducible refine Kd.C_alloc ?_ _) | (with_reducible refine Kd.C_drewN ?_ _) | (with_reducible refine Kd.C_drew ?_))); (case side4 => exact HC0_4.out); rintro e w9 ⟨rfl, hb⟩; replace BK591 := Aside0.mk (bb BK591.out hb); replace HB := Aside0.mk (bj HB.out hb); (try clear hb)))
    go_ret
    exact ⟨by first | rfl | (simp [errW_none, errW_some] <;> rfl) | (simp [*, errW_none, errW_some] <;> rfl), by exact jB HB.out⟩
   ·rw [if_neg c5] at H
    have c5b0 := beq_eq_false_iff_ne.mpr c5
    have c5b1 := bne_iff_ne.mpr c5
    obtain rfl := Option.some.inj H
    go_enter Try.func45, Try.ntmps45
    go_wp2_with (first | ((with_reducible refine gate_dst (N := 1) rfl ?_); refine bx 1 #[.int .i64 a0_0, .int .i64 a0_1, .int .i64 a0_2, .slice A0_3 l0_3.length c0_3, .slice A0_4 l0_4.length c0_4, .int .i64 a0_5] 45 ?_; intro gb591 hg w10 hbox hb; have BK591 := Aside0.mk (hbox); have GW591 := Aside0.mk ((gz hg HB.out)); have IGW591 : Nonempty _ := ⟨GW591.out⟩; have GE591 := Aside0.mk ((gz hg HB.out)); have IGE591 : Nonempty _ := ⟨GE591.out⟩; replace HB := Aside0.mk (bj HB.out hb); clear hb hbox hg; obtain ⟨hcz11_0, hcz11_1, hcz11_2, hcz11_3, hcz11_4, hcz11_5, hfz11_0, hfz11_1, hfz11_2, hfz11_3, hfz11_4, hfz11_5⟩ := cf6 BK591.out) | ((with_reducible refine gate_callee (f := 23) rfl ?_); refine gL (some 9) Try.func23 #[.int .i64 a0_2, .int .i64 1, .int .i64 6] ?_; (with_reducible refine (impl_in.calls a0_2 1 6 true _ A3.out).mono ?_); rintro e w' ⟨rfl, ⟨nd, rfl⟩⟩; refine ⟨_, rfl, ?_⟩))
    go_ret
    exact ⟨by first | rfl | (simp [errW_none, errW_some] <;> rfl) | (simp [*, errW_none, errW_some] <;> rfl), by exact jB HB.out⟩
  ·replace c4 := Bool.eq_false_iff.mpr c4
   subst c4
   have H1 : (some false) = some r := by rw [if_neg (show ¬ (false = true) by decide)] at H; exact H
   clear H
   have H := H1
   clear H1
   obtain rfl := Option.some.inj H
   go_enter Try.func45, Try.ntmps45
   go_wp2_with (first | ((with_reducible refine gate_dst (N := 1) rfl ?_); refine bx 1 #[.int .i64 a0_0, .int .i64 a0_1, .int .i64 a0_2, .slice A0_3 l0_3.length c0_3, .slice A0_4 l0_4.length c0_4, .int .i64 a0_5] 45 ?_; intro gb591 hg w12 hbox hb; have BK591 := Aside0.mk (hbox); have GW591 := Aside0.mk ((gz hg HB.out)); have IGW591 : Nonempty _ := ⟨GW591.out⟩; have GE591 := Aside0.mk ((gz hg HB.out)); have IGE591 : Nonempty _ := ⟨GE591.out⟩; replace HB := Aside0.mk (bj HB.out hb); clear hb hbox hg; obtain ⟨hcz13_0, hcz13_1, hcz13_2, hcz13_3, hcz13_4, hcz13_5, hfz13_0, hfz13_1, hfz13_2, hfz13_3, hfz13_4, hfz13_5⟩ := cf6 BK591.out) | ((with_reducible refine gate_callee (f := 23) rfl ?_); refine gL (some 9) Try.func23 #[.int .i64 a0_2, .int .i64 1, .int .i64 6] ?_; (with_reducible refine (impl_in.calls a0_2 1 6 false _ A3.out).mono ?_); rintro e w' ⟨rfl, ⟨nd, rfl⟩⟩; refine ⟨_, rfl, ?_⟩))
   go_ret
   exact ⟨by first | rfl | (simp [errW_none, errW_some] <;> rfl) | (simp [*, errW_none, errW_some] <;> rfl), by exact jB HB.out⟩
 ·rw [if_neg c2] at H
  have c2b0 := beq_eq_false_iff_ne.mpr c2
  have c2b1 := bne_iff_ne.mpr c2
  by_cases c14 : a0_0 = 2
  ·rw [if_pos c14] at H
   have c14b0 := beq_iff_eq.mpr c14
   have c14b1 := bne_eq_false_iff_eq.mpr c14
   clear c14
   obtain ⟨t594, A15, H⟩ := bS H
   try dsimp only at H
   by_cases c16 : t594 = true
   ·subst c16
    have H1 : (if a0_2 = 0 then ((impl_FrmForm_small.f l0_3 l0_4 a0_5).bind fun t595 => (some t595)) else (some false)) = some r := by rw [if_pos rfl] at H; exact H
    clear H
    have H := H1
    clear H1
    by_cases c17 : a0_2 = 0
    ·rw [if_pos c17] at H
     have c17b0 := beq_iff_eq.mpr c17
     have c17b1 := bne_eq_false_iff_eq.mpr c17
     clear c17
     obtain ⟨t595, A18, H⟩ := bS H
     try dsimp only at H
     obtain rfl := Option.some.inj H
     go_enter Try.func45, Try.ntmps45
     go_wp2_with (first | ((with_reducible refine gate_dst (N := 1) rfl ?_); refine bx 1 #[.int .i64 a0_0, .int .i64 a0_1, .int .i64 a0_2, .slice A0_3 l0_3.length c0_3, .slice A0_4 l0_4.length c0_4, .int .i64 a0_5] 45 ?_; intro gb591 hg w19 hbox hb; have BK591 := Aside0.mk (hbox); have GW591 := Aside0.mk ((gz hg HB.out)); have IGW591 : Nonempty _ := ⟨GW591.out⟩; have GE591 := Aside0.mk ((gz hg HB.out)); have IGE591 : Nonempty _ := ⟨GE591.out⟩; replace HB := Aside0.mk (bj HB.out hb); clear hb hbox hg; obtain ⟨hcz20_0, hcz20_1, hcz20_2, hcz20_3, hcz20_4, hcz20_5, hfz20_0, hfz20_1, hfz20_2, hfz20_3, hfz20_4, hfz20_5⟩ := cf6 BK591.out) | ((with_reducible refine gate_callee (f := 23) rfl ?_); refine gL (some 24) Try.func23 #[.int .i64 a0_1, .int .i64 0, .int .i64 2] ?_; (with_reducible refine (impl_in.calls a0_1 0 2 true _ A15.out).mono ?_); rintro e w' ⟨rfl, ⟨nd, rfl⟩⟩; refine ⟨_, rfl, ?_⟩) | (go_at_call 58; (with_reducible refine (impl_FrmForm_small.calls _ _ l0_3 _ _ l0_4 a0_5 t595 _ ?side1 ?side2 ?side3 ?side4 A18.out).mono ?_); (case side1 => repeat (first | exact (Kd.C_below HR0_3.out (by exact jB HB.out)) | (with_reducible refine Kd.C_alloc ?_ _) | (with_reducible refine Kd.C_drewN ?_ _) | (with_reducible refine Kd.C_drew ?_))); (case side2 => exact HC0_3.out); (case side3 => repeat (first | exact (Kd.C_below HR0_4.out (by exact jB HB.out)) | (with_reducible refine Kd.C_alloc ?_ _) | (with_reducible refine Kd.C_drewN ?_ _) | (with_reducible refine Kd.C_drew ?_))); (case side4 => exact HC0_4.out); rintro e w21 ⟨rfl, hb⟩; replace BK591 := Aside0.mk (bb BK591.out hb); replace HB := Aside0.mk (bj HB.out hb); (try clear hb)))
     go_ret
     exact ⟨by first | rfl | (simp [errW_none, errW_some] <;> rfl) | (simp [*, errW_none, errW_some] <;> rfl), by exact jB HB.out⟩
    ·rw [if_neg c17] at H
     have c17b0 := beq_eq_false_iff_ne.mpr c17
     have c17b1 := bne_iff_ne.mpr c17
     obtain rfl := Option.some.inj H
     go_enter Try.func45, Try.ntmps45
     go_wp2_with (first | ((with_reducible refine gate_dst (N := 1) rfl ?_); refine bx 1 #[.int .i64 a0_0, .int .i64 a0_1, .int .i64 a0_2, .slice A0_3 l0_3.length c0_3, .slice A0_4 l0_4.length c0_4, .int .i64 a0_5] 45 ?_; intro gb591 hg w22 hbox hb; have BK591 := Aside0.mk (hbox); have GW591 := Aside0.mk ((gz hg HB.out)); have IGW591 : Nonempty _ := ⟨GW591.out⟩; have GE591 := Aside0.mk ((gz hg HB.out)); have IGE591 : Nonempty _ := ⟨GE591.out⟩; replace HB := Aside0.mk (bj HB.out hb); clear hb hbox hg; obtain ⟨hcz23_0, hcz23_1, hcz23_2, hcz23_3, hcz23_4, hcz23_5, hfz23_0, hfz23_1, hfz23_2, hfz23_3, hfz23_4, hfz23_5⟩ := cf6 BK591.out) | ((with_reducible refine gate_callee (f := 23) rfl ?_); refine gL (some 24) Try.func23 #[.int .i64 a0_1, .int .i64 0, .int .i64 2] ?_; (with_reducible refine (impl_in.calls a0_1 0 2 true _ A15.out).mono ?_); rintro e w' ⟨rfl, ⟨nd, rfl⟩⟩; refine ⟨_, rfl, ?_⟩))
     go_ret
     exact ⟨by first | rfl | (simp [errW_none, errW_some] <;> rfl) | (simp [*, errW_none, errW_some] <;> rfl), by exact jB HB.out⟩
   ·replace c16 := Bool.eq_false_iff.mpr c16
    subst c16
    have H1 : (some false) = some r := by rw [if_neg (show ¬ (false = true) by decide)] at H; exact H
    clear H
    have H := H1
    clear H1
    obtain rfl := Option.some.inj H
    go_enter Try.func45, Try.ntmps45
    go_wp2_with (first | ((with_reducible refine gate_dst (N := 1) rfl ?_); refine bx 1 #[.int .i64 a0_0, .int .i64 a0_1, .int .i64 a0_2, .slice A0_3 l0_3.length c0_3, .slice A0_4 l0_4.length c0_4, .int .i64 a0_5] 45 ?_; intro gb591 hg w24 hbox hb; have BK591 := Aside0.mk (hbox); have GW591 := Aside0.mk ((gz hg HB.out)); have IGW591 : Nonempty _ := ⟨GW591.out⟩; have GE591 := Aside0.mk ((gz hg HB.out)); have IGE591 : Nonempty _ := ⟨GE591.out⟩; replace HB := Aside0.mk (bj HB.out hb); clear hb hbox hg; obtain ⟨hcz25_0, hcz25_1, hcz25_2, hcz25_3, hcz25_4, hcz25_5, hfz25_0, hfz25_1, hfz25_2, hfz25_3, hfz25_4, hfz25_5⟩ := cf6 BK591.out) | ((with_reducible refine gate_callee (f := 23) rfl ?_); refine gL (some 24) Try.func23 #[.int .i64 a0_1, .int .i64 0, .int .i64 2] ?_; (with_reducible refine (impl_in.calls a0_1 0 2 false _ A15.out).mono ?_); rintro e w' ⟨rfl, ⟨nd, rfl⟩⟩; refine ⟨_, rfl, ?_⟩))
    go_ret
    exact ⟨by first | rfl | (simp [errW_none, errW_some] <;> rfl) | (simp [*, errW_none, errW_some] <;> rfl), by exact jB HB.out⟩
  ·rw [if_neg c14] at H
   have c14b0 := beq_eq_false_iff_ne.mpr c14
   have c14b1 := bne_iff_ne.mpr c14
   by_cases c26 : a0_0 = 3
   ·rw [if_pos c26] at H
    have c26b0 := beq_iff_eq.mpr c26
    have c26b1 := bne_eq_false_iff_eq.mpr c26
    clear c26
    by_cases c27 : a0_1 = 0
    ·rw [if_pos c27] at H
     have c27b0 := beq_iff_eq.mpr c27
     have c27b1 := bne_eq_false_iff_eq.mpr c27
     clear c27
     by_cases c28 : a0_2 = 0
     ·rw [if_pos c28] at H
      have c28b0 := beq_iff_eq.mpr c28
      have c28b1 := bne_eq_false_iff_eq.mpr c28
      clear c28
      obtain ⟨t596, A29, H⟩ := bS H
      try dsimp only at H
      obtain rfl := Option.some.inj H
      go_enter Try.func45, Try.ntmps45
      go_wp2_with (first | ((with_reducible refine gate_dst (N := 1) rfl ?_); refine bx 1 #[.int .i64 a0_0, .int .i64 a0_1, .int .i64 a0_2, .slice A0_3 l0_3.length c0_3, .slice A0_4 l0_4.length c0_4, .int .i64 a0_5] 45 ?_; intro gb591 hg w30 hbox hb; have BK591 := Aside0.mk (hbox); have GW591 := Aside0.mk ((gz hg HB.out)); have IGW591 : Nonempty _ := ⟨GW591.out⟩; have GE591 := Aside0.mk ((gz hg HB.out)); have IGE591 : Nonempty _ := ⟨GE591.out⟩; replace HB := Aside0.mk (bj HB.out hb); clear hb hbox hg; obtain ⟨hcz31_0, hcz31_1, hcz31_2, hcz31_3, hcz31_4, hcz31_5, hfz31_0, hfz31_1, hfz31_2, hfz31_3, hfz31_4, hfz31_5⟩ := cf6 BK591.out) | (go_at_call 58; (with_reducible refine (impl_FrmForm_small.calls _ _ l0_3 _ _ l0_4 a0_5 t596 _ ?side1 ?side2 ?side3 ?side4 A29.out).mono ?_); (case side1 => exact lC <| (Kd.C_below HR0_3.out HB.out)); (case side2 => exact HC0_3.out); (case side3 => exact lC <| (Kd.C_below HR0_4.out HB.out)); (case side4 => exact HC0_4.out); rintro e w32 ⟨rfl, hb⟩; replace BK591 := Aside0.mk (bb BK591.out hb); replace HB := Aside0.mk (bj HB.out hb); (try clear hb)))
      go_ret
      exact ⟨by first | rfl | (simp [errW_none, errW_some] <;> rfl) | (simp [*, errW_none, errW_some] <;> rfl), by exact jB HB.out⟩
     ·rw [if_neg c28] at H
      have c28b0 := beq_eq_false_iff_ne.mpr c28
      have c28b1 := bne_iff_ne.mpr c28
      obtain rfl := Option.some.inj H
      go_enter Try.func45, Try.ntmps45
      go_wp2_with (first | ((with_reducible refine gate_dst (N := 1) rfl ?_); refine bx 1 #[.int .i64 a0_0, .int .i64 a0_1, .int .i64 a0_2, .slice A0_3 l0_3.length c0_3, .slice A0_4 l0_4.length c0_4, .int .i64 a0_5] 45 ?_; intro gb591 hg w33 hbox hb; have BK591 := Aside0.mk (hbox); have GW591 := Aside0.mk ((gz hg HB.out)); have IGW591 : Nonempty _ := ⟨GW591.out⟩; have GE591 := Aside0.mk ((gz hg HB.out)); have IGE591 : Nonempty _ := ⟨GE591.out⟩; replace HB := Aside0.mk (bj HB.out hb); clear hb hbox hg; obtain ⟨hcz34_0, hcz34_1, hcz34_2, hcz34_3, hcz34_4, hcz34_5, hfz34_0, hfz34_1, hfz34_2, hfz34_3, hfz34_4, hfz34_5⟩ := cf6 BK591.out))
      go_ret
      exact ⟨by first | rfl | (simp [errW_none, errW_some] <;> rfl) | (simp [*, errW_none, errW_some] <;> rfl), by exact jB HB.out⟩
    ·rw [if_neg c27] at H
     have c27b0 := beq_eq_false_iff_ne.mpr c27
     have c27b1 := bne_iff_ne.mpr c27
     obtain rfl := Option.some.inj H
     go_enter Try.func45, Try.ntmps45
     go_wp2_with (first | ((with_reducible refine gate_dst (N := 1) rfl ?_); refine bx 1 #[.int .i64 a0_0, .int .i64 a0_1, .int .i64 a0_2, .slice A0_3 l0_3.length c0_3, .slice A0_4 l0_4.length c0_4, .int .i64 a0_5] 45 ?_; intro gb591 hg w35 hbox hb; have BK591 := Aside0.mk (hbox); have GW591 := Aside0.mk ((gz hg HB.out)); have IGW591 : Nonempty _ := ⟨GW591.out⟩; have GE591 := Aside0.mk ((gz hg HB.out)); have IGE591 : Nonempty _ := ⟨GE591.out⟩; replace HB := Aside0.mk (bj HB.out hb); clear hb hbox hg; obtain ⟨hcz36_0, hcz36_1, hcz36_2, hcz36_3, hcz36_4, hcz36_5, hfz36_0, hfz36_1, hfz36_2, hfz36_3, hfz36_4, hfz36_5⟩ := cf6 BK591.out))
     go_ret
     exact ⟨by first | rfl | (simp [errW_none, errW_some] <;> rfl) | (simp [*, errW_none, errW_some] <;> rfl), by exact jB HB.out⟩
   ·rw [if_neg c26] at H
    have c26b0 := beq_eq_false_iff_ne.mpr c26
    have c26b1 := bne_iff_ne.mpr c26
    by_cases c37 : a0_0 = 4
    ·rw [if_pos c37] at H
     have c37b0 := beq_iff_eq.mpr c37
     have c37b1 := bne_eq_false_iff_eq.mpr c37
     clear c37
     by_cases c38 : a0_1 = 0
     ·rw [if_pos c38] at H
      have c38b0 := beq_iff_eq.mpr c38
      have c38b1 := bne_eq_false_iff_eq.mpr c38
      clear c38
      by_cases c39 : a0_2 = 0
      ·rw [if_pos c39] at H
       have c39b0 := beq_iff_eq.mpr c39
       have c39b1 := bne_eq_false_iff_eq.mpr c39
       clear c39
       obtain ⟨t597, A40, H⟩ := bS H
       try dsimp only at H
       obtain rfl := Option.some.inj H
       go_enter Try.func45, Try.ntmps45
       go_wp2_with (first | ((with_reducible refine gate_dst (N := 1) rfl ?_); refine bx 1 #[.int .i64 a0_0, .int .i64 a0_1, .int .i64 a0_2, .slice A0_3 l0_3.length c0_3, .slice A0_4 l0_4.length c0_4, .int .i64 a0_5] 45 ?_; intro gb591 hg w41 hbox hb; have BK591 := Aside0.mk (hbox); have GW591 := Aside0.mk ((gz hg HB.out)); have IGW591 : Nonempty _ := ⟨GW591.out⟩; have GE591 := Aside0.mk ((gz hg HB.out)); have IGE591 : Nonempty _ := ⟨GE591.out⟩; replace HB := Aside0.mk (bj HB.out hb); clear hb hbox hg; obtain ⟨hcz42_0, hcz42_1, hcz42_2, hcz42_3, hcz42_4, hcz42_5, hfz42_0, hfz42_1, hfz42_2, hfz42_3, hfz42_4, hfz42_5⟩ := cf6 BK591.out) | (go_at_call 59; (refine (impl_FrmForm_same.calls k _ _ l0_3 _ _ l0_4 a0_5 _ _ ([] : List Int) _ _ ([] : List Int) 0 t597 _ ?side1 ?side2 ?side3 ?side4 ?side5 ?side6 ?side7 ?side8 A40.out).mono ?_); (case side1 => exact lC <| (Kd.C_below HR0_3.out HB.out)); (case side2 => exact HC0_3.out); (case side3 => exact lC <| (Kd.C_below HR0_4.out HB.out)); (case side4 => exact HC0_4.out); (case side5 => exact Kd.C_nil _ _); (case side6 => exact Nat.le_refl _); (case side7 => exact Kd.C_nil _ _); (case side8 => exact Nat.le_refl _); rintro e w43 ⟨rfl, hb⟩; replace BK591 := Aside0.mk (bb BK591.out hb); replace HB := Aside0.mk (bj HB.out hb); (try clear hb)))
       go_ret
       exact ⟨by first | rfl | (simp [errW_none, errW_some] <;> rfl) | (simp [*, errW_none, errW_some] <;> rfl), by exact jB HB.out⟩
      ·rw [if_neg c39] at H
       have c39b0 := beq_eq_false_iff_ne.mpr c39
       have c39b1 := bne_iff_ne.mpr c39
       obtain rfl := Option.some.inj H
       go_enter Try.func45, Try.ntmps45
       go_wp2_with (first | ((with_reducible refine gate_dst (N := 1) rfl ?_); refine bx 1 #[.int .i64 a0_0, .int .i64 a0_1, .int .i64 a0_2, .slice A0_3 l0_3.length c0_3, .slice A0_4 l0_4.length c0_4, .int .i64 a0_5] 45 ?_; intro gb591 hg w44 hbox hb; have BK591 := Aside0.mk (hbox); have GW591 := Aside0.mk ((gz hg HB.out)); have IGW591 : Nonempty _ := ⟨GW591.out⟩; have GE591 := Aside0.mk ((gz hg HB.out)); have IGE591 : Nonempty _ := ⟨GE591.out⟩; replace HB := Aside0.mk (bj HB.out hb); clear hb hbox hg; obtain ⟨hcz45_0, hcz45_1, hcz45_2, hcz45_3, hcz45_4, hcz45_5, hfz45_0, hfz45_1, hfz45_2, hfz45_3, hfz45_4, hfz45_5⟩ := cf6 BK591.out))
       go_ret
       exact ⟨by first | rfl | (simp [errW_none, errW_some] <;> rfl) | (simp [*, errW_none, errW_some] <;> rfl), by exact jB HB.out⟩
     ·rw [if_neg c38] at H
      have c38b0 := beq_eq_false_iff_ne.mpr c38
      have c38b1 := bne_iff_ne.mpr c38
      obtain rfl := Option.some.inj H
      go_enter Try.func45, Try.ntmps45
      go_wp2_with (first | ((with_reducible refine gate_dst (N := 1) rfl ?_); refine bx 1 #[.int .i64 a0_0, .int .i64 a0_1, .int .i64 a0_2, .slice A0_3 l0_3.length c0_3, .slice A0_4 l0_4.length c0_4, .int .i64 a0_5] 45 ?_; intro gb591 hg w46 hbox hb; have BK591 := Aside0.mk (hbox); have GW591 := Aside0.mk ((gz hg HB.out)); have IGW591 : Nonempty _ := ⟨GW591.out⟩; have GE591 := Aside0.mk ((gz hg HB.out)); have IGE591 : Nonempty _ := ⟨GE591.out⟩; replace HB := Aside0.mk (bj HB.out hb); clear hb hbox hg; obtain ⟨hcz47_0, hcz47_1, hcz47_2, hcz47_3, hcz47_4, hcz47_5, hfz47_0, hfz47_1, hfz47_2, hfz47_3, hfz47_4, hfz47_5⟩ := cf6 BK591.out))
      go_ret
      exact ⟨by first | rfl | (simp [errW_none, errW_some] <;> rfl) | (simp [*, errW_none, errW_some] <;> rfl), by exact jB HB.out⟩
    ·rw [if_neg c37] at H
     have c37b0 := beq_eq_false_iff_ne.mpr c37
     have c37b1 := bne_iff_ne.mpr c37
     obtain rfl := Option.some.inj H
     go_enter Try.func45, Try.ntmps45
     go_wp2_with (first | ((with_reducible refine gate_dst (N := 1) rfl ?_); refine bx 1 #[.int .i64 a0_0, .int .i64 a0_1, .int .i64 a0_2, .slice A0_3 l0_3.length c0_3, .slice A0_4 l0_4.length c0_4, .int .i64 a0_5] 45 ?_; intro gb591 hg w48 hbox hb; have BK591 := Aside0.mk (hbox); have GW591 := Aside0.mk ((gz hg HB.out)); have IGW591 : Nonempty _ := ⟨GW591.out⟩; have GE591 := Aside0.mk ((gz hg HB.out)); have IGE591 : Nonempty _ := ⟨GE591.out⟩; replace HB := Aside0.mk (bj HB.out hb); clear hb hbox hg; obtain ⟨hcz49_0, hcz49_1, hcz49_2, hcz49_3, hcz49_4, hcz49_5, hfz49_0, hfz49_1, hfz49_2, hfz49_3, hfz49_4, hfz49_5⟩ := cf6 BK591.out))
     go_ret
     exact ⟨by first | rfl | (simp [errW_none, errW_some] <;> rfl) | (simp [*, errW_none, errW_some] <;> rfl), by exact jB HB.out⟩

/-! ### impl_ActOk: function 17 -/
def impl_ActOk.l0 : Nat → List (S45) → Int → List (S45) → Int → Int → Option (Bool)
 | 0, _, _, _, _, _ => none
 | k + 1, x0, x3, x6, x7, x8 => if x8 < x7 then (if 0 ≤ x8 then (if x8 < (x6.length : Int) then ((impl_ActLine_ok.f k ((rd_T45 x6 x8).f0) ((rd_T45 x6 x8).f1) ((rd_T45 x6 x8).f2) ((rd_T45 x6 x8).f3.f0) ((rd_T45 x6 x8).f3.f1) ((rd_T45 x6 x8).f3.f2)).bind fun t600 => (if t600 = true then (if ((rd_T45 x6 x8).f0) = 1 then (impl_ActOk.l0 k x0 (wrap64 (x3 + 1)) x6 x7 (wrap64 (x8 + 1))) else (impl_ActOk.l0 k x0 x3 x6 x7 (wrap64 (x8 + 1)))) else (some false))) else (none)) else (none)) else (if (x0.length : Int) ≤ 6 then (some (decide (x3 ≤ 3))) else (some false))
def impl_ActOk.f (k : Nat) (l0 : List (S45)) : Option (Bool) := impl_ActOk.l0 k l0 0 l0 (l0.length : Int) 0
theorem impl_ActOk.mono_l : ∀ k, (∀ y0 y1 y2 y3 y4, LeO (impl_ActOk.l0 k y0 y1 y2 y3 y4) (impl_ActOk.l0 (k + 1) y0 y1 y2 y3 y4))
 | 0 => fun _ _ _ _ _ r h => by simp [impl_ActOk.l0] at h
 | k + 1 => by
  have ih0 := impl_ActOk.mono_l k
  ·intro y0 y1 y2 y3 y4
   unfold impl_ActOk.l0
   repeat' first
   | (with_reducible exact ih0 _ _ _ _ _)
   | (with_reducible exact impl_ActLine_ok.mono _ _ _ _ _ _ _)
   | (with_reducible exact LeO.refl _)
   | (with_reducible exact LeO.none _)
   | (with_reducible refine LeO.ite ?_ ?_)
   | (with_reducible refine LeO.bind ?_ (fun _ => ?_))
   | exact LeO.none _
   | refine LeO.ite ?_ ?_
   | refine LeO.bind ?_ (fun _ => ?_)
theorem impl_ActOk.mono : ∀ a0 k, LeO (impl_ActOk.f k a0) (impl_ActOk.f (k + 1) a0) := by
 intro a0 k
 have ih0 := impl_ActOk.mono_l k
 unfold impl_ActOk.f
 repeat' first
   | (with_reducible exact ih0 _ _ _ _ _)
   | (with_reducible exact impl_ActLine_ok.mono _ _ _ _ _ _ _)
   | (with_reducible exact LeO.refl _)
   | (with_reducible exact LeO.none _)
   | (with_reducible refine LeO.ite ?_ ?_)
   | (with_reducible refine LeO.bind ?_ (fun _ => ?_))
   | exact LeO.none _
   | refine LeO.ite ?_ ?_
   | refine LeO.bind ?_ (fun _ => ?_)
set_option maxHeartbeats 8000000 in
set_option maxRecDepth 100000 in
theorem impl_ActOk.calls (k : Nat) (A0 : Option Addr) (c0 : Nat) (l0 : List (S45)) (r : Bool) (w : World) (hr0 : Kd.C k45 w A0 l0.length l0) (hc0 : l0.length ≤ c0) (h : impl_ActOk.f k l0 = some r) :
  Calls Try.prog 17 #[.slice A0 l0.length c0] w fun e w' => e = .returned (.bool r) ∧ Below w.heap.size w w' := by
 have hu45 := Try.underlying45
 have HR0 := Aside0.mk hr0
 have HC0 := Aside0.mk hc0
 clear hr0 hc0
 have HB := Aside0.mk (Below.refl w.heap.size w)
 have H : (impl_ActOk.l0 k l0 0 l0 (l0.length : Int) 0) = some r := h
 clear h
 have H' := Aside0.mk H
 clear H
 go_enter Try.func17, Try.ntmps17
 go_wp2
 go_loopg [3, 8] k (fun kq v3 v8 w' => ∃ (x3_1 : Int) (x8_1 : Int), v3 = .int .i64 x3_1 ∧ v8 = .int .i64 x8_1 ∧ Aside0 (impl_ActOk.l0 kq l0 x3_1 l0 (l0.length : Int) x8_1 = some r) ∧ Aside0 (kq ≤ k) ∧ Aside0 (Below w.heap.size w w'))
 case atStart => exact ⟨(0), (0), (by first | rfl | (simp; done) | (simp [*]; done)), (by first | rfl | (simp; done) | (simp [*]; done)), H', ⟨Nat.le_refl _⟩, ⟨by exact lB HB.out⟩⟩
 case round =>
  clear H'
  try clear c1
  obtain ⟨x3_1, x8_1, rfl, rfl, HA, HK1, HB⟩ := hrel
  cases gk with
  | zero => exact absurd HA.out (by simp [impl_ActOk.l0])
  | succ k1 =>
   have H := HA.out
   clear HA
   simp only [impl_ActOk.l0] at H
   by_cases c2 : x8_1 < (l0.length : Int)
   ·rw [if_pos c2] at H
    have c2b0 := decide_eq_true c2
    clear c2
    by_cases c3 : 0 ≤ x8_1
    ·rw [if_pos c3] at H
     have c3b0 := decide_eq_true c3
     clear c3
     by_cases c4 : x8_1 < (l0.length : Int)
     ·rw [if_pos c4] at H
      have c4b0 := decide_eq_true c4
      clear c4
      obtain ⟨t600, A5, H⟩ := bS H
      try dsimp only at H
      by_cases c6 : t600 = true
      ·subst c6
       have H1 : (if ((rd_T45 l0 x8_1).f0) = 1 then (impl_ActOk.l0 k1 l0 (wrap64 (x3_1 + 1)) l0 (l0.length : Int) (wrap64 (x8_1 + 1))) else (impl_ActOk.l0 k1 l0 x3_1 l0 (l0.length : Int) (wrap64 (x8_1 + 1)))) = some r := by rw [if_pos rfl] at H; exact H
       clear H
       have H := H1
       clear H1
       by_cases c7 : ((rd_T45 l0 x8_1).f0) = 1
       ·rw [if_pos c7] at H
        have c7b0 := beq_iff_eq.mpr c7
        have c7b1 := bne_eq_false_iff_eq.mpr c7
        clear c7
        have H' := Aside0.mk H
        clear H
        have p598 : 0 ≤ (x8_1 : Int) := of_decide_eq_true (by first | (with_reducible assumption) | assumption)
        have q598 : x8_1 < (l0.length : Int) := of_decide_eq_true (by first | (with_reducible assumption) | assumption)
        obtain ⟨ad598, A598_3, c598_3, A598_4, c598_4, e598, hx598_0, hx598_1, hx598_2, hx598_3, hx598_4, hx598_5, hl598_3, hi598_3, hl598_4, hi598_4⟩ := at_T45 HR0.out x8_1 p598 q598
        cases e598
        replace hx598_0 := cl HB.out hx598_0
        replace hx598_1 := cl HB.out hx598_1
        replace hx598_2 := cl HB.out hx598_2
        replace hx598_3 := cl HB.out hx598_3
        replace hx598_4 := cl HB.out hx598_4
        replace hx598_5 := cl HB.out hx598_5
        have HR598_3 := Aside0.mk hi598_3
        have HC598_3 := Aside0.mk hl598_3
        clear hi598_3 hl598_3
        have HR598_4 := Aside0.mk hi598_4
        have HC598_4 := Aside0.mk hl598_4
        clear hi598_4 hl598_4
        replace p598 := eq_true p598
        replace q598 := eq_true q598
        go_wp2_with (first | ((with_reducible refine gate_dst (N := 5) rfl ?_); refine bx 5 #[.int .i64 0, .int .i64 0, .int .i64 0, .slice none 0 0, .slice none 0 0, .int .i64 0] 45 ?_; intro gb599 hg w8 hbox hb; have BK599 := Aside0.mk (hbox); have GW599 := Aside0.mk ((gz hg HB.out)); have IGW599 : Nonempty _ := ⟨GW599.out⟩; have GE599 := Aside0.mk ((gz hg HB.out)); have IGE599 : Nonempty _ := ⟨GE599.out⟩; replace HB := Aside0.mk (bj HB.out hb); clear hb hbox hg; obtain ⟨hcz9_0, hcz9_1, hcz9_2, hcz9_3, hcz9_4, hcz9_5, hfz9_0, hfz9_1, hfz9_2, hfz9_3, hfz9_4, hfz9_5⟩ := cf6 BK599.out) | ((with_reducible refine gate_callee (f := 45) rfl ?_); refine gL (some 13) Try.func45 #[.agg #[.int .i64 ((rd_T45 l0 x8_1).f0), .int .i64 ((rd_T45 l0 x8_1).f1), .int .i64 ((rd_T45 l0 x8_1).f2), .slice A598_3 ((rd_T45 l0 x8_1).f3.f0).length c598_3, .slice A598_4 ((rd_T45 l0 x8_1).f3.f1).length c598_4, .int .i64 ((rd_T45 l0 x8_1).f3.f2)]] ?_; (with_reducible refine (impl_ActLine_ok.calls k1 ((rd_T45 l0 x8_1).f0) ((rd_T45 l0 x8_1).f1) ((rd_T45 l0 x8_1).f2) _ _ ((rd_T45 l0 x8_1).f3.f0) _ _ ((rd_T45 l0 x8_1).f3.f1) ((rd_T45 l0 x8_1).f3.f2) true _ ?side1 ?side2 ?side3 ?side4 A5.out).mono ?_); (case side1 => exact Kd.C_below HR598_3.out (by exact jB HB.out)); (case side2 => exact HC598_3.out); (case side3 => exact Kd.C_below HR598_4.out (by exact jB HB.out)); (case side4 => exact HC598_4.out); rintro e w10 ⟨rfl, hb⟩; refine ⟨_, rfl, ?_⟩; replace BK599 := Aside0.mk (blk_below (g := gb599) (o := .cells #[.int .i64 ((rd_T45 l0 x8_1).f0), .int .i64 ((rd_T45 l0 x8_1).f1), .int .i64 ((rd_T45 l0 x8_1).f2), .slice A598_3 ((rd_T45 l0 x8_1).f3.f0).length c598_3, .slice A598_4 ((rd_T45 l0 x8_1).f3.f1).length c598_4, .int .i64 ((rd_T45 l0 x8_1).f3.f2)] 45 (0, 0)) (by exact p6 (lK BK599.out)) hb); replace HB := Aside0.mk (bj HB.out hb); (try clear hb); obtain ⟨hcz11_0, hcz11_1, hcz11_2, hcz11_3, hcz11_4, hcz11_5, hfz11_0, hfz11_1, hfz11_2, hfz11_3, hfz11_4, hfz11_5⟩ := cf6 BK599.out))
        go_roundg k1
        case measure => have := HK1.out; omega
        case rel => exact ⟨(wrap64 (x3_1 + 1)), (wrap64 (x8_1 + 1)), (by first | rfl | (simp; done) | (simp [*]; done)), (by first | rfl | (simp; done) | (simp [*]; done)), H', ⟨by have := HK1.out; omega⟩, ⟨by exact jB HB.out⟩⟩
       ·rw [if_neg c7] at H
        have c7b0 := beq_eq_false_iff_ne.mpr c7
        have c7b1 := bne_iff_ne.mpr c7
        have H' := Aside0.mk H
        clear H
        have p598 : 0 ≤ (x8_1 : Int) := of_decide_eq_true (by first | (with_reducible assumption) | assumption)
        have q598 : x8_1 < (l0.length : Int) := of_decide_eq_true (by first | (with_reducible assumption) | assumption)
        obtain ⟨ad598, A598_3, c598_3, A598_4, c598_4, e598, hx598_0, hx598_1, hx598_2, hx598_3, hx598_4, hx598_5, hl598_3, hi598_3, hl598_4, hi598_4⟩ := at_T45 HR0.out x8_1 p598 q598
        cases e598
        replace hx598_0 := cl HB.out hx598_0
        replace hx598_1 := cl HB.out hx598_1
        replace hx598_2 := cl HB.out hx598_2
        replace hx598_3 := cl HB.out hx598_3
        replace hx598_4 := cl HB.out hx598_4
        replace hx598_5 := cl HB.out hx598_5
        have HR598_3 := Aside0.mk hi598_3
        have HC598_3 := Aside0.mk hl598_3
        clear hi598_3 hl598_3
        have HR598_4 := Aside0.mk hi598_4
        have HC598_4 := Aside0.mk hl598_4
        clear hi598_4 hl598_4
        replace p598 := eq_true p598
        replace q598 := eq_true q598
        go_wp2_with (first | ((with_reducible refine gate_dst (N := 5) rfl ?_); refine bx 5 #[.int .i64 0, .int .i64 0, .int .i64 0, .slice none 0 0, .slice none 0 0, .int .i64 0] 45 ?_; intro gb599 hg w12 hbox hb; have BK599 := Aside0.mk (hbox); have GW599 := Aside0.mk ((gz hg HB.out)); have IGW599 : Nonempty _ := ⟨GW599.out⟩; have GE599 := Aside0.mk ((gz hg HB.out)); have IGE599 : Nonempty _ := ⟨GE599.out⟩; replace HB := Aside0.mk (bj HB.out hb); clear hb hbox hg; obtain ⟨hcz13_0, hcz13_1, hcz13_2, hcz13_3, hcz13_4, hcz13_5, hfz13_0, hfz13_1, hfz13_2, hfz13_3, hfz13_4, hfz13_5⟩ := cf6 BK599.out) | ((with_reducible refine gate_callee (f := 45) rfl ?_); refine gL (some 13) Try.func45 #[.agg #[.int .i64 ((rd_T45 l0 x8_1).f0), .int .i64 ((rd_T45 l0 x8_1).f1), .int .i64 ((rd_T45 l0 x8_1).f2), .slice A598_3 ((rd_T45 l0 x8_1).f3.f0).length c598_3, .slice A598_4 ((rd_T45 l0 x8_1).f3.f1).length c598_4, .int .i64 ((rd_T45 l0 x8_1).f3.f2)]] ?_; (with_reducible refine (impl_ActLine_ok.calls k1 ((rd_T45 l0 x8_1).f0) ((rd_T45 l0 x8_1).f1) ((rd_T45 l0 x8_1).f2) _ _ ((rd_T45 l0 x8_1).f3.f0) _ _ ((rd_T45 l0 x8_1).f3.f1) ((rd_T45 l0 x8_1).f3.f2) true _ ?side1 ?side2 ?side3 ?side4 A5.out).mono ?_); (case side1 => exact Kd.C_below HR598_3.out (by exact jB HB.out)); (case side2 => exact HC598_3.out); (case side3 => exact Kd.C_below HR598_4.out (by exact jB HB.out)); (case side4 => exact HC598_4.out); rintro e w14 ⟨rfl, hb⟩; refine ⟨_, rfl, ?_⟩; replace BK599 := Aside0.mk (blk_below (g := gb599) (o := .cells #[.int .i64 ((rd_T45 l0 x8_1).f0), .int .i64 ((rd_T45 l0 x8_1).f1), .int .i64 ((rd_T45 l0 x8_1).f2), .slice A598_3 ((rd_T45 l0 x8_1).f3.f0).length c598_3, .slice A598_4 ((rd_T45 l0 x8_1).f3.f1).length c598_4, .int .i64 ((rd_T45 l0 x8_1).f3.f2)] 45 (0, 0)) (by exact p6 (lK BK599.out)) hb); replace HB := Aside0.mk (bj HB.out hb); (try clear hb); obtain ⟨hcz15_0, hcz15_1, hcz15_2, hcz15_3, hcz15_4, hcz15_5, hfz15_0, hfz15_1, hfz15_2, hfz15_3, hfz15_4, hfz15_5⟩ := cf6 BK599.out))
        go_roundg k1
        case measure => have := HK1.out; omega
        case rel => exact ⟨(x3_1), (wrap64 (x8_1 + 1)), (by first | rfl | (simp; done) | (simp [*]; done)), (by first | rfl | (simp; done) | (simp [*]; done)), H', ⟨by have := HK1.out; omega⟩, ⟨by exact jB HB.out⟩⟩
      ·replace c6 := Bool.eq_false_iff.mpr c6
       subst c6
       have H1 : (some false) = some r := by rw [if_neg (show ¬ (false = true) by decide)] at H; exact H
       clear H
       have H := H1
       clear H1
       obtain rfl := Option.some.inj H
       have p598 : 0 ≤ (x8_1 : Int) := of_decide_eq_true (by first | (with_reducible assumption) | assumption)
       have q598 : x8_1 < (l0.length : Int) := of_decide_eq_true (by first | (with_reducible assumption) | assumption)
       obtain ⟨ad598, A598_3, c598_3, A598_4, c598_4, e598, hx598_0, hx598_1, hx598_2, hx598_3, hx598_4, hx598_5, hl598_3, hi598_3, hl598_4, hi598_4⟩ := at_T45 HR0.out x8_1 p598 q598
       cases e598
       replace hx598_0 := cl HB.out hx598_0
       replace hx598_1 := cl HB.out hx598_1
       replace hx598_2 := cl HB.out hx598_2
       replace hx598_3 := cl HB.out hx598_3
       replace hx598_4 := cl HB.out hx598_4
       replace hx598_5 := cl HB.out hx598_5
       have HR598_3 := Aside0.mk hi598_3
       have HC598_3 := Aside0.mk hl598_3
       clear hi598_3 hl598_3
       have HR598_4 := Aside0.mk hi598_4
       have HC598_4 := Aside0.mk hl598_4
       clear hi598_4 hl598_4
       replace p598 := eq_true p598
       replace q598 := eq_true q598
       go_wp2_with (first | ((with_reducible refine gate_dst (N := 5) rfl ?_); refine bx 5 #[.int .i64 0, .int .i64 0, .int .i64 0, .slice none 0 0, .slice none 0 0, .int .i64 0] 45 ?_; intro gb599 hg w16 hbox hb; have BK599 := Aside0.mk (hbox); have GW599 := Aside0.mk ((gz hg HB.out)); have IGW599 : Nonempty _ := ⟨GW599.out⟩; have GE599 := Aside0.mk ((gz hg HB.out)); have IGE599 : Nonempty _ := ⟨GE599.out⟩; replace HB := Aside0.mk (bj HB.out hb); clear hb hbox hg; obtain ⟨hcz17_0, hcz17_1, hcz17_2, hcz17_3, hcz17_4, hcz17_5, hfz17_0, hfz17_1, hfz17_2, hfz17_3, hfz17_4, hfz17_5⟩ := cf6 BK599.out) | ((with_reducible refine gate_callee (f := 45) rfl ?_); refine gL (some 13) Try.func45 #[.agg #[.int .i64 ((rd_T45 l0 x8_1).f0), .int .i64 ((rd_T45 l0 x8_1).f1), .int .i64 ((rd_T45 l0 x8_1).f2), .slice A598_3 ((rd_T45 l0 x8_1).f3.f0).length c598_3, .slice A598_4 ((rd_T45 l0 x8_1).f3.f1).length c598_4, .int .i64 ((rd_T45 l0 x8_1).f3.f2)]] ?_; (with_reducible refine (impl_ActLine_ok.calls k1 ((rd_T45 l0 x8_1).f0) ((rd_T45 l0 x8_1).f1) ((rd_T45 l0 x8_1).f2) _ _ ((rd_T45 l0 x8_1).f3.f0) _ _ ((rd_T45 l0 x8_1).f3.f1) ((rd_T45 l0 x8_1).f3.f2) false _ ?side1 ?side2 ?side3 ?side4 A5.out).mono ?_); (case side1 => exact Kd.C_below HR598_3.out (by exact jB HB.out)); (case side2 => exact HC598_3.out); (case side3 => exact Kd.C_below HR598_4.out (by exact jB HB.out)); (case side4 => exact HC598_4.out); rintro e w18 ⟨rfl, hb⟩; refine ⟨_, rfl, ?_⟩; replace BK599 := Aside0.mk (blk_below (g := gb599) (o := .cells #[.int .i64 ((rd_T45 l0 x8_1).f0), .int .i64 ((rd_T45 l0 x8_1).f1), .int .i64 ((rd_T45 l0 x8_1).f2), .slice A598_3 ((rd_T45 l0 x8_1).f3.f0).length c598_3, .slice A598_4 ((rd_T45 l0 x8_1).f3.f1).length c598_4, .int .i64 ((rd_T45 l0 x8_1).f3.f2)] 45 (0, 0)) (by exact p6 (lK BK599.out)) hb); replace HB := Aside0.mk (bj HB.out hb); (try clear hb)))
       go_ret
       exact ⟨by first | rfl | (simp [errW_none, errW_some] <;> rfl) | (simp [*, errW_none, errW_some] <;> rfl), by exact jB HB.out⟩
     ·rw [if_neg c4] at H
      exact absurd H (by simp)
    ·rw [if_neg c3] at H
     exact absurd H (by simp)
   ·rw [if_neg c2] at H
    have c2b0 := decide_eq_false c2
    clear c2
    by_cases c19 : (l0.length : Int) ≤ 6
    ·rw [if_pos c19] at H
     have c19b0 := decide_eq_true c19
     have c19b1 : decide (l0.length ≤ 6) = true := decide_eq_true (by omega)
     clear c19
     obtain rfl := Option.some.inj H
     go_wp2
     go_ret
     exact ⟨by first | rfl | (simp [errW_none, errW_some] <;> rfl) | (simp [*, errW_none, errW_some] <;> rfl), by exact lB HB.out⟩
    ·rw [if_neg c19] at H
     have c19b0 := decide_eq_false c19
     have c19b1 : decide (l0.length ≤ 6) = false := decide_eq_false (by omega)
     clear c19
     obtain rfl := Option.some.inj H
     go_wp2
     go_ret
     exact ⟨by first | rfl | (simp [errW_none, errW_some] <;> rfl) | (simp [*, errW_none, errW_some] <;> rfl), by exact lB HB.out⟩

/-! ### impl_ValOk: function 36 -/
def impl_ValOk.f (l0 : List Int) : Option (Bool) := (impl_within.f l0 3 10000).bind fun t601 => (some t601)
set_option maxHeartbeats 8000000 in
set_option maxRecDepth 100000 in
theorem impl_ValOk.calls (A0 : Option Addr) (c0 : Nat) (l0 : List Int) (r : Bool) (w : World) (hr0 : Kd.C (Kd.int .i64) w A0 l0.length l0) (hc0 : l0.length ≤ c0) (h : impl_ValOk.f l0 = some r) :
  Calls Try.prog 36 #[.slice A0 l0.length c0] w fun e w' => e = .returned (.bool r) ∧ Below w.heap.size w w' := by
 have HR0 := Aside0.mk hr0
 have HC0 := Aside0.mk hc0
 clear hr0 hc0
 have HB := Aside0.mk (Below.refl w.heap.size w)
 have H : ((impl_within.f l0 3 10000).bind fun t601 => (some t601)) = some r := h
 clear h
 obtain ⟨t601, A2, H⟩ := bS H
 try dsimp only at H
 obtain rfl := Option.some.inj H
 go_enter Try.func36, Try.ntmps36
 go_wp2_with (first | ((with_reducible refine gate_callee (f := 25) rfl ?_); refine gL (some 4) Try.func25 #[.slice A0 l0.length c0, .int .i64 3, .int .i64 10000] ?_; (with_reducible refine (impl_within.calls _ _ l0 3 10000 t601 _ ?side1 ?side2 A2.out).mono ?_); (case side1 => exact lC HR0.out); (case side2 => exact HC0.out); rintro e w3 ⟨rfl, hb⟩; refine ⟨_, rfl, ?_⟩; replace HB := Aside0.mk (bj HB.out hb); (try clear hb)))
 go_ret
 exact ⟨by first | rfl | (simp [errW_none, errW_some] <;> rfl) | (simp [*, errW_none, errW_some] <;> rfl), by exact lB HB.out⟩

/-! ### impl_ArgOk: function 37 -/
def impl_ArgOk.f (l0 : List Int) : Option (Bool) := (impl_within.f l0 2 9).bind fun t602 => (some t602)
set_option maxHeartbeats 8000000 in
set_option maxRecDepth 100000 in
theorem impl_ArgOk.calls (A0 : Option Addr) (c0 : Nat) (l0 : List Int) (r : Bool) (w : World) (hr0 : Kd.C (Kd.int .i64) w A0 l0.length l0) (hc0 : l0.length ≤ c0) (h : impl_ArgOk.f l0 = some r) :
  Calls Try.prog 37 #[.slice A0 l0.length c0] w fun e w' => e = .returned (.bool r) ∧ Below w.heap.size w w' := by
 have HR0 := Aside0.mk hr0
 have HC0 := Aside0.mk hc0
 clear hr0 hc0
 have HB := Aside0.mk (Below.refl w.heap.size w)
 have H : ((impl_within.f l0 2 9).bind fun t602 => (some t602)) = some r := h
 clear h
 obtain ⟨t602, A2, H⟩ := bS H
 try dsimp only at H
 obtain rfl := Option.some.inj H
 go_enter Try.func37, Try.ntmps37
 go_wp2_with (first | ((with_reducible refine gate_callee (f := 25) rfl ?_); refine gL (some 4) Try.func25 #[.slice A0 l0.length c0, .int .i64 2, .int .i64 9] ?_; (with_reducible refine (impl_within.calls _ _ l0 2 9 t602 _ ?side1 ?side2 A2.out).mono ?_); (case side1 => exact lC HR0.out); (case side2 => exact HC0.out); rintro e w3 ⟨rfl, hb⟩; refine ⟨_, rfl, ?_⟩; replace HB := Aside0.mk (bj HB.out hb); (try clear hb)))
 go_ret
 exact ⟨by first | rfl | (simp [errW_none, errW_some] <;> rfl) | (simp [*, errW_none, errW_some] <;> rfl), by exact lB HB.out⟩

/-! ### slices_Clone_int_int: function 38, by hand -/
def slices_Clone_int_int.f (l0 : List Int) : Option (List Int) := if l0.length ≤ 17592186044415 then some l0 else none
set_option maxHeartbeats 8000000 in
set_option maxRecDepth 100000 in
theorem slices_Clone_int_int.calls (A0 : Option Addr) (c0 : Nat) (l0 : List Int) (r : List Int) (w : World) (hr0 : Kd.C (Kd.int .i64) w A0 l0.length l0) (hc0 : l0.length ≤ c0) (h : slices_Clone_int_int.f l0 = some r) :
  Calls Try.prog 38 #[.slice A0 l0.length c0] w fun e w' => ∃ v0_ : Value, e = .returned (v0_) ∧ Kd.R (Kd.int .i64) 3 w' w.heap.size (fun _ => True) v0_ r ∧ Below w.heap.size w w' := by
 unfold slices_Clone_int_int.f at h
 by_cases hL : l0.length ≤ 17592186044415
 case neg => rw [if_neg hL] at h; exact absurd h (by simp)
 case pos =>
  rw [if_pos hL] at h
  obtain rfl := Option.some.inj h
  clear h
  have he : ∀ (w : World) (n : Nat), (binOp .eql 24 (.slice A0 n c0) (.slice none 0 0)).run Try.prog w = .ok (.bool A0.isNone) w := fun w n => Lib.run_eql_slice_nil w 24 3 A0 n c0 0 0 Try.underlying24
  cases A0 with
  | none =>
   have hn : l0 = [] := by
    rcases Nat.eq_zero_or_pos l0.length with h0 | h0
    ·exact List.eq_nil_of_length_eq_zero h0
    ·obtain ⟨ad, e, _⟩ := hr0.2.2 h0
     cases e
   subst hn
   clear hr0
   go_enter Try.func38, Try.ntmps38
   go_wp2
   go_ret
   exact ⟨_, rfl, Kd.R_nil _ _ _ _ _, Below.refl _ _⟩
  | some ad =>
   have HR := Aside0.mk hr0
   have HL := Aside0.mk hL
   clear hr0 hL
   go_enter Try.func38, Try.ntmps38
   go_wp2_with (first
    | ((with_reducible refine gate_dst (N := 5) rfl ?_); refine Kd.R_lit (Kd.int .i64) _ 3 ?hg (N := 5) ?hd (xs := ([] : List Int)) (inner := []) (ok := fun _ => True) (okp := fun _ => True) ?hr ?hp (fun _ hk => hk) trivial (Below.refl _ _) (Nat.le_refl _) (by simp) ?_; (case hd => rfl); (case hg => rfl); (case hr => first | (go_simp; done) | (go_simp; rfl)); (case hp => exact (Reps.none _ _)); intro v1 w1 ho hb hg_ hnew_; clear hg_ hnew_; have HO1 := Aside0.mk ho; have HB1 := Aside0.mk hb; clear ho hb)
    | ((with_reducible refine gate_builtin (b := .append) (xs := #[.tmp 5, .tmp 6]) rfl ?_); refine Kd.R_append_rows (Kd.int .i64) (w0 := w) w.heap.size rfl (.tmp 5) (.tmp 6) 24 3 (.int .i64 0) 8 rfl Try.underlying24 info3 rfl (by decide) (by omega) v1 ([] : List Int) l0 _ _ _ (fun _ => True) (fun _ => False) rfl rfl ?aO ?aR (fun _ _ h => h) (fun _ h => h.elim) ?aF ?aB ?aS ?aL ?_; (case aR => exact Kd.C_below HR.out HB1.out); (case aB => exact HB1.out); (case aF => exact (fun _ _ => trivial)); (case aO => exact HO1.out); (case aS => exact HB1.out.size); (case aL => have := HL.out; simp only [List.length_nil]; omega); intro v2 w2 ho hb hg_ hat_; clear hg_ hat_; rw [List.nil_append] at ho; have HO2 := Aside0.mk ho; have HB2 := Aside0.mk hb; clear ho hb))
   go_ret
   exact ⟨_, rfl, HO2.out, HB2.out⟩

/-! ### impl_dot: function 56 -/
def impl_dot.l0 : Nat → List Int → Int → List Int → Int → Int → Option (Int)
 | 0, _, _, _, _, _ => none
 | k + 1, x1, x5, x8, x9, x10 => if x10 < x9 then (if 0 ≤ x10 then (if x10 < (x8.length : Int) then (if x10 < (x1.length : Int) then (impl_dot.l0 k x1 (wrap64 (x5 + (wrap64 ((rd x8 x10) * (rd x1 x10))))) x8 x9 (wrap64 (x10 + 1))) else (none)) else (none)) else (none)) else (some x5)
def impl_dot.f (k : Nat) (l0 : List Int) (l1 : List Int) : Option (Int) := impl_dot.l0 k l1 0 l0 (l0.length : Int) 0
theorem impl_dot.mono_l : ∀ k, (∀ y0 y1 y2 y3 y4, LeO (impl_dot.l0 k y0 y1 y2 y3 y4) (impl_dot.l0 (k + 1) y0 y1 y2 y3 y4))
 | 0 => fun _ _ _ _ _ r h => by simp [impl_dot.l0] at h
 | k + 1 => by
  have ih0 := impl_dot.mono_l k
  ·intro y0 y1 y2 y3 y4
   unfold impl_dot.l0
   repeat' first
   | (with_reducible exact ih0 _ _ _ _ _)
   | (with_reducible exact LeO.refl _)
   | (with_reducible exact LeO.none _)
   | (with_reducible refine LeO.ite ?_ ?_)
   | (with_reducible refine LeO.bind ?_ (fun _ => ?_))
   | exact LeO.none _
   | refine LeO.ite ?_ ?_
   | refine LeO.bind ?_ (fun _ => ?_)
theorem impl_dot.mono : ∀ a0 a1 k, LeO (impl_dot.f k a0 a1) (impl_dot.f (k + 1) a0 a1) := by
 intro a0 a1 k
 have ih0 := impl_dot.mono_l k
 unfold impl_dot.f
 repeat' first
   | (with_reducible exact ih0 _ _ _ _ _)
   | (with_reducible exact LeO.refl _)
   | (with_reducible exact LeO.none _)
   | (with_reducible refine LeO.ite ?_ ?_)
   | (with_reducible refine LeO.bind ?_ (fun _ => ?_))
   | exact LeO.none _
   | refine LeO.ite ?_ ?_
   | refine LeO.bind ?_ (fun _ => ?_)
set_option maxHeartbeats 8000000 in
set_option maxRecDepth 100000 in
theorem impl_dot.calls (k : Nat) (A0 : Option Addr) (c0 : Nat) (l0 : List Int) (A1 : Option Addr) (c1 : Nat) (l1 : List Int) (r : Int) (w : World) (hr0 : Kd.C (Kd.int .i64) w A0 l0.length l0) (hc0 : l0.length ≤ c0) (hr1 : Kd.C (Kd.int .i64) w A1 l1.length l1) (hc1 : l1.length ≤ c1) (h : impl_dot.f k l0 l1 = some r) :
  Calls Try.prog 56 #[.slice A0 l0.length c0, .slice A1 l1.length c1] w fun e w' => e = .returned (.int .i64 r) ∧ Drawn0 w w' := by
 have HR0 := Aside0.mk hr0
 have HC0 := Aside0.mk hc0
 clear hr0 hc0
 have HR1 := Aside0.mk hr1
 have HC1 := Aside0.mk hc1
 clear hr1 hc1
 have H : (impl_dot.l0 k l1 0 l0 (l0.length : Int) 0) = some r := h
 clear h
 have H' := Aside0.mk H
 clear H
 go_enter Try.func56, Try.ntmps56
 go_wp2
 go_loopg [5, 10] k (fun kq v5 v10 w' => ∃ (x5_1 : Int) (x10_1 : Int), v5 = .int .i64 x5_1 ∧ v10 = .int .i64 x10_1 ∧ Aside0 (impl_dot.l0 kq l1 x5_1 l0 (l0.length : Int) x10_1 = some r) ∧ Aside0 (kq ≤ k) ∧ Drawn0 w w')
 case atStart => exact ⟨(0), (0), (by first | rfl | (simp; done) | (simp [*]; done)), (by first | rfl | (simp; done) | (simp [*]; done)), H', ⟨Nat.le_refl _⟩, by repeat (first | exact Drawn0.refl _ | apply Drawn0.step)⟩
 case round =>
  clear H'
  try clear c1
  try clear p2
  obtain ⟨x5_1, x10_1, rfl, rfl, HA, HK1, ⟨m1, rfl⟩⟩ := hrel
  cases gk with
  | zero => exact absurd HA.out (by simp [impl_dot.l0])
  | succ k1 =>
   have H := HA.out
   clear HA
   simp only [impl_dot.l0] at H
   by_cases c3 : x10_1 < (l0.length : Int)
   ·rw [if_pos c3] at H
    have c3b0 := decide_eq_true c3
    clear c3
    by_cases c4 : 0 ≤ x10_1
    ·rw [if_pos c4] at H
     have c4b0 := decide_eq_true c4
     clear c4
     by_cases c5 : x10_1 < (l0.length : Int)
     ·rw [if_pos c5] at H
      have c5b0 := decide_eq_true c5
      clear c5
      by_cases c6 : x10_1 < (l1.length : Int)
      ·rw [if_pos c6] at H
       have c6b0 := decide_eq_true c6
       clear c6
       have H' := Aside0.mk H
       clear H
       have p603 : 0 ≤ (x10_1 : Int) := of_decide_eq_true (by first | (with_reducible assumption) | assumption)
       have q603 : x10_1 < (l0.length : Int) := of_decide_eq_true (by first | (with_reducible assumption) | assumption)
       obtain ⟨ad603, e603, hx603_0⟩ := Kd.at_int HR0.out x10_1 p603 q603
       cases e603
       replace p603 := eq_true p603
       replace q603 := eq_true q603
       have p604 : 0 ≤ (x10_1 : Int) := of_decide_eq_true (by first | (with_reducible assumption) | assumption)
       have q604 : x10_1 < (l1.length : Int) := of_decide_eq_true (by first | (with_reducible assumption) | assumption)
       obtain ⟨ad604, e604, hx604_0⟩ := Kd.at_int HR1.out x10_1 p604 q604
       cases e604
       replace p604 := eq_true p604
       replace q604 := eq_true q604
       go_wp2
       go_roundg k1
       case measure => have := HK1.out; omega
       case rel => exact ⟨(wrap64 (x5_1 + (wrap64 ((rd l0 x10_1) * (rd l1 x10_1))))), (wrap64 (x10_1 + 1)), (by first | rfl | (simp; done) | (simp [*]; done)), (by first | rfl | (simp; done) | (simp [*]; done)), H', ⟨by have := HK1.out; omega⟩, by repeat (first | exact Drawn0.refl _ | apply Drawn0.step)⟩
      ·rw [if_neg c6] at H
       exact absurd H (by simp)
     ·rw [if_neg c5] at H
      exact absurd H (by simp)
    ·rw [if_neg c4] at H
     exact absurd H (by simp)
   ·rw [if_neg c3] at H
    have c3b0 := decide_eq_false c3
    clear c3
    obtain rfl := Option.some.inj H
    go_wp2
    go_ret
    exact ⟨by first | rfl | (simp; done) | (simp [*]; done), by repeat (first | exact Drawn0.refl _ | apply Drawn0.step)⟩

/-! ### impl_FrmForm_at: function 39 -/
def impl_FrmForm_at.f (k : Nat) (l0_0 : List Int) (l0_1 : List Int) (a0_2 : Int) (l1 : List Int) (l2 : List Int) : Option (Int) := (impl_dot.f k l0_0 l1).bind fun t606 => ((impl_dot.f k l0_1 l2).bind fun t607 => (some (wrap64 ((wrap64 (t606 + t607)) + a0_2))))
theorem impl_FrmForm_at.mono : ∀ a0 a1 a2 a3 a4 k, LeO (impl_FrmForm_at.f k a0 a1 a2 a3 a4) (impl_FrmForm_at.f (k + 1) a0 a1 a2 a3 a4) := by
 intro a0 a1 a2 a3 a4 k
 unfold impl_FrmForm_at.f
 repeat' first
   | (with_reducible exact impl_dot.mono _ _ _)
   | (with_reducible exact LeO.refl _)
   | (with_reducible exact LeO.none _)
   | (with_reducible refine LeO.ite ?_ ?_)
   | (with_reducible refine LeO.bind ?_ (fun _ => ?_))
   | exact LeO.none _
   | refine LeO.ite ?_ ?_
   | refine LeO.bind ?_ (fun _ => ?_)
set_option maxHeartbeats 8000000 in
set_option maxRecDepth 100000 in
theorem impl_FrmForm_at.calls (k : Nat) (A0_0 : Option Addr) (c0_0 : Nat) (l0_0 : List Int) (A0_1 : Option Addr) (c0_1 : Nat) (l0_1 : List Int) (a0_2 : Int) (A1 : Option Addr) (c1 : Nat) (l1 : List Int) (A2 : Option Addr) (c2 : Nat) (l2 : List Int) (r : Int) (w : World) (hr0_0 : Kd.C (Kd.int .i64) w A0_0 l0_0.length l0_0) (hc0_0 : l0_0.length ≤ c0_0) (hr0_1 : Kd.C (Kd.int .i64) w A0_1 l0_1.length l0_1) (hc0_1 : l0_1.length ≤ c0_1) (hr1 : Kd.C (Kd.int .i64) w A1 l1.length l1) (hc1 : l1.length ≤ c1) (hr2 : Kd.C (Kd.int .i64) w A2 l2.length l2) (hc2 : l2.length ≤ c2) (h : impl_FrmForm_at.f k l0_0 l0_1 a0_2 l1 l2 = some r) :
  Calls Try.prog 39 #[.agg #[.slice A0_0 l0_0.length c0_0, .slice A0_1 l0_1.length c0_1, .int .i64 a0_2], .slice A1 l1.length c1, .slice A2 l2.length c2] w fun e w' => e = .returned (.int .i64 r) ∧ Below w.heap.size w w' := by
 have hu43 := Try.underlying43
 have HR0_0 := Aside0.mk hr0_0
 have HC0_0 := Aside0.mk hc0_0
 clear hr0_0 hc0_0
 have HR0_1 := Aside0.mk hr0_1
 have HC0_1 := Aside0.mk hc0_1
 clear hr0_1 hc0_1
 have HR1 := Aside0.mk hr1
 have HC1 := Aside0.mk hc1
 clear hr1 hc1
 have HR2 := Aside0.mk hr2
 have HC2 := Aside0.mk hc2
 clear hr2 hc2
 have HB := Aside0.mk (Below.refl w.heap.size w)
 have H : ((impl_dot.f k l0_0 l1).bind fun t606 => ((impl_dot.f k l0_1 l2).bind fun t607 => (some (wrap64 ((wrap64 (t606 + t607)) + a0_2))))) = some r := h
 clear h
 obtain ⟨t606, A4, H⟩ := bS H
 try dsimp only at H
 obtain ⟨t607, A5, H⟩ := bS H
 try dsimp only at H
 obtain rfl := Option.some.inj H
 go_enter Try.func39, Try.ntmps39
 go_wp2_with (first | ((with_reducible refine gate_dst (N := 3) rfl ?_); refine bx 3 #[.slice A0_0 l0_0.length c0_0, .slice A0_1 l0_1.length c0_1, .int .i64 a0_2] 43 ?_; intro gb605 hg w6 hbox hb; have BK605 := Aside0.mk (hbox); have GW605 := Aside0.mk ((gz hg HB.out)); have IGW605 : Nonempty _ := ⟨GW605.out⟩; have GE605 := Aside0.mk ((gz hg HB.out)); have IGE605 : Nonempty _ := ⟨GE605.out⟩; replace HB := Aside0.mk (bj HB.out hb); clear hb hbox hg; obtain ⟨hcz7_0, hcz7_1, hcz7_2, hfz7_0, hfz7_1, hfz7_2⟩ := cf3 BK605.out) | (go_at_call 56; (with_reducible refine (impl_dot.calls k _ _ l0_0 _ _ l1 t606 _ ?side1 ?side2 ?side3 ?side4 A4.out).mono ?_); (case side1 => exact lC <| (Kd.C_below HR0_0.out HB.out)); (case side2 => exact HC0_0.out); (case side3 => exact lC <| (Kd.C_below HR1.out HB.out)); (case side4 => exact HC1.out); rintro e w' ⟨rfl, ⟨nd, rfl⟩⟩; (try first | exact ⟨rfl, _, World.drewN_drewN _ _ _⟩ | exact ⟨rfl, _, Eq.trans (World.drewN_drewN _ _ _) (congrArg (World.drewN _) (Nat.add_assoc _ _ _))⟩)) | (go_at_call 56; (with_reducible refine (impl_dot.calls k _ _ l0_1 _ _ l2 t607 _ ?side1 ?side2 ?side3 ?side4 A5.out).mono ?_); (case side1 => repeat (first | exact (Kd.C_below HR0_1.out (by exact jB HB.out)) | (with_reducible refine Kd.C_alloc ?_ _) | (with_reducible refine Kd.C_drewN ?_ _) | (with_reducible refine Kd.C_drew ?_))); (case side2 => exact HC0_1.out); (case side3 => repeat (first | exact (Kd.C_below HR2.out (by exact jB HB.out)) | (with_reducible refine Kd.C_alloc ?_ _) | (with_reducible refine Kd.C_drewN ?_ _) | (with_reducible refine Kd.C_drew ?_))); (case side4 => exact HC2.out); rintro e w' ⟨rfl, ⟨nd, rfl⟩⟩; (try first | exact ⟨rfl, _, World.drewN_drewN _ _ _⟩ | exact ⟨rfl, _, Eq.trans (World.drewN_drewN _ _ _) (congrArg (World.drewN _) (Nat.add_assoc _ _ _))⟩)))
 repeat (go_quiet (first | ((with_reducible refine gate_dst (N := 3) rfl ?_); refine bx 3 #[.slice A0_0 l0_0.length c0_0, .slice A0_1 l0_1.length c0_1, .int .i64 a0_2] 43 ?_; intro gb605 hg w6 hbox hb; have BK605 := Aside0.mk (hbox); have GW605 := Aside0.mk ((gz hg HB.out)); have IGW605 : Nonempty _ := ⟨GW605.out⟩; have GE605 := Aside0.mk ((gz hg HB.out)); have IGE605 : Nonempty _ := ⟨GE605.out⟩; replace HB := Aside0.mk (bj HB.out hb); clear hb hbox hg; obtain ⟨hcz7_0, hcz7_1, hcz7_2, hfz7_0, hfz7_1, hfz7_2⟩ := cf3 BK605.out) | (go_at_call 56; (with_reducible refine (impl_dot.calls k _ _ l0_0 _ _ l1 t606 _ ?side1 ?side2 ?side3 ?side4 A4.out).mono ?_); (case side1 => exact lC <| (Kd.C_below HR0_0.out HB.out)); (case side2 => exact HC0_0.out); (case side3 => exact lC <| (Kd.C_below HR1.out HB.out)); (case side4 => exact HC1.out); rintro e w' ⟨rfl, ⟨nd, rfl⟩⟩; (try first | exact ⟨rfl, _, World.drewN_drewN _ _ _⟩ | exact ⟨rfl, _, Eq.trans (World.drewN_drewN _ _ _) (congrArg (World.drewN _) (Nat.add_assoc _ _ _))⟩)) | (go_at_call 56; (with_reducible refine (impl_dot.calls k _ _ l0_1 _ _ l2 t607 _ ?side1 ?side2 ?side3 ?side4 A5.out).mono ?_); (case side1 => repeat (first | exact (Kd.C_below HR0_1.out (by exact jB HB.out)) | (with_reducible refine Kd.C_alloc ?_ _) | (with_reducible refine Kd.C_drewN ?_ _) | (with_reducible refine Kd.C_drew ?_))); (case side2 => exact HC0_1.out); (case side3 => repeat (first | exact (Kd.C_below HR2.out (by exact jB HB.out)) | (with_reducible refine Kd.C_alloc ?_ _) | (with_reducible refine Kd.C_drewN ?_ _) | (with_reducible refine Kd.C_drew ?_))); (case side4 => exact HC2.out); rintro e w' ⟨rfl, ⟨nd, rfl⟩⟩; (try first | exact ⟨rfl, _, World.drewN_drewN _ _ _⟩ | exact ⟨rfl, _, Eq.trans (World.drewN_drewN _ _ _) (congrArg (World.drewN _) (Nat.add_assoc _ _ _))⟩))); try go_wp2_with (first | ((with_reducible refine gate_dst (N := 3) rfl ?_); refine bx 3 #[.slice A0_0 l0_0.length c0_0, .slice A0_1 l0_1.length c0_1, .int .i64 a0_2] 43 ?_; intro gb605 hg w6 hbox hb; have BK605 := Aside0.mk (hbox); have GW605 := Aside0.mk ((gz hg HB.out)); have IGW605 : Nonempty _ := ⟨GW605.out⟩; have GE605 := Aside0.mk ((gz hg HB.out)); have IGE605 : Nonempty _ := ⟨GE605.out⟩; replace HB := Aside0.mk (bj HB.out hb); clear hb hbox hg; obtain ⟨hcz7_0, hcz7_1, hcz7_2, hfz7_0, hfz7_1, hfz7_2⟩ := cf3 BK605.out) | (go_at_call 56; (with_reducible refine (impl_dot.calls k _ _ l0_0 _ _ l1 t606 _ ?side1 ?side2 ?side3 ?side4 A4.out).mono ?_); (case side1 => exact lC <| (Kd.C_below HR0_0.out HB.out)); (case side2 => exact HC0_0.out); (case side3 => exact lC <| (Kd.C_below HR1.out HB.out)); (case side4 => exact HC1.out); rintro e w' ⟨rfl, ⟨nd, rfl⟩⟩; (try first | exact ⟨rfl, _, World.drewN_drewN _ _ _⟩ | exact ⟨rfl, _, Eq.trans (World.drewN_drewN _ _ _) (congrArg (World.drewN _) (Nat.add_assoc _ _ _))⟩)) | (go_at_call 56; (with_reducible refine (impl_dot.calls k _ _ l0_1 _ _ l2 t607 _ ?side1 ?side2 ?side3 ?side4 A5.out).mono ?_); (case side1 => repeat (first | exact (Kd.C_below HR0_1.out (by exact jB HB.out)) | (with_reducible refine Kd.C_alloc ?_ _) | (with_reducible refine Kd.C_drewN ?_ _) | (with_reducible refine Kd.C_drew ?_))); (case side2 => exact HC0_1.out); (case side3 => repeat (first | exact (Kd.C_below HR2.out (by exact jB HB.out)) | (with_reducible refine Kd.C_alloc ?_ _) | (with_reducible refine Kd.C_drewN ?_ _) | (with_reducible refine Kd.C_drew ?_))); (case side4 => exact HC2.out); rintro e w' ⟨rfl, ⟨nd, rfl⟩⟩; (try first | exact ⟨rfl, _, World.drewN_drewN _ _ _⟩ | exact ⟨rfl, _, Eq.trans (World.drewN_drewN _ _ _) (congrArg (World.drewN _) (Nat.add_assoc _ _ _))⟩))))
 go_ret
 exact ⟨by first | rfl | (simp [errW_none, errW_some] <;> rfl) | (simp [*, errW_none, errW_some] <;> rfl), by exact jB HB.out⟩

end Go.Proofs.Ytgalnmgkcdmnkaa.QFnActSkip

-- shorter
