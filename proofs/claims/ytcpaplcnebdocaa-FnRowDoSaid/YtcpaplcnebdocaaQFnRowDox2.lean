/- Plain functions, and that the Go code computes them: written by a program of this session over the seat's translation; the conditions stand in each theorem. -/
import Derived.Test.YtcpaplcnebdocaaHW5
import Derived.Test.YtcpaplcnebdocaaQFnRowDox0
import Derived.Test.YtcpaplcnebdocaaQFnRowDox1
namespace Go.Proofs.Ytcpaplcnebdocaa.QFnRowDo
open Go.RowKit Go.Proofs.YtcpaplcnebdocaaW.PrintWords Go.Proofs.YtcpaplcnebdocaaW.PrintLast Go.Proofs.YtcpaplcnebdocaaW.PrintMore Go.Proofs.Ytcpaplcnebdocaa.HWords
open Value (ownBlock)
attribute [local go_sem] max2_int min2_int max_two min_two max_three min_three max_four min_four   -- for this text's walks alone
set_option linter.unusedVariables false
set_option linter.unusedSimpArgs false
set_option maxRecDepth 100000
set_option maxHeartbeats 8000000
/-! ### spec_l2Line: function 88 -/
def spec_l2Line.f (k : Nat) (a0_0 : Int) (a0_1 : Int) (a0_2 : Int) (l0_3 : List Int) (l0_4 : List Int) (a0_5 : Int) : Option (Bool) := if a0_0 = 1 then (if a0_1 = 0 then ((spec_l1In.f a0_2 1 6).bind fun t111 => (if t111 = true then ((spec_l2Small.f k l0_3 l0_4 a0_5).bind fun t112 => (some t112)) else (some false))) else (some false)) else (if a0_0 = 2 then ((spec_l1In.f a0_1 0 2).bind fun t113 => (if t113 = true then (if a0_2 = 0 then ((spec_l2Small.f k l0_3 l0_4 a0_5).bind fun t114 => (some t114)) else (some false)) else (some false))) else (if a0_0 = 3 then (if a0_1 = 0 then (if a0_2 = 0 then ((spec_l2Small.f k l0_3 l0_4 a0_5).bind fun t115 => (some t115)) else (some false)) else (some false)) else (if a0_0 = 4 then (if a0_1 = 0 then (if a0_2 = 0 then (if (wrap64 ((l0_3.length : Int) + (l0_4.length : Int))) = 0 then (some (a0_5 == 0)) else (some false)) else (some false)) else (some false)) else (some false))))
theorem spec_l2Line.calls (k : Nat) (a0_0 : Int) (a0_1 : Int) (a0_2 : Int) (A0_3 : Option Addr) (c0_3 : Nat) (l0_3 : List Int) (A0_4 : Option Addr) (c0_4 : Nat) (l0_4 : List Int) (a0_5 : Int) (r : Bool) (w : World) (hr0_3 : Kd.C (Kd.int .i64) w A0_3 l0_3.length l0_3) (hc0_3 : l0_3.length ≤ c0_3) (hr0_4 : Kd.C (Kd.int .i64) w A0_4 l0_4.length l0_4) (hc0_4 : l0_4.length ≤ c0_4) (h : spec_l2Line.f k a0_0 a0_1 a0_2 l0_3 l0_4 a0_5 = some r) :
  Calls Try.prog 88 #[.agg #[.int .i64 a0_0, .int .i64 a0_1, .int .i64 a0_2, .slice A0_3 l0_3.length c0_3, .slice A0_4 l0_4.length c0_4, .int .i64 a0_5]] w fun e w' => e = .returned (.bool r) ∧ Below w.heap.size w w' := by
 have hu100 := Try.underlying100; have hu34 := Try.underlying34; have HR0_3 := aM hr0_3; have HC0_3 := aM hc0_3; clear hr0_3 hc0_3; have HR0_4 := aM hr0_4; have HC0_4 := aM hc0_4; clear hr0_4 hc0_4; have HB := aM (Below.refl w.heap.size w); have H : (if a0_0 = 1 then (if a0_1 = 0 then ((spec_l1In.f a0_2 1 6).bind fun t111 => (if t111 = true then ((spec_l2Small.f k l0_3 l0_4 a0_5).bind fun t112 => (some t112)) else (some false))) else (some false)) else (if a0_0 = 2 then ((spec_l1In.f a0_1 0 2).bind fun t113 => (if t113 = true then (if a0_2 = 0 then ((spec_l2Small.f k l0_3 l0_4 a0_5).bind fun t114 => (some t114)) else (some false)) else (some false))) else (if a0_0 = 3 then (if a0_1 = 0 then (if a0_2 = 0 then ((spec_l2Small.f k l0_3 l0_4 a0_5).bind fun t115 => (some t115)) else (some false)) else (some false)) else (if a0_0 = 4 then (if a0_1 = 0 then (if a0_2 = 0 then (if (wrap64 ((l0_3.length : Int) + (l0_4.length : Int))) = 0 then (some (a0_5 == 0)) else (some false)) else (some false)) else (some false)) else (some false))))) = some r := h
 clear h
 by_cases c2 : a0_0 = 1
 ·rw [if_pos c2] at H; have c2b0 := beq_iff_eq.mpr c2
  have c2b1 := bne_eq_false_iff_eq.mpr c2
  clear c2
  by_cases c3 : a0_1 = 0
  ·rw [if_pos c3] at H; have c3b0 := beq_iff_eq.mpr c3
   have c3b1 := bne_eq_false_iff_eq.mpr c3
   clear c3; obtain ⟨t111, A4, H⟩ := bS H
   try dsimp only at H
   by_cases c5 : t111 = true
   ·subst c5; rw [if_pos rfl] at H
    try dsimp only at H
    obtain ⟨t112, A6, H⟩ := bS H
    try dsimp only at H
    obtain rfl := Option.some.inj H
    go_enter Try.func88, Try.ntmps88
    go_wp2_with (first | ((with_reducible refine gate_dst (N := 1) rfl ?_); (try (refine gate_guard (by rfl) ?_; dsimp only)); refine bx 1 #[.int .i64 a0_0, .int .i64 a0_1, .int .i64 a0_2, .slice A0_3 l0_3.length c0_3, .slice A0_4 l0_4.length c0_4, .int .i64 a0_5] 100 ?_; intro gb110 hg w7 hbox hb; have BK110 := aM (hbox); have GW110 := aM (gz hg HB.out); have IGW110 := wn GW110.out; have GE110 := aM (gz hg HB.out); have IGE110 := wn GE110.out; replace HB := aM (bj HB.out hb); clear hb hbox hg; obtain ⟨hcz8_0, hcz8_1, hcz8_2, hcz8_3, hcz8_4, hcz8_5, hfz8_0, hfz8_1, hfz8_2, hfz8_3, hfz8_4, hfz8_5⟩ := cf6 BK110.out) | (go_at_call 57; (with_reducible refine (spec_l1In.calls a0_2 1 6 true _ A4.out).mono ?_); rintro e w' ⟨rfl, ⟨nd, rfl⟩⟩) | (go_at_call 94; (with_reducible refine (spec_l2Small.calls k _ _ l0_3 _ _ l0_4 a0_5 t112 _ ?side1 ?side2 ?side3 ?side4 A6.out).mono ?_); (case side1 => repeat (first | exact (Kd.C_below HR0_3.out (by exact jB HB.out)) | (with_reducible refine Kd.C_alloc ?_ _) | (with_reducible refine Kd.C_drewN ?_ _) | (with_reducible refine Kd.C_drew ?_))); (case side2 => exact HC0_3.out); (case side3 => repeat (first | exact (Kd.C_below HR0_4.out (by exact jB HB.out)) | (with_reducible refine Kd.C_alloc ?_ _) | (with_reducible refine Kd.C_drewN ?_ _) | (with_reducible refine Kd.C_drew ?_))); (case side4 => exact HC0_4.out); rintro e w9 ⟨rfl, hb⟩; replace BK110 := aM (bb BK110.out hb); replace HB := aM (bj HB.out hb); (try clear hb)))
    go_ret
    exact ⟨er, by exact jB HB.out⟩
   ·replace c5 := Bool.eq_false_iff.mpr c5
    subst c5; rw [if_neg nf] at H
    try dsimp only at H
    obtain rfl := Option.some.inj H
    go_enter Try.func88, Try.ntmps88
    go_wp2_with (first | ((with_reducible refine gate_dst (N := 1) rfl ?_); (try (refine gate_guard (by rfl) ?_; dsimp only)); refine bx 1 #[.int .i64 a0_0, .int .i64 a0_1, .int .i64 a0_2, .slice A0_3 l0_3.length c0_3, .slice A0_4 l0_4.length c0_4, .int .i64 a0_5] 100 ?_; intro gb110 hg w10 hbox hb; have BK110 := aM (hbox); have GW110 := aM (gz hg HB.out); have IGW110 := wn GW110.out; have GE110 := aM (gz hg HB.out); have IGE110 := wn GE110.out; replace HB := aM (bj HB.out hb); clear hb hbox hg; obtain ⟨hcz11_0, hcz11_1, hcz11_2, hcz11_3, hcz11_4, hcz11_5, hfz11_0, hfz11_1, hfz11_2, hfz11_3, hfz11_4, hfz11_5⟩ := cf6 BK110.out) | (go_at_call 57; (with_reducible refine (spec_l1In.calls a0_2 1 6 false _ A4.out).mono ?_); rintro e w' ⟨rfl, ⟨nd, rfl⟩⟩))
    go_ret
    exact ⟨er, by exact jB HB.out⟩
  ·rw [if_neg c3] at H; have c3b0 := beq_eq_false_iff_ne.mpr c3
   have c3b1 := bne_iff_ne.mpr c3
   obtain rfl := Option.some.inj H
   go_enter Try.func88, Try.ntmps88
   go_wp2_with (first | ((with_reducible refine gate_dst (N := 1) rfl ?_); (try (refine gate_guard (by rfl) ?_; dsimp only)); refine bx 1 #[.int .i64 a0_0, .int .i64 a0_1, .int .i64 a0_2, .slice A0_3 l0_3.length c0_3, .slice A0_4 l0_4.length c0_4, .int .i64 a0_5] 100 ?_; intro gb110 hg w12 hbox hb; have BK110 := aM (hbox); have GW110 := aM (gz hg HB.out); have IGW110 := wn GW110.out; have GE110 := aM (gz hg HB.out); have IGE110 := wn GE110.out; replace HB := aM (bj HB.out hb); clear hb hbox hg; obtain ⟨hcz13_0, hcz13_1, hcz13_2, hcz13_3, hcz13_4, hcz13_5, hfz13_0, hfz13_1, hfz13_2, hfz13_3, hfz13_4, hfz13_5⟩ := cf6 BK110.out))
   go_ret
   exact ⟨er, by exact jB HB.out⟩
 ·rw [if_neg c2] at H; have c2b0 := beq_eq_false_iff_ne.mpr c2
  have c2b1 := bne_iff_ne.mpr c2
  by_cases c14 : a0_0 = 2
  ·rw [if_pos c14] at H; have c14b0 := beq_iff_eq.mpr c14
   have c14b1 := bne_eq_false_iff_eq.mpr c14
   clear c14; obtain ⟨t113, A15, H⟩ := bS H
   try dsimp only at H
   by_cases c16 : t113 = true
   ·subst c16; rw [if_pos rfl] at H
    try dsimp only at H
    by_cases c17 : a0_2 = 0
    ·rw [if_pos c17] at H; have c17b0 := beq_iff_eq.mpr c17
     have c17b1 := bne_eq_false_iff_eq.mpr c17
     clear c17; obtain ⟨t114, A18, H⟩ := bS H
     try dsimp only at H
     obtain rfl := Option.some.inj H
     go_enter Try.func88, Try.ntmps88
     go_wp2_with (first | ((with_reducible refine gate_dst (N := 1) rfl ?_); (try (refine gate_guard (by rfl) ?_; dsimp only)); refine bx 1 #[.int .i64 a0_0, .int .i64 a0_1, .int .i64 a0_2, .slice A0_3 l0_3.length c0_3, .slice A0_4 l0_4.length c0_4, .int .i64 a0_5] 100 ?_; intro gb110 hg w19 hbox hb; have BK110 := aM (hbox); have GW110 := aM (gz hg HB.out); have IGW110 := wn GW110.out; have GE110 := aM (gz hg HB.out); have IGE110 := wn GE110.out; replace HB := aM (bj HB.out hb); clear hb hbox hg; obtain ⟨hcz20_0, hcz20_1, hcz20_2, hcz20_3, hcz20_4, hcz20_5, hfz20_0, hfz20_1, hfz20_2, hfz20_3, hfz20_4, hfz20_5⟩ := cf6 BK110.out) | (refine gL (some 24) Try.func57 #[.int .i64 a0_1, .int .i64 0, .int .i64 2] ?_; (with_reducible refine (spec_l1In.calls a0_1 0 2 true _ A15.out).mono ?_); rintro e w' ⟨rfl, ⟨nd, rfl⟩⟩; refine ⟨_, rfl, ?_⟩) | (go_at_call 94; (with_reducible refine (spec_l2Small.calls k _ _ l0_3 _ _ l0_4 a0_5 t114 _ ?side1 ?side2 ?side3 ?side4 A18.out).mono ?_); (case side1 => repeat (first | exact (Kd.C_below HR0_3.out (by exact jB HB.out)) | (with_reducible refine Kd.C_alloc ?_ _) | (with_reducible refine Kd.C_drewN ?_ _) | (with_reducible refine Kd.C_drew ?_))); (case side2 => exact HC0_3.out); (case side3 => repeat (first | exact (Kd.C_below HR0_4.out (by exact jB HB.out)) | (with_reducible refine Kd.C_alloc ?_ _) | (with_reducible refine Kd.C_drewN ?_ _) | (with_reducible refine Kd.C_drew ?_))); (case side4 => exact HC0_4.out); rintro e w21 ⟨rfl, hb⟩; replace BK110 := aM (bb BK110.out hb); replace HB := aM (bj HB.out hb); (try clear hb)))
     go_ret
     exact ⟨er, by exact jB HB.out⟩
    ·rw [if_neg c17] at H; have c17b0 := beq_eq_false_iff_ne.mpr c17
     have c17b1 := bne_iff_ne.mpr c17
     obtain rfl := Option.some.inj H
     go_enter Try.func88, Try.ntmps88
     go_wp2_with (first | ((with_reducible refine gate_dst (N := 1) rfl ?_); (try (refine gate_guard (by rfl) ?_; dsimp only)); refine bx 1 #[.int .i64 a0_0, .int .i64 a0_1, .int .i64 a0_2, .slice A0_3 l0_3.length c0_3, .slice A0_4 l0_4.length c0_4, .int .i64 a0_5] 100 ?_; intro gb110 hg w22 hbox hb; have BK110 := aM (hbox); have GW110 := aM (gz hg HB.out); have IGW110 := wn GW110.out; have GE110 := aM (gz hg HB.out); have IGE110 := wn GE110.out; replace HB := aM (bj HB.out hb); clear hb hbox hg; obtain ⟨hcz23_0, hcz23_1, hcz23_2, hcz23_3, hcz23_4, hcz23_5, hfz23_0, hfz23_1, hfz23_2, hfz23_3, hfz23_4, hfz23_5⟩ := cf6 BK110.out) | (refine gL (some 24) Try.func57 #[.int .i64 a0_1, .int .i64 0, .int .i64 2] ?_; (with_reducible refine (spec_l1In.calls a0_1 0 2 true _ A15.out).mono ?_); rintro e w' ⟨rfl, ⟨nd, rfl⟩⟩; refine ⟨_, rfl, ?_⟩))
     go_ret
     exact ⟨er, by exact jB HB.out⟩
   ·replace c16 := Bool.eq_false_iff.mpr c16
    subst c16; rw [if_neg nf] at H
    try dsimp only at H
    obtain rfl := Option.some.inj H
    go_enter Try.func88, Try.ntmps88
    go_wp2_with (first | ((with_reducible refine gate_dst (N := 1) rfl ?_); (try (refine gate_guard (by rfl) ?_; dsimp only)); refine bx 1 #[.int .i64 a0_0, .int .i64 a0_1, .int .i64 a0_2, .slice A0_3 l0_3.length c0_3, .slice A0_4 l0_4.length c0_4, .int .i64 a0_5] 100 ?_; intro gb110 hg w24 hbox hb; have BK110 := aM (hbox); have GW110 := aM (gz hg HB.out); have IGW110 := wn GW110.out; have GE110 := aM (gz hg HB.out); have IGE110 := wn GE110.out; replace HB := aM (bj HB.out hb); clear hb hbox hg; obtain ⟨hcz25_0, hcz25_1, hcz25_2, hcz25_3, hcz25_4, hcz25_5, hfz25_0, hfz25_1, hfz25_2, hfz25_3, hfz25_4, hfz25_5⟩ := cf6 BK110.out) | (refine gL (some 24) Try.func57 #[.int .i64 a0_1, .int .i64 0, .int .i64 2] ?_; (with_reducible refine (spec_l1In.calls a0_1 0 2 false _ A15.out).mono ?_); rintro e w' ⟨rfl, ⟨nd, rfl⟩⟩; refine ⟨_, rfl, ?_⟩))
    go_ret
    exact ⟨er, by exact jB HB.out⟩
  ·rw [if_neg c14] at H; have c14b0 := beq_eq_false_iff_ne.mpr c14
   have c14b1 := bne_iff_ne.mpr c14
   by_cases c26 : a0_0 = 3
   ·rw [if_pos c26] at H; have c26b0 := beq_iff_eq.mpr c26
    have c26b1 := bne_eq_false_iff_eq.mpr c26
    clear c26
    by_cases c27 : a0_1 = 0
    ·rw [if_pos c27] at H; have c27b0 := beq_iff_eq.mpr c27
     have c27b1 := bne_eq_false_iff_eq.mpr c27
     clear c27
     by_cases c28 : a0_2 = 0
     ·rw [if_pos c28] at H; have c28b0 := beq_iff_eq.mpr c28
      have c28b1 := bne_eq_false_iff_eq.mpr c28
      clear c28; obtain ⟨t115, A29, H⟩ := bS H
      try dsimp only at H
      obtain rfl := Option.some.inj H
      go_enter Try.func88, Try.ntmps88
      go_wp2_with (first | ((with_reducible refine gate_dst (N := 1) rfl ?_); (try (refine gate_guard (by rfl) ?_; dsimp only)); refine bx 1 #[.int .i64 a0_0, .int .i64 a0_1, .int .i64 a0_2, .slice A0_3 l0_3.length c0_3, .slice A0_4 l0_4.length c0_4, .int .i64 a0_5] 100 ?_; intro gb110 hg w30 hbox hb; have BK110 := aM (hbox); have GW110 := aM (gz hg HB.out); have IGW110 := wn GW110.out; have GE110 := aM (gz hg HB.out); have IGE110 := wn GE110.out; replace HB := aM (bj HB.out hb); clear hb hbox hg; obtain ⟨hcz31_0, hcz31_1, hcz31_2, hcz31_3, hcz31_4, hcz31_5, hfz31_0, hfz31_1, hfz31_2, hfz31_3, hfz31_4, hfz31_5⟩ := cf6 BK110.out) | (go_at_call 94; (with_reducible refine (spec_l2Small.calls k _ _ l0_3 _ _ l0_4 a0_5 t115 _ (by exact lC <| (Kd.C_below HR0_3.out HB.out)) HC0_3.out (by exact lC <| (Kd.C_below HR0_4.out HB.out)) HC0_4.out A29.out).mono ?_); rintro e w32 ⟨rfl, hb⟩; replace BK110 := aM (bb BK110.out hb); replace HB := aM (bj HB.out hb); (try clear hb)))
      go_ret
      exact ⟨er, by exact jB HB.out⟩
     ·rw [if_neg c28] at H; have c28b0 := beq_eq_false_iff_ne.mpr c28
      have c28b1 := bne_iff_ne.mpr c28
      obtain rfl := Option.some.inj H
      go_enter Try.func88, Try.ntmps88
      go_wp2_with (first | ((with_reducible refine gate_dst (N := 1) rfl ?_); (try (refine gate_guard (by rfl) ?_; dsimp only)); refine bx 1 #[.int .i64 a0_0, .int .i64 a0_1, .int .i64 a0_2, .slice A0_3 l0_3.length c0_3, .slice A0_4 l0_4.length c0_4, .int .i64 a0_5] 100 ?_; intro gb110 hg w33 hbox hb; have BK110 := aM (hbox); have GW110 := aM (gz hg HB.out); have IGW110 := wn GW110.out; have GE110 := aM (gz hg HB.out); have IGE110 := wn GE110.out; replace HB := aM (bj HB.out hb); clear hb hbox hg; obtain ⟨hcz34_0, hcz34_1, hcz34_2, hcz34_3, hcz34_4, hcz34_5, hfz34_0, hfz34_1, hfz34_2, hfz34_3, hfz34_4, hfz34_5⟩ := cf6 BK110.out))
      go_ret
      exact ⟨er, by exact jB HB.out⟩
    ·rw [if_neg c27] at H; have c27b0 := beq_eq_false_iff_ne.mpr c27
     have c27b1 := bne_iff_ne.mpr c27
     obtain rfl := Option.some.inj H
     go_enter Try.func88, Try.ntmps88
     go_wp2_with (first | ((with_reducible refine gate_dst (N := 1) rfl ?_); (try (refine gate_guard (by rfl) ?_; dsimp only)); refine bx 1 #[.int .i64 a0_0, .int .i64 a0_1, .int .i64 a0_2, .slice A0_3 l0_3.length c0_3, .slice A0_4 l0_4.length c0_4, .int .i64 a0_5] 100 ?_; intro gb110 hg w35 hbox hb; have BK110 := aM (hbox); have GW110 := aM (gz hg HB.out); have IGW110 := wn GW110.out; have GE110 := aM (gz hg HB.out); have IGE110 := wn GE110.out; replace HB := aM (bj HB.out hb); clear hb hbox hg; obtain ⟨hcz36_0, hcz36_1, hcz36_2, hcz36_3, hcz36_4, hcz36_5, hfz36_0, hfz36_1, hfz36_2, hfz36_3, hfz36_4, hfz36_5⟩ := cf6 BK110.out))
     go_ret
     exact ⟨er, by exact jB HB.out⟩
   ·rw [if_neg c26] at H; have c26b0 := beq_eq_false_iff_ne.mpr c26
    have c26b1 := bne_iff_ne.mpr c26
    by_cases c37 : a0_0 = 4
    ·rw [if_pos c37] at H; have c37b0 := beq_iff_eq.mpr c37
     have c37b1 := bne_eq_false_iff_eq.mpr c37
     clear c37
     by_cases c38 : a0_1 = 0
     ·rw [if_pos c38] at H; have c38b0 := beq_iff_eq.mpr c38
      have c38b1 := bne_eq_false_iff_eq.mpr c38
      clear c38
      by_cases c39 : a0_2 = 0
      ·rw [if_pos c39] at H; have c39b0 := beq_iff_eq.mpr c39
       have c39b1 := bne_eq_false_iff_eq.mpr c39
       clear c39
       by_cases c40 : (wrap64 ((l0_3.length : Int) + (l0_4.length : Int))) = 0
       ·rw [if_pos c40] at H; have c40b0 := beq_iff_eq.mpr c40
        have c40b1 := bne_eq_false_iff_eq.mpr c40
        clear c40; obtain rfl := Option.some.inj H
        go_enter Try.func88, Try.ntmps88
        go_wp2_with (first | ((with_reducible refine gate_dst (N := 1) rfl ?_); (try (refine gate_guard (by rfl) ?_; dsimp only)); refine bx 1 #[.int .i64 a0_0, .int .i64 a0_1, .int .i64 a0_2, .slice A0_3 l0_3.length c0_3, .slice A0_4 l0_4.length c0_4, .int .i64 a0_5] 100 ?_; intro gb110 hg w41 hbox hb; have BK110 := aM (hbox); have GW110 := aM (gz hg HB.out); have IGW110 := wn GW110.out; have GE110 := aM (gz hg HB.out); have IGE110 := wn GE110.out; replace HB := aM (bj HB.out hb); clear hb hbox hg; obtain ⟨hcz42_0, hcz42_1, hcz42_2, hcz42_3, hcz42_4, hcz42_5, hfz42_0, hfz42_1, hfz42_2, hfz42_3, hfz42_4, hfz42_5⟩ := cf6 BK110.out))
        go_ret
        exact ⟨er, by exact jB HB.out⟩
       ·rw [if_neg c40] at H; have c40b0 := beq_eq_false_iff_ne.mpr c40
        have c40b1 := bne_iff_ne.mpr c40
        obtain rfl := Option.some.inj H
        go_enter Try.func88, Try.ntmps88
        go_wp2_with (first | ((with_reducible refine gate_dst (N := 1) rfl ?_); (try (refine gate_guard (by rfl) ?_; dsimp only)); refine bx 1 #[.int .i64 a0_0, .int .i64 a0_1, .int .i64 a0_2, .slice A0_3 l0_3.length c0_3, .slice A0_4 l0_4.length c0_4, .int .i64 a0_5] 100 ?_; intro gb110 hg w43 hbox hb; have BK110 := aM (hbox); have GW110 := aM (gz hg HB.out); have IGW110 := wn GW110.out; have GE110 := aM (gz hg HB.out); have IGE110 := wn GE110.out; replace HB := aM (bj HB.out hb); clear hb hbox hg; obtain ⟨hcz44_0, hcz44_1, hcz44_2, hcz44_3, hcz44_4, hcz44_5, hfz44_0, hfz44_1, hfz44_2, hfz44_3, hfz44_4, hfz44_5⟩ := cf6 BK110.out))
        go_ret
        exact ⟨er, by exact jB HB.out⟩
      ·rw [if_neg c39] at H; have c39b0 := beq_eq_false_iff_ne.mpr c39
       have c39b1 := bne_iff_ne.mpr c39
       obtain rfl := Option.some.inj H
       go_enter Try.func88, Try.ntmps88
       go_wp2_with (first | ((with_reducible refine gate_dst (N := 1) rfl ?_); (try (refine gate_guard (by rfl) ?_; dsimp only)); refine bx 1 #[.int .i64 a0_0, .int .i64 a0_1, .int .i64 a0_2, .slice A0_3 l0_3.length c0_3, .slice A0_4 l0_4.length c0_4, .int .i64 a0_5] 100 ?_; intro gb110 hg w45 hbox hb; have BK110 := aM (hbox); have GW110 := aM (gz hg HB.out); have IGW110 := wn GW110.out; have GE110 := aM (gz hg HB.out); have IGE110 := wn GE110.out; replace HB := aM (bj HB.out hb); clear hb hbox hg; obtain ⟨hcz46_0, hcz46_1, hcz46_2, hcz46_3, hcz46_4, hcz46_5, hfz46_0, hfz46_1, hfz46_2, hfz46_3, hfz46_4, hfz46_5⟩ := cf6 BK110.out))
       go_ret
       exact ⟨er, by exact jB HB.out⟩
     ·rw [if_neg c38] at H; have c38b0 := beq_eq_false_iff_ne.mpr c38
      have c38b1 := bne_iff_ne.mpr c38
      obtain rfl := Option.some.inj H
      go_enter Try.func88, Try.ntmps88
      go_wp2_with (first | ((with_reducible refine gate_dst (N := 1) rfl ?_); (try (refine gate_guard (by rfl) ?_; dsimp only)); refine bx 1 #[.int .i64 a0_0, .int .i64 a0_1, .int .i64 a0_2, .slice A0_3 l0_3.length c0_3, .slice A0_4 l0_4.length c0_4, .int .i64 a0_5] 100 ?_; intro gb110 hg w47 hbox hb; have BK110 := aM (hbox); have GW110 := aM (gz hg HB.out); have IGW110 := wn GW110.out; have GE110 := aM (gz hg HB.out); have IGE110 := wn GE110.out; replace HB := aM (bj HB.out hb); clear hb hbox hg; obtain ⟨hcz48_0, hcz48_1, hcz48_2, hcz48_3, hcz48_4, hcz48_5, hfz48_0, hfz48_1, hfz48_2, hfz48_3, hfz48_4, hfz48_5⟩ := cf6 BK110.out))
      go_ret
      exact ⟨er, by exact jB HB.out⟩
    ·rw [if_neg c37] at H; have c37b0 := beq_eq_false_iff_ne.mpr c37
     have c37b1 := bne_iff_ne.mpr c37
     obtain rfl := Option.some.inj H
     go_enter Try.func88, Try.ntmps88
     go_wp2_with (first | ((with_reducible refine gate_dst (N := 1) rfl ?_); (try (refine gate_guard (by rfl) ?_; dsimp only)); refine bx 1 #[.int .i64 a0_0, .int .i64 a0_1, .int .i64 a0_2, .slice A0_3 l0_3.length c0_3, .slice A0_4 l0_4.length c0_4, .int .i64 a0_5] 100 ?_; intro gb110 hg w49 hbox hb; have BK110 := aM (hbox); have GW110 := aM (gz hg HB.out); have IGW110 := wn GW110.out; have GE110 := aM (gz hg HB.out); have IGE110 := wn GE110.out; replace HB := aM (bj HB.out hb); clear hb hbox hg; obtain ⟨hcz50_0, hcz50_1, hcz50_2, hcz50_3, hcz50_4, hcz50_5, hfz50_0, hfz50_1, hfz50_2, hfz50_3, hfz50_4, hfz50_5⟩ := cf6 BK110.out))
     go_ret
     exact ⟨er, by exact jB HB.out⟩
/-! ### spec_ActOk: function 75 -/
def spec_ActOk.l0 : Nat → List (S100) → Int → Int → Option (Bool)
 | 0, _, _, _ => none
 | k + 1, x0, x3, x4 => if x4 < (x0.length : Int) then (if 0 ≤ x4 then ((spec_l2Line.f k ((rd_T100 x0 x4).f0) ((rd_T100 x0 x4).f1) ((rd_T100 x0 x4).f2) ((rd_T100 x0 x4).f3.f0) ((rd_T100 x0 x4).f3.f1) ((rd_T100 x0 x4).f3.f2)).bind fun t117 => (if t117 = true then (if ((rd_T100 x0 x4).f0) = 1 then (spec_ActOk.l0 k x0 (wrap64 (x3 + 1)) (wrap64 (x4 + 1))) else (spec_ActOk.l0 k x0 x3 (wrap64 (x4 + 1)))) else (some false))) else (none)) else (if (x0.length : Int) ≤ 6 then (some (decide (x3 ≤ 3))) else (some false))
def spec_ActOk.f (k : Nat) (l0 : List (S100)) : Option (Bool) := spec_ActOk.l0 k l0 0 0
theorem spec_ActOk.calls (k : Nat) (A0 : Option Addr) (c0 : Nat) (l0 : List (S100)) (r : Bool) (w : World) (hr0 : Kd.C k100 w A0 l0.length l0) (hc0 : l0.length ≤ c0) (h : spec_ActOk.f k l0 = some r) :
  Calls Try.prog 75 #[.slice A0 l0.length c0] w fun e w' => e = .returned (.bool r) ∧ Below w.heap.size w w' := by
 have hu100 := Try.underlying100; have HR0 := aM hr0; have HC0 := aM hc0; clear hr0 hc0; have HB := aM (Below.refl w.heap.size w); have H : (spec_ActOk.l0 k l0 0 0) = some r := h
 clear h; have H' := aM H
 clear H; go_enter Try.func75, Try.ntmps75
 go_wp2
 go_loopg [3, 4] k (fun kq v3 v4 w' => ∃ (x3_1 : Int) (x4_1 : Int), v3 = .int .i64 x3_1 ∧ v4 = .int .i64 x4_1 ∧ Aside0 (spec_ActOk.l0 kq l0 x3_1 x4_1 = some r) ∧ Aside0 (kq ≤ k) ∧ Aside0 (Below w.heap.size w w'))
 case atStart => exact ⟨(0), (0), sr, sr, H', ⟨Nat.le_refl _⟩, ⟨by exact lB HB.out⟩⟩
 case round =>
  clear H'
  obtain ⟨x3_1, x4_1, rfl, rfl, HA, HK1, HB⟩ := hrel
  cases gk with
  | zero => exact absurd HA.out (by simp [spec_ActOk.l0])
  | succ k1 =>
   have H := HA.out
   clear HA; simp only [spec_ActOk.l0] at H
   by_cases c2 : x4_1 < (l0.length : Int)
   ·rw [if_pos c2] at H; have c2b0 := decide_eq_true c2
    clear c2; obtain ⟨c3, H⟩ := iN H; have c3b0 := decide_eq_true c3
    clear c3; obtain ⟨t117, A4, H⟩ := bS H
    try dsimp only at H
    by_cases c5 : t117 = true
    ·subst c5; rw [if_pos rfl] at H
     try dsimp only at H
     by_cases c6 : ((rd_T100 l0 x4_1).f0) = 1
     ·rw [if_pos c6] at H; have c6b0 := beq_iff_eq.mpr c6
      have c6b1 := bne_eq_false_iff_eq.mpr c6
      clear c6; have H' := aM H
      clear H; have p116 : 0 ≤ (x4_1 : Int) := od; have q116 : x4_1 < (l0.length : Int) := od; obtain ⟨ad116, A116_3, c116_3, A116_4, c116_4, e116, hx116_0, hx116_1, hx116_2, hx116_3, hx116_4, hx116_5, hl116_3, hi116_3, hl116_4, hi116_4⟩ := at_T100 HR0.out x4_1 p116 q116
      cases e116; replace hx116_0 := cl HB.out hx116_0; replace hx116_1 := cl HB.out hx116_1; replace hx116_2 := cl HB.out hx116_2; replace hx116_3 := cl HB.out hx116_3; replace hx116_4 := cl HB.out hx116_4; replace hx116_5 := cl HB.out hx116_5; have HR116_3 := aM hi116_3; have HC116_3 := aM hl116_3; clear hi116_3 hl116_3; have HR116_4 := aM hi116_4; have HC116_4 := aM hl116_4; clear hi116_4 hl116_4; replace p116 := eq_true p116; replace q116 := eq_true q116; go_wp2_with (first | (refine gL (some 15) Try.func88 #[.agg #[.int .i64 ((rd_T100 l0 x4_1).f0), .int .i64 ((rd_T100 l0 x4_1).f1), .int .i64 ((rd_T100 l0 x4_1).f2), .slice A116_3 ((rd_T100 l0 x4_1).f3.f0).length c116_3, .slice A116_4 ((rd_T100 l0 x4_1).f3.f1).length c116_4, .int .i64 ((rd_T100 l0 x4_1).f3.f2)]] ?_; (with_reducible refine (spec_l2Line.calls k1 ((rd_T100 l0 x4_1).f0) ((rd_T100 l0 x4_1).f1) ((rd_T100 l0 x4_1).f2) _ _ ((rd_T100 l0 x4_1).f3.f0) _ _ ((rd_T100 l0 x4_1).f3.f1) ((rd_T100 l0 x4_1).f3.f2) true _ (by exact lC <| (Kd.C_below HR116_3.out HB.out)) HC116_3.out (by exact lC <| (Kd.C_below HR116_4.out HB.out)) HC116_4.out A4.out).mono ?_); rintro e w7 ⟨rfl, hb⟩; refine ⟨_, rfl, ?_⟩; replace HB := aM (bj HB.out hb); (try clear hb); have p118 : 0 ≤ (x4_1 : Int) := od; have q118 : x4_1 < (l0.length : Int) := od; obtain ⟨ad118, A118_3, c118_3, A118_4, c118_4, e118, hx118_0, hx118_1, hx118_2, hx118_3, hx118_4, hx118_5, hl118_3, hi118_3, hl118_4, hi118_4⟩ := at_T100 HR0.out x4_1 p118 q118; obtain rfl : ad116 = ad118 := (by injection e118); replace hx118_0 := cl HB.out hx118_0; replace hx118_1 := cl HB.out hx118_1; replace hx118_2 := cl HB.out hx118_2; replace hx118_3 := cl HB.out hx118_3; replace hx118_4 := cl HB.out hx118_4; replace hx118_5 := cl HB.out hx118_5; have HR118_3 := aM hi118_3; have HC118_3 := aM hl118_3; clear hi118_3 hl118_3; have HR118_4 := aM hi118_4; have HC118_4 := aM hl118_4; clear hi118_4 hl118_4; replace p118 := eq_true p118; replace q118 := eq_true q118))
      go_roundg k1
      case measure => have := HK1.out; omega
      case rel => exact ⟨(wrap64 (x3_1 + 1)), (wrap64 (x4_1 + 1)), sr, sr, H', ⟨by have := HK1.out; omega⟩, ⟨by exact lB HB.out⟩⟩
     ·rw [if_neg c6] at H; have c6b0 := beq_eq_false_iff_ne.mpr c6
      have c6b1 := bne_iff_ne.mpr c6
      have H' := aM H
      clear H; have p116 : 0 ≤ (x4_1 : Int) := od; have q116 : x4_1 < (l0.length : Int) := od; obtain ⟨ad116, A116_3, c116_3, A116_4, c116_4, e116, hx116_0, hx116_1, hx116_2, hx116_3, hx116_4, hx116_5, hl116_3, hi116_3, hl116_4, hi116_4⟩ := at_T100 HR0.out x4_1 p116 q116
      cases e116; replace hx116_0 := cl HB.out hx116_0; replace hx116_1 := cl HB.out hx116_1; replace hx116_2 := cl HB.out hx116_2; replace hx116_3 := cl HB.out hx116_3; replace hx116_4 := cl HB.out hx116_4; replace hx116_5 := cl HB.out hx116_5; have HR116_3 := aM hi116_3; have HC116_3 := aM hl116_3; clear hi116_3 hl116_3; have HR116_4 := aM hi116_4; have HC116_4 := aM hl116_4; clear hi116_4 hl116_4; replace p116 := eq_true p116; replace q116 := eq_true q116; go_wp2_with (first | (refine gL (some 15) Try.func88 #[.agg #[.int .i64 ((rd_T100 l0 x4_1).f0), .int .i64 ((rd_T100 l0 x4_1).f1), .int .i64 ((rd_T100 l0 x4_1).f2), .slice A116_3 ((rd_T100 l0 x4_1).f3.f0).length c116_3, .slice A116_4 ((rd_T100 l0 x4_1).f3.f1).length c116_4, .int .i64 ((rd_T100 l0 x4_1).f3.f2)]] ?_; (with_reducible refine (spec_l2Line.calls k1 ((rd_T100 l0 x4_1).f0) ((rd_T100 l0 x4_1).f1) ((rd_T100 l0 x4_1).f2) _ _ ((rd_T100 l0 x4_1).f3.f0) _ _ ((rd_T100 l0 x4_1).f3.f1) ((rd_T100 l0 x4_1).f3.f2) true _ (by exact lC <| (Kd.C_below HR116_3.out HB.out)) HC116_3.out (by exact lC <| (Kd.C_below HR116_4.out HB.out)) HC116_4.out A4.out).mono ?_); rintro e w8 ⟨rfl, hb⟩; refine ⟨_, rfl, ?_⟩; replace HB := aM (bj HB.out hb); (try clear hb); have p118 : 0 ≤ (x4_1 : Int) := od; have q118 : x4_1 < (l0.length : Int) := od; obtain ⟨ad118, A118_3, c118_3, A118_4, c118_4, e118, hx118_0, hx118_1, hx118_2, hx118_3, hx118_4, hx118_5, hl118_3, hi118_3, hl118_4, hi118_4⟩ := at_T100 HR0.out x4_1 p118 q118; obtain rfl : ad116 = ad118 := (by injection e118); replace hx118_0 := cl HB.out hx118_0; replace hx118_1 := cl HB.out hx118_1; replace hx118_2 := cl HB.out hx118_2; replace hx118_3 := cl HB.out hx118_3; replace hx118_4 := cl HB.out hx118_4; replace hx118_5 := cl HB.out hx118_5; have HR118_3 := aM hi118_3; have HC118_3 := aM hl118_3; clear hi118_3 hl118_3; have HR118_4 := aM hi118_4; have HC118_4 := aM hl118_4; clear hi118_4 hl118_4; replace p118 := eq_true p118; replace q118 := eq_true q118))
      go_roundg k1
      case measure => have := HK1.out; omega
      case rel => exact ⟨(x3_1), (wrap64 (x4_1 + 1)), sr, sr, H', ⟨by have := HK1.out; omega⟩, ⟨by exact lB HB.out⟩⟩
    ·replace c5 := Bool.eq_false_iff.mpr c5
     subst c5; rw [if_neg nf] at H
     try dsimp only at H
     obtain rfl := Option.some.inj H
     have p116 : 0 ≤ (x4_1 : Int) := od; have q116 : x4_1 < (l0.length : Int) := od; obtain ⟨ad116, A116_3, c116_3, A116_4, c116_4, e116, hx116_0, hx116_1, hx116_2, hx116_3, hx116_4, hx116_5, hl116_3, hi116_3, hl116_4, hi116_4⟩ := at_T100 HR0.out x4_1 p116 q116
     cases e116; replace hx116_0 := cl HB.out hx116_0; replace hx116_1 := cl HB.out hx116_1; replace hx116_2 := cl HB.out hx116_2; replace hx116_3 := cl HB.out hx116_3; replace hx116_4 := cl HB.out hx116_4; replace hx116_5 := cl HB.out hx116_5; have HR116_3 := aM hi116_3; have HC116_3 := aM hl116_3; clear hi116_3 hl116_3; have HR116_4 := aM hi116_4; have HC116_4 := aM hl116_4; clear hi116_4 hl116_4; replace p116 := eq_true p116; replace q116 := eq_true q116; go_wp2_with (first | (refine gL (some 15) Try.func88 #[.agg #[.int .i64 ((rd_T100 l0 x4_1).f0), .int .i64 ((rd_T100 l0 x4_1).f1), .int .i64 ((rd_T100 l0 x4_1).f2), .slice A116_3 ((rd_T100 l0 x4_1).f3.f0).length c116_3, .slice A116_4 ((rd_T100 l0 x4_1).f3.f1).length c116_4, .int .i64 ((rd_T100 l0 x4_1).f3.f2)]] ?_; (with_reducible refine (spec_l2Line.calls k1 ((rd_T100 l0 x4_1).f0) ((rd_T100 l0 x4_1).f1) ((rd_T100 l0 x4_1).f2) _ _ ((rd_T100 l0 x4_1).f3.f0) _ _ ((rd_T100 l0 x4_1).f3.f1) ((rd_T100 l0 x4_1).f3.f2) false _ (by exact lC <| (Kd.C_below HR116_3.out HB.out)) HC116_3.out (by exact lC <| (Kd.C_below HR116_4.out HB.out)) HC116_4.out A4.out).mono ?_); rintro e w9 ⟨rfl, hb⟩; refine ⟨_, rfl, ?_⟩; replace HB := aM (bj HB.out hb); (try clear hb)))
     go_ret
     exact ⟨er, by exact lB HB.out⟩
   ·rw [if_neg c2] at H; have c2b0 := decide_eq_false c2
    clear c2
    by_cases c10 : (l0.length : Int) ≤ 6
    ·rw [if_pos c10] at H; have c10b0 := decide_eq_true c10
     have c10b1 : decide (l0.length ≤ 6) = true := decide_eq_true (by omega)
     clear c10; obtain rfl := Option.some.inj H
     go_wp2
     go_ret
     exact ⟨er, by exact lB HB.out⟩
    ·rw [if_neg c10] at H; have c10b0 := decide_eq_false c10
     have c10b1 : decide (l0.length ≤ 6) = false := decide_eq_false (by omega)
     clear c10; obtain rfl := Option.some.inj H
     go_wp2
     go_ret
     exact ⟨er, by exact lB HB.out⟩
/-! ### spec_FrmZero: function 86 -/
def spec_FrmZero.f  : Option (List Int × List Int × Int) := some ((([0, 0, 0] : List Int)), (([0, 0] : List Int)), 0)
theorem spec_FrmZero.calls  (r1 : List Int) (r2 : List Int) (r3 : Int) (w : World) (h : spec_FrmZero.f  = some (r1, r2, r3)) :
  Calls Try.prog 86 #[] w fun e w' => ∃ v0_ v1_ : Value, e = .returned (.agg #[v0_, v1_, .int .i64 r3]) ∧ Kd.R (Kd.int .i64) 3 w' w.heap.size (fun k_ => some k_ ≠ (v1_ : Value).ownBlock) v0_ r1 ∧ Kd.R (Kd.int .i64) 3 w' w.heap.size (fun k_ => some k_ ≠ (v0_ : Value).ownBlock) v1_ r2 ∧ Below w.heap.size w w' := by
 have hu34 := Try.underlying34; have HB := aM (Below.refl w.heap.size w); have H : (some ((([0, 0, 0] : List Int)), (([0, 0] : List Int)), 0)) = some (r1, r2, r3) := h
 clear h; obtain ⟨y123, Ny123⟩ : ∃ y_ : List Int, Aside0 (y_ = (([0, 0, 0] : List Int))) := ⟨_, ⟨rfl⟩⟩
 try rw [← Ny123.out] at H
 try dsimp only [Option.bind_some] at H
 obtain ⟨y126, Ny126⟩ : ∃ y_ : List Int, Aside0 (y_ = (([0, 0] : List Int))) := ⟨_, ⟨rfl⟩⟩
 try rw [← Ny126.out] at H
 try dsimp only [Option.bind_some] at H
 simp only [Option.some.injEq, Prod.mk.injEq] at H
 obtain ⟨rfl, rfl, rfl⟩ := H
 go_enter Try.func86, Try.ntmps86
 go_wp2_with (first | ((with_reducible refine gate_dst (N := 0) rfl ?_); refine bx 0 #[.slice none 0 0, .slice none 0 0, .int .i64 0] 34 ?_; intro gb122 hg w1 hbox hb; have BK122 := aM (hbox); have GW122 := aM (gz hg HB.out); have IGW122 := wn GW122.out; have GE122 := aM (gz hg HB.out); have IGE122 := wn GE122.out; replace HB := aM (bj HB.out hb); clear hb hbox hg) | ((with_reducible refine gate_dst (N := 1) rfl ?_); refine rlW 1 [0, 0, 0] [.int .i64 0, .int .i64 0, .int .i64 0] ?_; intro v124 w2 ho3 hb hg_ hnew_; clear hg_ hnew_; rw [← Ny123.out] at ho3; have HO125 := aM (Kd.R_lower ho3 (bz HB.out)); replace BK122 := aM (bb BK122.out hb); replace HB := aM (bj HB.out hb); clear hb ho3) | ((with_reducible refine gate_dst (N := 2) rfl ?_); refine rlW 2 [0, 0] [.int .i64 0, .int .i64 0] ?_; intro v127 w4 ho5 hb hg_ hnew_; clear hg_ hnew_; rw [← Ny126.out] at ho5; have HO128 := aM (Kd.R_lower (Kd.R_new' ho5 (rl HO125.out)) (bz HB.out)); replace HO125 := aM (Kd.R_elder' (by exact lR HO125.out) (Kd.R_base ho5) hb); replace BK122 := aM (bb BK122.out hb); replace HB := aM (bj HB.out hb); clear hb ho5; obtain ⟨Ao6, co6, rfl⟩ := Kd.R_slice HO128.out; obtain ⟨Ao7, co7, rfl⟩ := Kd.R_slice HO125.out; obtain ⟨hcz8_0, hcz8_1, hcz8_2, hfz8_0, hfz8_1, hfz8_2⟩ := cf3 BK122.out))
 refine bodyPost_ret (results_cell_row rfl _ _ gb122 34 #[.slice Ao7 y123.length co7, .slice Ao6 y126.length co6, .int .i64 0] (0, 0) _ rfl (by exact p3 (lK BK122.out)) Try.underlying34 rfl (by kernel_rfl)) rfl ?_
 exact ⟨_, _, er, by exact lR <| Kd.R_mono (Kd.R_far (p := ⟨gb122, 2, none⟩) (Kd.R_far (p := ⟨gb122, 1, none⟩) (Kd.R_far (p := ⟨gb122, 0, none⟩) (Kd.R_types HO125.out BK122.out (by decide)) (fun _ hk => by first | exact hk.2 | exact fun e_ => hk.2 (e_.trans (ob _ _ _ _))) (.slice Ao7 y123.length co7)) (fun _ hk => by first | exact hk.2 | exact fun e_ => hk.2 (e_.trans (ob _ _ _ _))) (.slice Ao6 y126.length co6)) (fun _ hk => by first | exact hk.2 | exact fun e_ => hk.2 (e_.trans (ob _ _ _ _))) (.int .i64 0)) (fun _ hk => by first | exact hk.1.2 | exact fun e_ => hk.1.2 (e_.trans (ob _ _ _ _))), by exact lR <| Kd.R_mono (Kd.R_far (p := ⟨gb122, 2, none⟩) (Kd.R_far (p := ⟨gb122, 1, none⟩) (Kd.R_far (p := ⟨gb122, 0, none⟩) (Kd.R_types HO128.out BK122.out (by decide)) (fun _ hk => by first | exact hk.2 | exact fun e_ => hk.2 (e_.trans (ob _ _ _ _))) (.slice Ao7 y123.length co7)) (fun _ hk => by first | exact hk.2 | exact fun e_ => hk.2 (e_.trans (ob _ _ _ _))) (.slice Ao6 y126.length co6)) (fun _ hk => by first | exact hk.2 | exact fun e_ => hk.2 (e_.trans (ob _ _ _ _))) (.int .i64 0)) (fun _ hk => by first | exact hk.1.2 | exact fun e_ => hk.1.2 (e_.trans (ob _ _ _ _))), by exact jB HB.out⟩
/-! ### spec_l1Sum: function 92 -/
mutual
def spec_l1Sum.l0 : Nat → Int → Int → List Int → List Int → Int → List Int → List Int → Int → List Int → List Int → Int → Option (List Int × List Int × Int)
 | 0, _, _, _, _, _, _, _, _, _, _, _ => none
 | k + 1, x2, x8, x130000, x130001, x130002, x131000, x131001, x131002, x140000, x140001, x140002 => if x8 < 3 then (if 0 ≤ x8 then (if x8 < (x130000.length : Int) then (if x8 < (x131000.length : Int) then (if x8 < (x140000.length : Int) then (spec_l1Sum.l0 k x2 (wrap64 (x8 + 1)) x130000 x130001 x130002 x131000 x131001 x131002 (x140000.set (x8 : Int).toNat (wrap64 ((rd x130000 x8) + (wrap64 (x2 * (rd x131000 x8)))))) x140001 x140002) else (none)) else (none)) else (none)) else (none)) else (spec_l1Sum.l1 k x2 0 x130000 x130001 x130002 x131000 x131001 x131002 x140000 x140001 x140002)
def spec_l1Sum.l1 : Nat → Int → Int → List Int → List Int → Int → List Int → List Int → Int → List Int → List Int → Int → Option (List Int × List Int × Int)
 | 0, _, _, _, _, _, _, _, _, _, _, _ => none
 | k + 1, x2, x9, x130000, x130001, x130002, x131000, x131001, x131002, x140000, x140001, x140002 => if x9 < 2 then (if 0 ≤ x9 then (if x9 < (x130001.length : Int) then (if x9 < (x131001.length : Int) then (if x9 < (x140001.length : Int) then (spec_l1Sum.l1 k x2 (wrap64 (x9 + 1)) x130000 x130001 x130002 x131000 x131001 x131002 x140000 (x140001.set (x9 : Int).toNat (wrap64 ((rd x130001 x9) + (wrap64 (x2 * (rd x131001 x9)))))) x140002) else (none)) else (none)) else (none)) else (none)) else (some (x140000, x140001, wrap64 (x130002 + (wrap64 (x2 * x131002)))))
end
def spec_l1Sum.f (k : Nat) (l0_0 : List Int) (l0_1 : List Int) (a0_2 : Int) (l1_0 : List Int) (l1_1 : List Int) (a1_2 : Int) (a2 : Int) : Option (List Int × List Int × Int) := (spec_FrmZero.f).bind fun bt132 => (spec_l1Sum.l0 k a2 0 l0_0 l0_1 a0_2 l1_0 l1_1 a1_2 bt132.1 bt132.2.1 bt132.2.2)
def spec_l1Sum.T5 : Bool × List (List Nat × List Nat) := (true, [([], []), ([0], [0]), ([], []), ([], []), ([3], [3]), ([], []), ([4, 5], [4, 5]), ([6], [6]), ([], []), ([], []), ([9], [9]), ([], []), ([10, 11], [10, 11]), ([12], [12]), ([8, 13], [8, 13]), ([7, 14], [7, 14]), ([1, 2, 0, 1, 2, 3, 4, 5, 6, 7, 8, 9, 10, 11, 12, 13, 14, 15], [1, 2]), ([16, 15, 0, 1, 2, 3, 4, 5, 6, 7, 8, 9, 10, 11, 12, 13, 14, 15], [15, 16])])
def spec_l1Sum.B5 : List Nat := [0, 1, 0, 0, 8, 0, 56, 120, 0, 0, 512, 0, 3584, 7680, 16128, 32760, 65535, 131071]
theorem spec_l1Sum.tab5 : rtab .any (opsOf Try.f92 5) = spec_l1Sum.T5 := by kernel_rfl
theorem spec_l1Sum.bits5 : waitsOk spec_l1Sum.T5.2 spec_l1Sum.B5 = true := by kernel_rfl
def spec_l1Sum.T9 : Bool × List (List Nat × List Nat) := (true, [([], []), ([0], [0]), ([], []), ([], []), ([3], [3]), ([], []), ([4, 5], [4, 5]), ([6], [6]), ([], []), ([], []), ([9], [9]), ([], []), ([10, 11], [10, 11]), ([12], [12]), ([8, 13], [8, 13]), ([7, 14], [7, 14]), ([1, 2, 0, 1, 2, 3, 4, 5, 6, 7, 8, 9, 10, 11, 12, 13, 14, 15], [1, 2]), ([16, 15, 0, 1, 2, 3, 4, 5, 6, 7, 8, 9, 10, 11, 12, 13, 14, 15], [15, 16])])
def spec_l1Sum.B9 : List Nat := [0, 1, 0, 0, 8, 0, 56, 120, 0, 0, 512, 0, 3584, 7680, 16128, 32760, 65535, 131071]
theorem spec_l1Sum.tab9 : rtab .any (opsOf Try.f92 9) = spec_l1Sum.T9 := by kernel_rfl
theorem spec_l1Sum.bits9 : waitsOk spec_l1Sum.T9.2 spec_l1Sum.B9 = true := by kernel_rfl
theorem spec_l1Sum.calls (k : Nat) (A0_0 : Option Addr) (c0_0 : Nat) (l0_0 : List Int) (A0_1 : Option Addr) (c0_1 : Nat) (l0_1 : List Int) (a0_2 : Int) (A1_0 : Option Addr) (c1_0 : Nat) (l1_0 : List Int) (A1_1 : Option Addr) (c1_1 : Nat) (l1_1 : List Int) (a1_2 : Int) (a2 : Int) (r1 : List Int) (r2 : List Int) (r3 : Int) (w : World) (hr0_0 : Kd.C (Kd.int .i64) w A0_0 l0_0.length l0_0) (hc0_0 : l0_0.length ≤ c0_0) (hr0_1 : Kd.C (Kd.int .i64) w A0_1 l0_1.length l0_1) (hc0_1 : l0_1.length ≤ c0_1) (hr1_0 : Kd.C (Kd.int .i64) w A1_0 l1_0.length l1_0) (hc1_0 : l1_0.length ≤ c1_0) (hr1_1 : Kd.C (Kd.int .i64) w A1_1 l1_1.length l1_1) (hc1_1 : l1_1.length ≤ c1_1) (h : spec_l1Sum.f k l0_0 l0_1 a0_2 l1_0 l1_1 a1_2 a2 = some (r1, r2, r3)) :
  Calls Try.prog 92 #[.agg #[.slice A0_0 l0_0.length c0_0, .slice A0_1 l0_1.length c0_1, .int .i64 a0_2], .agg #[.slice A1_0 l1_0.length c1_0, .slice A1_1 l1_1.length c1_1, .int .i64 a1_2], .int .i64 a2] w fun e w' => ∃ v0_ v1_ : Value, e = .returned (.agg #[v0_, v1_, .int .i64 r3]) ∧ Kd.R (Kd.int .i64) 3 w' w.heap.size (fun k_ => some k_ ≠ (v1_ : Value).ownBlock) v0_ r1 ∧ Kd.R (Kd.int .i64) 3 w' w.heap.size (fun k_ => some k_ ≠ (v0_ : Value).ownBlock) v1_ r2 ∧ Below w.heap.size w w' := by
 have hu34 := Try.underlying34; have HR0_0 := aM hr0_0; have HC0_0 := aM hc0_0; clear hr0_0 hc0_0; have HR0_1 := aM hr0_1; have HC0_1 := aM hc0_1; clear hr0_1 hc0_1; have HR1_0 := aM hr1_0; have HC1_0 := aM hc1_0; clear hr1_0 hc1_0; have HR1_1 := aM hr1_1; have HC1_1 := aM hc1_1; clear hr1_1 hc1_1; have HB := aM (Below.refl w.heap.size w); have H : ((spec_FrmZero.f).bind fun bt132 => (spec_l1Sum.l0 k a2 0 l0_0 l0_1 a0_2 l1_0 l1_1 a1_2 bt132.1 bt132.2.1 bt132.2.2)) = some (r1, r2, r3) := h
 clear h; obtain ⟨⟨t132, t135, t138⟩, A4, H⟩ := bS H
 try dsimp only at H
 have H' := aM H
 clear H; go_enter Try.func92, Try.ntmps92
 go_wp2_with (first | ((with_reducible refine gate_dst (N := 3) rfl ?_); refine bx 3 #[.slice A0_0 l0_0.length c0_0, .slice A0_1 l0_1.length c0_1, .int .i64 a0_2] 34 ?_; intro gb129 hg w5 hbox hb; have BK129 := aM (hbox); have GW129 := aM (gz hg HB.out); have IGW129 := wn GW129.out; have GE129 := aM (gz hg HB.out); have IGE129 := wn GE129.out; replace HB := aM (bj HB.out hb); clear hb hbox hg) | ((with_reducible refine gate_dst (N := 4) rfl ?_); refine bx 4 #[.slice A1_0 l1_0.length c1_0, .slice A1_1 l1_1.length c1_1, .int .i64 a1_2] 34 ?_; intro gb130 hg w6 hbox hb; have BK130 := aM (hbox); have GW130 := aM (gz hg HB.out); have IGW130 := wn GW130.out; have GE130 := aM (gz hg HB.out); have IGE130 := wn GE130.out; replace HB := aM (bj HB.out hb); have NB129_130 := aM ((neL hg (lK BK129.out) : gb129 ≠ gb130)); have NB130_129 := aM ((neG hg (lK BK129.out) : gb130 ≠ gb129)); replace BK129 := aM (bb BK129.out hb); clear hb hbox hg) | ((with_reducible refine gate_dst (N := 6) rfl ?_); refine bx 6 #[.slice none 0 0, .slice none 0 0, .int .i64 0] 34 ?_; intro gb131 hg w7 hbox hb; have BK131 := aM (hbox); have GW131 := aM (gz hg HB.out); have IGW131 := wn GW131.out; have GE131 := aM (gz hg HB.out); have IGE131 := wn GE131.out; replace HB := aM (bj HB.out hb); have NB129_131 := aM ((neL hg (lK BK129.out) : gb129 ≠ gb131)); have NB131_129 := aM ((neG hg (lK BK129.out) : gb131 ≠ gb129)); replace BK129 := aM (bb BK129.out hb); have NB130_131 := aM ((neL hg (lK BK130.out) : gb130 ≠ gb131)); have NB131_130 := aM ((neG hg (lK BK130.out) : gb131 ≠ gb130)); replace BK130 := aM (bb BK130.out hb); clear hb hbox hg) | (refine gL (some 10) Try.func86 #[] ?_; (with_reducible refine (spec_FrmZero.calls  t132 t135 t138 _ A4.out).mono ?_); rintro e w8 ⟨v133, v136, rfl, ho0, ho1, hb⟩; refine ⟨_, rfl, ?_⟩; have HO134 := aM (Kd.R_lower ho0 (bz HB.out)); have HO137 := aM (Kd.R_lower ho1 (bz HB.out)); replace BK129 := aM (bb BK129.out hb); replace BK130 := aM (bb BK130.out hb); replace BK131 := aM (bb BK131.out hb); replace HB := aM (bj HB.out hb); clear hb ho0 ho1) | ((with_reducible refine gate_dst (N := 7) rfl ?_); refine bx 7 #[.slice none 0 0, .slice none 0 0, .int .i64 0] 34 ?_; intro gb139 hg w9 hbox hb; replace HO134 := aM (rb HO134.out hb); replace HO137 := aM (rb HO137.out hb); have BK139 := aM (hbox); have GW139 := aM (gz hg HB.out); have IGW139 := wn GW139.out; have GE139 := aM (gz hg HB.out); have IGE139 := wn GE139.out; replace HB := aM (bj HB.out hb); have NB129_139 := aM ((neL hg (lK BK129.out) : gb129 ≠ gb139)); have NB139_129 := aM ((neG hg (lK BK129.out) : gb139 ≠ gb129)); replace BK129 := aM (bb BK129.out hb); have NB130_139 := aM ((neL hg (lK BK130.out) : gb130 ≠ gb139)); have NB139_130 := aM ((neG hg (lK BK130.out) : gb139 ≠ gb130)); replace BK130 := aM (bb BK130.out hb); have NB131_139 := aM ((neL hg (lK BK131.out) : gb131 ≠ gb139)); have NB139_131 := aM ((neG hg (lK BK131.out) : gb139 ≠ gb131)); replace BK131 := aM (bb BK131.out hb); clear hb hbox hg; obtain ⟨Ao10, co10, rfl⟩ := Kd.R_slice HO134.out; have hnb11 := NB139_129.out; have hnc11 := NB129_139.out; have hnb12 := NB139_130.out; have hnc12 := NB130_139.out; have hnb13 := NB139_131.out; have hnc13 := NB131_139.out; obtain ⟨hcz14_0, hcz14_1, hcz14_2, hfz14_0, hfz14_1, hfz14_2⟩ := cf3 BK139.out; obtain ⟨Ao15, co15, rfl⟩ := Kd.R_slice HO137.out))
 go_loopg [8] k (fun kq v8 w' => ∃ (x8_1 : Int) (x140000_1 : List Int) (x140001_1 : List Int) (u140000 : Value) (u140001 : Value), v8 = .int .i64 x8_1 ∧ Aside0 (spec_l1Sum.l0 kq a2 x8_1 l0_0 l0_1 a0_2 l1_0 l1_1 a1_2 x140000_1 x140001_1 t138 = some (r1, r2, r3)) ∧ Aside0 (kq ≤ k) ∧ Aside0 (Kd.R (Kd.int .i64) 3 w' w.heap.size (fun k_ => some k_ ≠ (u140001 : Value).ownBlock) u140000 x140000_1) ∧ Aside0 (Kd.R (Kd.int .i64) 3 w' w.heap.size (fun k_ => some k_ ≠ (u140000 : Value).ownBlock) u140001 x140001_1) ∧ Aside0 (w'.heap[gb129]? = some (.cells #[(.slice A0_0 l0_0.length c0_0), (.slice A0_1 l0_1.length c0_1), .int .i64 a0_2] 34 (0, 0))) ∧ Aside0 (w'.heap[gb130]? = some (.cells #[(.slice A1_0 l1_0.length c1_0), (.slice A1_1 l1_1.length c1_1), .int .i64 a1_2] 34 (0, 0))) ∧ Aside0 (w'.heap[gb131]? = some (.cells #[(.slice none 0 0), (.slice none 0 0), .int .i64 0] 34 (0, 0))) ∧ Aside0 (w'.heap[gb139]? = some (.cells #[u140000, u140001, .int .i64 t138] 34 (0, 0))) ∧ Aside0 (Below w.heap.size w w'))
 case atStart => exact ⟨(0), (t132), (t135), (.slice Ao10 t132.length co10), (.slice Ao15 t135.length co15), sr, H', ⟨Nat.le_refl _⟩, ⟨by (with_reducible repeat (first | apply ra | apply rn | apply re)); exact R3 HO134.out BK139.out⟩, ⟨by (with_reducible repeat (first | apply ra | apply rn | apply re)); exact R3 HO137.out BK139.out⟩, ⟨by exact f3 (lK BK129.out) NB129_139.out⟩, ⟨by exact f3 (lK BK130.out) NB130_139.out⟩, ⟨by exact f3 (lK BK131.out) NB131_139.out⟩, ⟨by exact p3 (lK BK139.out)⟩, ⟨by exact jB HB.out⟩⟩
 case round =>
  clear H'
  (try clear c1); (try clear p2); (try clear c8); (try clear c9); (try clear c11); (try clear c12); (try clear c13); (try clear hcz14_0); (try clear hcz14_1); (try clear hcz14_2); (try clear hfz14_0); (try clear hfz14_1); (try clear hfz14_2)
  obtain ⟨x8_1, x140000_1, x140001_1, u140000, u140001, rfl, HA, HK1, HO_140000, HO_140001, BK129, BK130, BK131, BK139, HB⟩ := hrel
  cases gk with
  | zero => exact absurd HA.out (by simp [spec_l1Sum.l0])
  | succ k1 =>
   have H := HA.out
   clear HA; simp only [spec_l1Sum.l0] at H
   by_cases c16 : x8_1 < 3
   ·rw [if_pos c16] at H; replace c16 := decide_eq_true c16; obtain ⟨c17, H⟩ := iD H; obtain ⟨c18, H⟩ := iD H; obtain ⟨c19, H⟩ := iD H; obtain ⟨c20, H⟩ := iD H; obtain ⟨y142, Ny142⟩ : ∃ y_ : List Int, Aside0 (y_ = (x140000_1.set (x8_1 : Int).toNat (wrap64 ((rd l0_0 x8_1) + (wrap64 (a2 * (rd l1_0 x8_1))))))) := ⟨_, ⟨rfl⟩⟩
    try rw [← Ny142.out] at H
    try dsimp only [Option.bind_some] at H
    have H' := aM H
    clear H
    try go_wp2
    replace HO_140000 := aM (Kd.R_drew HO_140000.out); replace HO_140001 := aM (Kd.R_drew HO_140001.out); replace BK129 := aM (blk_drew BK129.out); replace BK130 := aM (blk_drew BK130.out); replace BK131 := aM (blk_drew BK131.out); replace BK139 := aM (blk_drew BK139.out); replace HB := aM (below_drew1 HB.out); have p140 : 0 ≤ (x8_1 : Int) := od; have q140 : x8_1 < (l0_0.length : Int) := od; obtain ⟨ad140, e140, hx140_0⟩ := Kd.at_int HR0_0.out x8_1 p140 q140
    have hw140_0 := hx140_0
    cases e140; replace hx140_0 := cl HB.out hx140_0; replace p140 := eq_true p140; replace q140 := eq_true q140; have p141 : 0 ≤ (x8_1 : Int) := od; have q141 : x8_1 < (l1_0.length : Int) := od; obtain ⟨ad141, e141, hx141_0⟩ := Kd.at_int HR1_0.out x8_1 p141 q141
    have hw141_0 := hx141_0
    cases e141; replace hx141_0 := cl HB.out hx141_0; replace p141 := eq_true p141; replace q141 := eq_true q141; have p21 : 0 ≤ (x8_1 : Int) := od; have q21 : (x8_1 : Int) < ((x140000_1.length : Int) : Int) := od; obtain ⟨go21, co21, eo21, gb21, gl21, cl21, HG21⟩ := Kd.R_form HO_140000.out (by omega)
    (first | cases eo21 | (injection eo21 with ea_ en_ ec_; (first | subst ea_ | (injection ea_ with ea_; subst ea_)); subst ec_; clear en_))
    have GB21 := aM gb21; have IGB21 := wn GB21.out
    have GG21 := aM HG21; clear gb21 gl21 HG21; obtain ⟨hx21_0, hf21_0⟩ := Kd.R_celln 0 HO_140000.out (x8_1 : Int) p21 q21
    replace p21 := eq_true p21; replace q21 := eq_true q21; have HP23 := Kd.R_putn HO_140000.out (x8_1 : Int) (wrap64 ((rd l0_0 x8_1) + (wrap64 (a2 * (rd l1_0 x8_1)))))
    rw [← Ny142.out] at HP23
    have HQ23 := aM HP23; clear HP23; refine start_ (n := 18) (S := fun w' => w'.cell? ⟨gb139, 0, none⟩ = some (.slice (some ⟨go21, 0, none⟩) x140000_1.length co21) ∧ w'.cell? ⟨gb139, 1, none⟩ = some (u140001) ∧ w'.cell? ⟨gb139, 2, none⟩ = some (.int .i64 t138) ∧ w'.cell? ⟨gb129, 0, none⟩ = some (.slice (some ad140) l0_0.length c0_0) ∧ w'.cell? ⟨gb129, 1, none⟩ = some (.slice A0_1 l0_1.length c0_1) ∧ w'.cell? ⟨gb129, 2, none⟩ = some (.int .i64 a0_2) ∧ w'.cell? ⟨gb130, 0, none⟩ = some (.slice (some ad141) l1_0.length c1_0) ∧ w'.cell? ⟨gb130, 1, none⟩ = some (.slice A1_1 l1_1.length c1_1) ∧ w'.cell? ⟨gb130, 2, none⟩ = some (.int .i64 a1_2) ∧ w'.cell? (ad140.add (x8_1).toNat) = some (.int .i64 (rd l0_0 x8_1)) ∧ w'.cell? (ad141.add (x8_1).toNat) = some (.int .i64 (rd l1_0 x8_1))) (ds := [17]) #[false, false, false, false, false, false, false, false, false, false, false, false, false, false, false, false, false, false] (by kernel_rfl) rfl rfl ⟨(blk_cell BK139.out 0).trans rfl, (blk_cell BK139.out 1).trans rfl, (blk_cell BK139.out 2).trans rfl, (blk_cell BK129.out 0).trans rfl, (blk_cell BK129.out 1).trans rfl, (blk_cell BK129.out 2).trans rfl, (blk_cell BK130.out 0).trans rfl, (blk_cell BK130.out 1).trans rfl, (blk_cell BK130.out 2).trans rfl, (cl HB.out hw140_0), (cl HB.out hw141_0)⟩ (fun hHeld => ?_); refine with_tabW spec_l1Sum.tab5 spec_l1Sum.bits5 (fun HT_ HW_ => ?_)
    generalize wr.drew = w22 at HO_140000 HO_140001 BK129 BK130 BK131 BK139 HB GG21 HQ23 hf21_0 hx140_0 hx141_0 hx21_0 hHeld ⊢
    refine pu 0 (some 15) HT_.out ?_; refine pu 2 (some 17) HT_.out ?_; refine pu 3 (some 18) HT_.out ?_; refine pu 5 (some 20) HT_.out ?_; refine pu 8 (some 23) HT_.out ?_; refine pu 9 (some 24) HT_.out ?_; refine pu 11 (some 26) HT_.out ?_; refine tk 1 (some 16) HT_.out HW_.out hHeld ?_; refine tk 4 (some 19) HT_.out HW_.out hHeld ?_; refine pu 6 (some 21) HT_.out ?_; refine tk 7 (some 22) HT_.out HW_.out hHeld ?_; refine tk 10 (some 25) HT_.out HW_.out hHeld ?_; refine pu 12 (some 27) HT_.out ?_; refine tk 13 (some 28) HT_.out HW_.out hHeld ?_; refine pu 14 (some 29) HT_.out ?_; refine pu 15 (some 30) HT_.out ?_; refine pu 16 (some 31) HT_.out ?_; refine last_ (i := 17) (N := none) #[true, true, true, true, true, true, true, true, true, true, true, true, true, true, true, true, true, true] rfl rfl (one_of HT_.out (by kernel_rfl)) (by decide) (fun K hK => ?_)
    refine skip_ (w1 := ?_) (by rfl) rfl ?_ ?_
    rotate_left
    ·go_simp
     rfl
    refine hK.out _ _ ?_
    clear hK K; refine done_ (done_of HT_.out (by kernel_rfl)) ?_
    try go_wp2
    go_roundg k1
    case measure => have := HK1.out; omega
    case rel => exact ⟨(wrap64 (x8_1 + 1)), (y142), (x140001_1), (.slice (some ⟨go21, 0, none⟩) x140000_1.length co21), (u140001), sr, H', ⟨by have := HK1.out; omega⟩, ⟨by exact lR <| HQ23.out⟩, ⟨by exact lR <| Kd.R_mono (Kd.R_far (p := ⟨go21, (x8_1 : Int).toNat, none⟩) (Kd.R_mono HO_140001.out (fun k_ hk => (⟨hk, fun e_ => hk (by rw [e_]; rfl)⟩ : _ ∧ k_ ≠ go21))) (fun _ hk => hk.2) (.int .i64 (wrap64 ((rd l0_0 x8_1) + (wrap64 (a2 * (rd l1_0 x8_1))))))) (fun _ hk => hk.1)⟩, ⟨by (with_reducible repeat first | refine kN ?_ _ | refine kD ?_ | refine kA ?_ _); refine blk_far ?_ (by have h_ := Kd.R_ne HO_140000.out BK129.out (by decide); intro e_; exact h_ (by rw [e_]; rfl)) _; exact lK <| BK129.out⟩, ⟨by (with_reducible repeat first | refine kN ?_ _ | refine kD ?_ | refine kA ?_ _); refine blk_far ?_ (by have h_ := Kd.R_ne HO_140000.out BK130.out (by decide); intro e_; exact h_ (by rw [e_]; rfl)) _; exact lK <| BK130.out⟩, ⟨by (with_reducible repeat first | refine kN ?_ _ | refine kD ?_ | refine kA ?_ _); refine blk_far ?_ (by have h_ := Kd.R_ne HO_140000.out BK131.out (by decide); intro e_; exact h_ (by rw [e_]; rfl)) _; exact lK <| BK131.out⟩, ⟨by (with_reducible repeat first | refine kN ?_ _ | refine kD ?_ | refine kA ?_ _); refine blk_far ?_ (by have h_ := Kd.R_ne HO_140000.out BK139.out (by decide); intro e_; exact h_ (by rw [e_]; rfl)) _; exact lK <| BK139.out⟩, ⟨by exact jB HB.out⟩⟩
   ·rw [if_neg c16] at H; replace c16 := decide_eq_false c16; have H' := aM H
    clear H; go_wp2
    go_loopg [9] k1 (fun kq v9 w' => ∃ (x9_2 : Int) (x140000_2 : List Int) (x140001_2 : List Int) (u140000 : Value) (u140001 : Value), v9 = .int .i64 x9_2 ∧ Aside0 (spec_l1Sum.l1 kq a2 x9_2 l0_0 l0_1 a0_2 l1_0 l1_1 a1_2 x140000_2 x140001_2 t138 = some (r1, r2, r3)) ∧ Aside0 (kq ≤ k1) ∧ Aside0 (Kd.R (Kd.int .i64) 3 w' w.heap.size (fun k_ => some k_ ≠ (u140001 : Value).ownBlock) u140000 x140000_2) ∧ Aside0 (Kd.R (Kd.int .i64) 3 w' w.heap.size (fun k_ => some k_ ≠ (u140000 : Value).ownBlock) u140001 x140001_2) ∧ Aside0 (w'.heap[gb129]? = some (.cells #[(.slice A0_0 l0_0.length c0_0), (.slice A0_1 l0_1.length c0_1), .int .i64 a0_2] 34 (0, 0))) ∧ Aside0 (w'.heap[gb130]? = some (.cells #[(.slice A1_0 l1_0.length c1_0), (.slice A1_1 l1_1.length c1_1), .int .i64 a1_2] 34 (0, 0))) ∧ Aside0 (w'.heap[gb131]? = some (.cells #[(.slice none 0 0), (.slice none 0 0), .int .i64 0] 34 (0, 0))) ∧ Aside0 (w'.heap[gb139]? = some (.cells #[u140000, u140001, .int .i64 t138] 34 (0, 0))) ∧ Aside0 (Below w.heap.size w w'))
    case atStart => exact ⟨(0), (x140000_1), (x140001_1), (u140000), (u140001), sr, H', ⟨Nat.le_refl _⟩, ⟨by exact lR <| HO_140000.out⟩, ⟨by exact lR <| HO_140001.out⟩, ⟨by exact lK <| BK129.out⟩, ⟨by exact lK <| BK130.out⟩, ⟨by exact lK <| BK131.out⟩, ⟨by exact lK <| BK139.out⟩, ⟨by exact jB HB.out⟩⟩
    case round =>
     clear H'
     (try clear c1); (try clear p1); (try clear q1); (try clear hx1); (try clear c2); (try clear p2); (try clear q2); (try clear hx2); (try clear p6); (try clear c8); (try clear c9); (try clear c11); (try clear c12); (try clear c13); (try clear p14); (try clear q14); (try clear hx14); (try clear c16); (try clear c17); (try clear c18); (try clear c19); (try clear c20); (try clear p21); (try clear q21); (try clear hx21); (try clear hf21); (try clear hcz14_0); (try clear hcz14_1); (try clear hcz14_2); (try clear hfz14_0); (try clear hfz14_1); (try clear hfz14_2); (try clear hx140_0); (try clear hx141_0); (try clear hx21_0); (try clear p140); (try clear p141); (try clear q140); (try clear q141)
     obtain ⟨x9_2, x140000_2, x140001_2, u140000, u140001, rfl, HA, HK2, HO_140000, HO_140001, BK129, BK130, BK131, BK139, HB⟩ := hrel
     cases gk with
     | zero => exact absurd HA.out (by simp [spec_l1Sum.l1])
     | succ k2 =>
      have H := HA.out
      clear HA; simp only [spec_l1Sum.l1] at H
      by_cases c24 : x9_2 < 2
      ·rw [if_pos c24] at H; replace c24 := decide_eq_true c24; obtain ⟨c25, H⟩ := iD H; obtain ⟨c26, H⟩ := iD H; obtain ⟨c27, H⟩ := iD H; obtain ⟨c28, H⟩ := iD H; obtain ⟨y145, Ny145⟩ : ∃ y_ : List Int, Aside0 (y_ = (x140001_2.set (x9_2 : Int).toNat (wrap64 ((rd l0_1 x9_2) + (wrap64 (a2 * (rd l1_1 x9_2))))))) := ⟨_, ⟨rfl⟩⟩
       try rw [← Ny145.out] at H
       try dsimp only [Option.bind_some] at H
       have H' := aM H
       clear H
       try go_wp2
       replace HO_140000 := aM (Kd.R_drew HO_140000.out); replace HO_140001 := aM (Kd.R_drew HO_140001.out); replace BK129 := aM (blk_drew BK129.out); replace BK130 := aM (blk_drew BK130.out); replace BK131 := aM (blk_drew BK131.out); replace BK139 := aM (blk_drew BK139.out); replace HB := aM (below_drew1 HB.out); have p143 : 0 ≤ (x9_2 : Int) := od; have q143 : x9_2 < (l0_1.length : Int) := od; obtain ⟨ad143, e143, hx143_0⟩ := Kd.at_int HR0_1.out x9_2 p143 q143
       have hw143_0 := hx143_0
       cases e143; replace hx143_0 := cl HB.out hx143_0; replace p143 := eq_true p143; replace q143 := eq_true q143; have p144 : 0 ≤ (x9_2 : Int) := od; have q144 : x9_2 < (l1_1.length : Int) := od; obtain ⟨ad144, e144, hx144_0⟩ := Kd.at_int HR1_1.out x9_2 p144 q144
       have hw144_0 := hx144_0
       cases e144; replace hx144_0 := cl HB.out hx144_0; replace p144 := eq_true p144; replace q144 := eq_true q144; have p29 : 0 ≤ (x9_2 : Int) := od; have q29 : (x9_2 : Int) < ((x140001_2.length : Int) : Int) := od; obtain ⟨go29, co29, eo29, gb29, gl29, cl29, HG29⟩ := Kd.R_form HO_140001.out (by omega)
       (first | cases eo29 | (injection eo29 with ea_ en_ ec_; (first | subst ea_ | (injection ea_ with ea_; subst ea_)); subst ec_; clear en_))
       have GB29 := aM gb29; have IGB29 := wn GB29.out
       have GG29 := aM HG29; clear gb29 gl29 HG29; obtain ⟨hx29_0, hf29_0⟩ := Kd.R_celln 0 HO_140001.out (x9_2 : Int) p29 q29
       replace p29 := eq_true p29; replace q29 := eq_true q29; have HP31 := Kd.R_putn HO_140001.out (x9_2 : Int) (wrap64 ((rd l0_1 x9_2) + (wrap64 (a2 * (rd l1_1 x9_2)))))
       rw [← Ny145.out] at HP31
       have HQ31 := aM HP31; clear HP31; refine start_ (n := 18) (S := fun w' => w'.cell? ⟨gb139, 0, none⟩ = some (u140000) ∧ w'.cell? ⟨gb139, 1, none⟩ = some (.slice (some ⟨go29, 0, none⟩) x140001_2.length co29) ∧ w'.cell? ⟨gb139, 2, none⟩ = some (.int .i64 t138) ∧ w'.cell? ⟨gb129, 0, none⟩ = some (.slice A0_0 l0_0.length c0_0) ∧ w'.cell? ⟨gb129, 1, none⟩ = some (.slice (some ad143) l0_1.length c0_1) ∧ w'.cell? ⟨gb129, 2, none⟩ = some (.int .i64 a0_2) ∧ w'.cell? ⟨gb130, 0, none⟩ = some (.slice A1_0 l1_0.length c1_0) ∧ w'.cell? ⟨gb130, 1, none⟩ = some (.slice (some ad144) l1_1.length c1_1) ∧ w'.cell? ⟨gb130, 2, none⟩ = some (.int .i64 a1_2) ∧ w'.cell? (ad143.add (x9_2).toNat) = some (.int .i64 (rd l0_1 x9_2)) ∧ w'.cell? (ad144.add (x9_2).toNat) = some (.int .i64 (rd l1_1 x9_2))) (ds := [17]) #[false, false, false, false, false, false, false, false, false, false, false, false, false, false, false, false, false, false] (by kernel_rfl) rfl rfl ⟨(blk_cell BK139.out 0).trans rfl, (blk_cell BK139.out 1).trans rfl, (blk_cell BK139.out 2).trans rfl, (blk_cell BK129.out 0).trans rfl, (blk_cell BK129.out 1).trans rfl, (blk_cell BK129.out 2).trans rfl, (blk_cell BK130.out 0).trans rfl, (blk_cell BK130.out 1).trans rfl, (blk_cell BK130.out 2).trans rfl, (cl HB.out hw143_0), (cl HB.out hw144_0)⟩ (fun hHeld => ?_); refine with_tabW spec_l1Sum.tab9 spec_l1Sum.bits9 (fun HT_ HW_ => ?_)
       generalize wr.drew = w30 at HO_140000 HO_140001 BK129 BK130 BK131 BK139 HB GG29 HQ31 hf29_0 hx143_0 hx144_0 hx29_0 hHeld ⊢
       refine pu 0 (some 36) HT_.out ?_; refine pu 2 (some 38) HT_.out ?_; refine pu 3 (some 39) HT_.out ?_; refine pu 5 (some 41) HT_.out ?_; refine pu 8 (some 44) HT_.out ?_; refine pu 9 (some 45) HT_.out ?_; refine pu 11 (some 47) HT_.out ?_; refine tk 1 (some 37) HT_.out HW_.out hHeld ?_; refine tk 4 (some 40) HT_.out HW_.out hHeld ?_; refine pu 6 (some 42) HT_.out ?_; refine tk 7 (some 43) HT_.out HW_.out hHeld ?_; refine tk 10 (some 46) HT_.out HW_.out hHeld ?_; refine pu 12 (some 48) HT_.out ?_; refine tk 13 (some 49) HT_.out HW_.out hHeld ?_; refine pu 14 (some 50) HT_.out ?_; refine pu 15 (some 51) HT_.out ?_; refine pu 16 (some 52) HT_.out ?_; refine last_ (i := 17) (N := none) #[true, true, true, true, true, true, true, true, true, true, true, true, true, true, true, true, true, true] rfl rfl (one_of HT_.out (by kernel_rfl)) (by decide) (fun K hK => ?_)
       refine skip_ (w1 := ?_) (by rfl) rfl ?_ ?_
       rotate_left
       ·go_simp
        rfl
       refine hK.out _ _ ?_
       clear hK K; refine done_ (done_of HT_.out (by kernel_rfl)) ?_
       try go_wp2
       go_roundg k2
       case measure => have := HK1.out; have := HK2.out; omega
       case rel => exact ⟨(wrap64 (x9_2 + 1)), (x140000_2), (y145), (u140000), (.slice (some ⟨go29, 0, none⟩) x140001_2.length co29), sr, H', ⟨by have := HK1.out; have := HK2.out; omega⟩, ⟨by exact lR <| Kd.R_mono (Kd.R_far (p := ⟨go29, (x9_2 : Int).toNat, none⟩) (Kd.R_mono HO_140000.out (fun k_ hk => (⟨hk, fun e_ => hk (by rw [e_]; rfl)⟩ : _ ∧ k_ ≠ go29))) (fun _ hk => hk.2) (.int .i64 (wrap64 ((rd l0_1 x9_2) + (wrap64 (a2 * (rd l1_1 x9_2))))))) (fun _ hk => hk.1)⟩, ⟨by exact lR <| HQ31.out⟩, ⟨by (with_reducible repeat first | refine kN ?_ _ | refine kD ?_ | refine kA ?_ _); refine blk_far ?_ (by have h_ := Kd.R_ne HO_140001.out BK129.out (by decide); intro e_; exact h_ (by rw [e_]; rfl)) _; exact lK <| BK129.out⟩, ⟨by (with_reducible repeat first | refine kN ?_ _ | refine kD ?_ | refine kA ?_ _); refine blk_far ?_ (by have h_ := Kd.R_ne HO_140001.out BK130.out (by decide); intro e_; exact h_ (by rw [e_]; rfl)) _; exact lK <| BK130.out⟩, ⟨by (with_reducible repeat first | refine kN ?_ _ | refine kD ?_ | refine kA ?_ _); refine blk_far ?_ (by have h_ := Kd.R_ne HO_140001.out BK131.out (by decide); intro e_; exact h_ (by rw [e_]; rfl)) _; exact lK <| BK131.out⟩, ⟨by (with_reducible repeat first | refine kN ?_ _ | refine kD ?_ | refine kA ?_ _); refine blk_far ?_ (by have h_ := Kd.R_ne HO_140001.out BK139.out (by decide); intro e_; exact h_ (by rw [e_]; rfl)) _; exact lK <| BK139.out⟩, ⟨by exact jB HB.out⟩⟩
      ·rw [if_neg c24] at H; replace c24 := decide_eq_false c24; simp only [Option.some.injEq, Prod.mk.injEq] at H
       obtain ⟨rfl, rfl, rfl⟩ := H
       have hnb32 := NB129_130.out
       have hnc32 := NB130_129.out
       have hnb33 := NB129_131.out
       have hnc33 := NB131_129.out
       have hnb34 := NB129_139.out
       have hnc34 := NB139_129.out
       obtain ⟨hcz35_0, hcz35_1, hcz35_2, hfz35_0, hfz35_1, hfz35_2⟩ := cf3 BK129.out
       have hnb36 := NB130_131.out
       have hnc36 := NB131_130.out
       have hnb37 := NB130_139.out
       have hnc37 := NB139_130.out
       obtain ⟨hcz38_0, hcz38_1, hcz38_2, hfz38_0, hfz38_1, hfz38_2⟩ := cf3 BK130.out
       have hnb39 := NB139_131.out
       have hnc39 := NB131_139.out
       obtain ⟨hcz40_0, hcz40_1, hcz40_2, hfz40_0, hfz40_1, hfz40_2⟩ := cf3 BK139.out
       obtain ⟨Ao41, co41, eo41⟩ := Kd.R_slice HO_140000.out; subst eo41; obtain ⟨hcz42_0, hcz42_1, hcz42_2, hfz42_0, hfz42_1, hfz42_2⟩ := cf3 BK131.out
       obtain ⟨Ao43, co43, eo43⟩ := Kd.R_slice HO_140001.out; subst eo43; go_wp2
       refine bodyPost_ret (results_cell_row rfl _ _ gb131 34 #[.slice Ao41 x140000_2.length co41, .slice Ao43 x140001_2.length co43, .int .i64 (wrap64 (a0_2 + (wrap64 (a2 * a1_2))))] (0, 0) _ rfl (by (with_reducible repeat first | refine kN ?_ _ | refine kD ?_ | refine kA ?_ _); refine blk_put (cs := #[.slice Ao41 x140000_2.length co41, .slice Ao43 x140001_2.length co43, .int .i64 0]) ?_ 2 _ rfl; (with_reducible repeat first | refine kN ?_ _ | refine kD ?_ | refine kA ?_ _); refine blk_put (cs := #[.slice Ao41 x140000_2.length co41, .slice none 0 0, .int .i64 0]) ?_ 1 _ rfl; (with_reducible repeat first | refine kN ?_ _ | refine kD ?_ | refine kA ?_ _); refine blk_put (cs := #[.slice none 0 0, .slice none 0 0, .int .i64 0]) ?_ 0 _ rfl; (with_reducible repeat first | refine kN ?_ _ | refine kD ?_ | refine kA ?_ _); refine blk_far ?_ NB131_139.out _; exact lK BK131.out) Try.underlying34 rfl (by kernel_rfl)) rfl ?_
       exact ⟨_, _, er, by exact lR <| Kd.R_mono (Kd.R_far (p := ⟨gb131, 2, none⟩) (Kd.R_far (p := ⟨gb131, 1, none⟩) (Kd.R_far (p := ⟨gb131, 0, none⟩) (Kd.R_far (p := ⟨gb139, 2, none⟩) (Kd.R_types (Kd.R_types HO_140000.out BK139.out (by decide)) BK131.out (by decide)) (fun _ hk => by first | exact hk.1.2 | exact fun e_ => hk.1.2 (e_.trans (ob _ _ _ _))) (.int .i64 (wrap64 (a0_2 + (wrap64 (a2 * a1_2)))))) (fun _ hk => by first | exact hk.2 | exact fun e_ => hk.2 (e_.trans (ob _ _ _ _))) (.slice Ao41 x140000_2.length co41)) (fun _ hk => by first | exact hk.2 | exact fun e_ => hk.2 (e_.trans (ob _ _ _ _))) (.slice Ao43 x140001_2.length co43)) (fun _ hk => by first | exact hk.2 | exact fun e_ => hk.2 (e_.trans (ob _ _ _ _))) (.int .i64 (wrap64 (a0_2 + (wrap64 (a2 * a1_2)))))) (fun _ hk => by first | exact hk.1.1 | exact fun e_ => hk.1.1 (e_.trans (ob _ _ _ _))), by exact lR <| Kd.R_mono (Kd.R_far (p := ⟨gb131, 2, none⟩) (Kd.R_far (p := ⟨gb131, 1, none⟩) (Kd.R_far (p := ⟨gb131, 0, none⟩) (Kd.R_far (p := ⟨gb139, 2, none⟩) (Kd.R_types (Kd.R_types HO_140001.out BK139.out (by decide)) BK131.out (by decide)) (fun _ hk => by first | exact hk.1.2 | exact fun e_ => hk.1.2 (e_.trans (ob _ _ _ _))) (.int .i64 (wrap64 (a0_2 + (wrap64 (a2 * a1_2)))))) (fun _ hk => by first | exact hk.2 | exact fun e_ => hk.2 (e_.trans (ob _ _ _ _))) (.slice Ao41 x140000_2.length co41)) (fun _ hk => by first | exact hk.2 | exact fun e_ => hk.2 (e_.trans (ob _ _ _ _))) (.slice Ao43 x140001_2.length co43)) (fun _ hk => by first | exact hk.2 | exact fun e_ => hk.2 (e_.trans (ob _ _ _ _))) (.int .i64 (wrap64 (a0_2 + (wrap64 (a2 * a1_2)))))) (fun _ hk => by first | exact hk.1.1 | exact fun e_ => hk.1.1 (e_.trans (ob _ _ _ _))), by exact jB HB.out⟩
/-! ### spec_l3Copy: function 89 -/
def spec_l3Copy.l0 : Nat → List (S34) → List (S34) → Int → Option ((List (S34)))
 | 0, _, _, _ => none
 | k + 1, x0, x3, x4 => if x4 < (x0.length : Int) then ((spec_FrmZero.f).bind fun bt149 => (if 0 ≤ x4 then ((spec_l1Sum.f k bt149.1 bt149.2.1 bt149.2.2 ((rd_T34 x0 x4).f0) ((rd_T34 x0 x4).f1) ((rd_T34 x0 x4).f2) 1).bind fun bt157 => (if x3.length < 2513169434916 then (spec_l3Copy.l0 k x0 (x3 ++ [(⟨bt157.1, bt157.2.1, bt157.2.2⟩ : S34)]) (wrap64 (x4 + 1))) else (none))) else (none))) else (some x3)
def spec_l3Copy.f (k : Nat) (l0 : List (S34)) : Option ((List (S34))) := spec_l3Copy.l0 k l0 (([] : List (S34))) 0
def spec_l3Copy.T5 : Bool × List (List Nat × List Nat) := (true, [([], []), ([], []), ([], []), ([], []), ([2, 3], [2, 3]), ([4], [4]), ([1, 5, 1], [1, 5]), ([6], [6]), ([0, 7, 6], [0, 7]), ([8, 8, 0, 1, 2, 3, 4, 5, 6, 7, 8], [0, 8])])
def spec_l3Copy.B5 : List Nat := [0, 0, 0, 0, 12, 28, 62, 126, 255, 511]
theorem spec_l3Copy.tab5 : rtab .any (opsOf Try.f89 5) = spec_l3Copy.T5 := by kernel_rfl
theorem spec_l3Copy.bits5 : waitsOk spec_l3Copy.T5.2 spec_l3Copy.B5 = true := by kernel_rfl
theorem spec_l3Copy.calls (k : Nat) (A0 : Option Addr) (c0 : Nat) (l0 : List (S34)) (r : List (S34)) (w : World) (hr0 : Kd.C k34 w A0 l0.length l0) (hc0 : l0.length ≤ c0) (h : spec_l3Copy.f k l0 = some r) :
  Calls Try.prog 89 #[.slice A0 l0.length c0] w fun e w' => ∃ v0_ : Value, e = .returned (v0_) ∧ Kd.S k34 34 w' w.heap.size (fun _ => True) v0_ r ∧ Below w.heap.size w w' := by
 have hu34 := Try.underlying34; have HR0 := aM hr0; have HC0 := aM hc0; clear hr0 hc0; have HB := aM (Below.refl w.heap.size w); have H : (spec_l3Copy.l0 k l0 (([] : List (S34))) 0) = some r := h
 clear h; obtain ⟨y146, hy146⟩ : ∃ y_ : List (S34), y_ = (([] : List (S34))) := ⟨_, rfl⟩
 replace H : (spec_l3Copy.l0 k l0 y146 0) = some r := by first | (rw [hy146]; exact H) | exact H
 have Ny146 := aM hy146; clear hy146; have H' := aM H
 clear H; go_enter Try.func89, Try.ntmps89
 go_wp2_with (first | ((with_reducible refine gate_dst (N := 5) rfl ?_); refine Kd.S_lit k34 _ 34 ?hg (N := 5) ?hd (xs := ([] : List (S34))) (inner := []) (ok := fun _ => True) (okp := fun _ => True) ?hr ?hp (fun _ hk => hk) trivial (Below.refl _ _) (Nat.le_refl _) (by simp) ?_; (case hd => rfl); (case hg => rfl); (case hr => first | (go_simp; done) | (go_simp; rfl)); (case hp => exact (Reps.none _ _)); intro v147 w2 ho3 hb hg_ hnew_; clear hg_ hnew_; rw [← Ny146.out] at ho3; have HO148 := aM (Kd.S_lower ho3 (bz HB.out)); replace HB := aM (bj HB.out hb); clear hb ho3))
 go_loopg [3, 4] k (fun kq v3 v4 w' => ∃ (x3_1 : List (S34)) (x4_1 : Int), v4 = .int .i64 x4_1 ∧ Aside0 (spec_l3Copy.l0 kq l0 x3_1 x4_1 = some r) ∧ Aside0 (kq ≤ k) ∧ Aside0 (Kd.S k34 34 w' w.heap.size (fun _ => True) v3 x3_1) ∧ Aside0 (Below w.heap.size w w'))
 case atStart => exact ⟨(y146), (0), sr, H', ⟨Nat.le_refl _⟩, ⟨by exact lS <| HO148.out⟩, ⟨by exact lB HB.out⟩⟩
 case round =>
  clear H'
  (try clear p2); obtain ⟨x3_1, x4_1, rfl, HA, HK1, HO_3, HB⟩ := hrel
  cases gk with
  | zero => exact absurd HA.out (by simp [spec_l3Copy.l0])
  | succ k1 =>
   have H := HA.out
   clear HA; simp only [spec_l3Copy.l0] at H
   by_cases c4 : x4_1 < (l0.length : Int)
   ·rw [if_pos c4] at H; replace c4 := decide_eq_true c4; obtain ⟨⟨t149, t152, t155⟩, A5, H⟩ := bS H
    try dsimp only at H
    obtain ⟨c6, H⟩ := iD H; obtain ⟨⟨t157, t160, t163⟩, A7, H⟩ := bS H
    try dsimp only at H
    obtain ⟨c8, H⟩ := iN H; have LMc8 := aM c8; clear c8; obtain ⟨y164, Ny164⟩ : ∃ y_ : List (S34), Aside0 (y_ = (x3_1 ++ [(⟨t157, t160, t163⟩ : S34)])) := ⟨_, ⟨rfl⟩⟩
    try rw [← Ny164.out] at H
    try dsimp only [Option.bind_some] at H
    have H' := aM H
    clear H
    try go_wp2
    replace HO_3 := aM (Kd.S_drew HO_3.out); replace HB := aM (below_drew1 HB.out); have p156 : 0 ≤ (x4_1 : Int) := od; have q156 : x4_1 < (l0.length : Int) := od; obtain ⟨ad156, A156_0, c156_0, A156_1, c156_1, e156, hx156_0, hx156_1, hx156_2, hl156_0, hi156_0, hl156_1, hi156_1⟩ := at_T34 HR0.out x4_1 p156 q156
    have hw156_2 := hx156_2
    have hw156_1 := hx156_1
    have hw156_0 := hx156_0
    cases e156; replace hx156_0 := cl HB.out hx156_0; replace hx156_1 := cl HB.out hx156_1; replace hx156_2 := cl HB.out hx156_2; have HR156_0 := aM hi156_0; have HC156_0 := aM hl156_0; clear hi156_0 hl156_0; have HR156_1 := aM hi156_1; have HC156_1 := aM hl156_1; clear hi156_1 hl156_1; replace p156 := eq_true p156; replace q156 := eq_true q156; refine start_ (n := 10) (S := fun w' => w'.cell? (ad156.add ((x4_1).toNat * 3)) = some (.slice A156_0 ((rd_T34 l0 x4_1).f0).length c156_0) ∧ w'.cell? ⟨(ad156.add ((x4_1).toNat * 3)).block, (ad156.add ((x4_1).toNat * 3)).off + 1, none⟩ = some (.slice A156_1 ((rd_T34 l0 x4_1).f1).length c156_1) ∧ w'.cell? ⟨(ad156.add ((x4_1).toNat * 3)).block, (ad156.add ((x4_1).toNat * 3)).off + 2, none⟩ = some (.int .i64 ((rd_T34 l0 x4_1).f2))) (ds := []) #[false, false, false, false, false, false, false, false, false, false] (by kernel_rfl) rfl rfl ⟨(cl HB.out hw156_0), (cl HB.out hw156_1), (cl HB.out hw156_2)⟩ (fun hHeld => ?_); refine with_tabW spec_l3Copy.tab5 spec_l3Copy.bits5 (fun HT_ HW_ => ?_)
    generalize wr.drew = w9 at HO_3 HB HR156_0 HR156_1 hx156_0 hx156_1 hx156_2 hHeld ⊢
    refine pu 0 (some 12) HT_.out ?_; refine pu 2 (some 14) HT_.out ?_; refine pu 3 (some 15) HT_.out ?_; refine pu 4 (some 16) HT_.out ?_; refine tk 5 (some 17) HT_.out HW_.out hHeld ?_; refine oN 1 (some 13) HT_.out (fun K hK => ?_); refine gO Try.func86 #[] ?_; with_reducible refine (spec_FrmZero.calls  t149 t152 t155 _ A5.out).mono ?_
    rintro e w10 ⟨v150, v153, rfl, ho0, ho1, hb⟩; refine ⟨_, rfl, ?_⟩; replace HO_3 := aM (Kd.S_mono (Kd.S_told (Kd.S_told (Kd.S_old (by exact lS HO_3.out) hb) (Kd.R_base ho0)) (Kd.R_base ho1)) (fun _ h_ => h_.1)); have HO151 := aM (Kd.R_lower ho0 (bz HB.out)); have HO154 := aM (Kd.R_lower ho1 (bz HB.out)); replace HB := aM (bj HB.out hb); clear hb ho0; (try clear ho1); obtain ⟨Ao11, co11, eo11⟩ := Kd.R_slice HO151.out
    (first | subst eo11 | (injection eo11 with f1_ f2_ f3_; have f4_ := f1_.symm; have f5_ := f3_.symm; clear f1_ f2_ f3_; subst f4_; subst f5_))
    obtain ⟨Ao12, co12, eo12⟩ := Kd.R_slice HO154.out
    (first | subst eo12 | (injection eo12 with f1_ f2_ f3_; have f4_ := f1_.symm; have f5_ := f3_.symm; clear f1_ f2_ f3_; subst f4_; subst f5_))
    refine hK.out _ _ ⟨(cl HB.out hw156_0), (cl HB.out hw156_1), (cl HB.out hw156_2)⟩ (fun hHeld => ?_); clear hK K; refine nm (some 13) ?_; refine oN 6 (some 18) HT_.out (fun K hK => ?_); refine gO Try.func92 #[.agg #[.slice Ao11 t149.length co11, .slice Ao12 t152.length co12, .int .i64 t155], .agg #[.slice A156_0 ((rd_T34 l0 x4_1).f0).length c156_0, .slice A156_1 ((rd_T34 l0 x4_1).f1).length c156_1, .int .i64 ((rd_T34 l0 x4_1).f2)], .int .i64 1] ?_; with_reducible refine (spec_l1Sum.calls k1 _ _ t149 _ _ t152 t155 _ _ ((rd_T34 l0 x4_1).f0) _ _ ((rd_T34 l0 x4_1).f1) ((rd_T34 l0 x4_1).f2) 1 t157 t160 t163 _ (by exact lC <| (Kd.R_reads' HO151.out).2.2) (by exact (Kd.R_reads' HO151.out).2.1) (by exact lC <| (Kd.R_reads' HO154.out).2.2) (by exact (Kd.R_reads' HO154.out).2.1) (by exact lC <| (Kd.C_below HR156_0.out HB.out)) HC156_0.out (by exact lC <| (Kd.C_below HR156_1.out HB.out)) HC156_1.out A7.out).mono ?_
    rintro e w13 ⟨v158, v161, rfl, ho0, ho1, hb⟩; refine ⟨_, rfl, ?_⟩; replace HO_3 := aM (Kd.S_mono (Kd.S_told (Kd.S_told (Kd.S_old (by exact lS HO_3.out) hb) (Kd.R_base ho0)) (Kd.R_base ho1)) (fun _ h_ => h_.1)); have HO159 := aM (Kd.R_lower (Kd.R_new' (Kd.R_new' ho0 (rl HO151.out)) (rl HO154.out)) (bz HB.out)); have HO162 := aM (Kd.R_lower (Kd.R_new' (Kd.R_new' ho1 (rl HO151.out)) (rl HO154.out)) (bz HB.out)); replace HO151 := aM (o2 HO151.out hb ho0 ho1); replace HO154 := aM (o2 HO154.out hb ho0 ho1); replace HB := aM (bj HB.out hb); clear hb ho0; (try clear ho1); obtain ⟨Ao15, co15, eo15⟩ := Kd.R_slice HO159.out
    (first | subst eo15 | (injection eo15 with f1_ f2_ f3_; have f4_ := f1_.symm; have f5_ := f3_.symm; clear f1_ f2_ f3_; subst f4_; subst f5_))
    obtain ⟨Ao16, co16, eo16⟩ := Kd.R_slice HO162.out
    (first | subst eo16 | (injection eo16 with f1_ f2_ f3_; have f4_ := f1_.symm; have f5_ := f3_.symm; clear f1_ f2_ f3_; subst f4_; subst f5_))
    refine hK.out _ _ ⟨(cl HB.out hw156_0), (cl HB.out hw156_1), (cl HB.out hw156_2)⟩ (fun hHeld => ?_); clear hK K; refine nm (some 18) ?_; refine oN 7 (some 19) HT_.out (fun K hK => ?_); refine value_ (w1 := ?_) (v := ?_) (by rfl) rfl ?_ ?_
    rotate_left 2
    ·go_simp
     constructor
     ·rfl
     ·rfl
    refine hK.out _ _ ⟨(World.cell?_alloc_lt _ _ _ (World.block_lt_of_cell? _ _ ((cl HB.out hw156_0)))).trans ((cl HB.out hw156_0)), (World.cell?_alloc_lt _ _ _ (World.block_lt_of_cell? _ _ ((cl HB.out hw156_1)))).trans ((cl HB.out hw156_1)), (World.cell?_alloc_lt _ _ _ (World.block_lt_of_cell? _ _ ((cl HB.out hw156_2)))).trans ((cl HB.out hw156_2))⟩ (fun hHeld => ?_); clear hK K; refine nm (some 19) ?_; refine oN 8 (some 20) HT_.out (fun K hK => ?_); refine Kd.S_append_step k34 (w0 := w) w.heap.size (by rfl) (.tmp 12) (.tmp 19) 23 34 (.agg #[(.slice none 0 0), (.slice none 0 0), (.int .i64 0)]) 56 rfl Try.underlying23 info34 rfl (by decide) (by omega) u3 x3_1 (⟨t157, t160, t163⟩ : S34) [.slice Ao15 t157.length co15, .slice Ao16 t160.length co16, .int .i64 t163] (fun k_ => some k_ ≠ ownBlock (.slice Ao11 t149.length co11) ∧ some k_ ≠ ownBlock (.slice Ao12 t152.length co12)) (fun k_ => some k_ = (.slice Ao15 t157.length co15 : Value).ownBlock ∨ some k_ = (.slice Ao16 t160.length co16 : Value).ownBlock) rfl rfl ?aP (fun k_ hk_ => hk_.elim (fun h_ => ((Kd.R_mono (ok' := fun k_ => ((fun k_ => some k_ ≠ ownBlock (.slice Ao11 t149.length co11) ∧ some k_ ≠ ownBlock (.slice Ao12 t152.length co12))) k_ ∧ some k_ ≠ (u3 : Value).ownBlock) (Kd.R_apart' (HO159.out) (Kd.S_typed HO_3.out) (by decide)) (fun k_ hk => ⟨⟨hk.1.1.2, hk.1.2⟩, hk.2⟩))).1 k_ h_.symm) (fun h_ => ((Kd.R_mono (ok' := fun k_ => ((fun k_ => some k_ ≠ ownBlock (.slice Ao11 t149.length co11) ∧ some k_ ≠ ownBlock (.slice Ao12 t152.length co12))) k_ ∧ some k_ ≠ (u3 : Value).ownBlock) (Kd.R_apart' (HO162.out) (Kd.S_typed HO_3.out) (by decide)) (fun k_ hk => ⟨⟨hk.1.1.2, hk.1.2⟩, hk.2⟩))).1 k_ h_.symm)) ?aF ?aO ?aB ?aS ?aL ?_
    (case aP => exact k34_mkM _ _ _ (⟨t157, t160, t163⟩ : S34) (Kd.R_mono (Kd.R_tight rfl (Kd.R_mono (ok' := fun k_ => ((fun k_ => some k_ ≠ ownBlock (.slice Ao11 t149.length co11) ∧ some k_ ≠ ownBlock (.slice Ao12 t152.length co12))) k_ ∧ some k_ ≠ (u3 : Value).ownBlock) (Kd.R_apart' (HO159.out) (Kd.S_typed HO_3.out) (by decide)) (fun k_ hk => ⟨⟨hk.1.1.2, hk.1.2⟩, hk.2⟩))) (fun _ h_ => Or.inl h_)) (Kd.R_mono (Kd.R_tight rfl (Kd.R_mono (ok' := fun k_ => ((fun k_ => some k_ ≠ ownBlock (.slice Ao11 t149.length co11) ∧ some k_ ≠ ownBlock (.slice Ao12 t152.length co12))) k_ ∧ some k_ ≠ (u3 : Value).ownBlock) (Kd.R_apart' (HO162.out) (Kd.S_typed HO_3.out) (by decide)) (fun k_ hk => ⟨⟨hk.1.1.2, hk.1.2⟩, hk.2⟩))) (fun _ h_ => Or.inr (h_))))
    (case aB => exact (by exact lB HB.out))
    (case aF => exact (fun k_ hk => ⟨Kd.fresh' (rl HO151.out) k_ hk, Kd.fresh' (rl HO154.out) k_ hk⟩))
    (case aO => exact (by exact lS <| Kd.S_mono HO_3.out (fun k_ hk => ⟨⟨hk.1.1.1.2, hk.1.1.2⟩, fun e_ => e_.elim (fun h_ => hk.1.2 h_) (fun h_ => hk.2 h_)⟩)))
    (case aS => exact (bz HB.out))
    (case aL => have := LMc8.out; omega)
    intro v165 w14 ho hb hg hat; rw [← Ny164.out] at ho
    replace HO151 := aM (Kd.R_over' (by exact lR HO151.out) (Kd.S_typed (by exact lS HO_3.out)) (by decide) hg); replace HO154 := aM (Kd.R_over' (by exact lR HO154.out) (Kd.S_typed (by exact lS HO_3.out)) (by decide) hg); replace HB := aM (hb); have HO166 := aM (ho); clear HO_3 HO159 HO162 ho hb hg hat; refine hK.out _ _ ⟨(cl HB.out hw156_0), (cl HB.out hw156_1), (cl HB.out hw156_2)⟩ (fun hHeld => ?_); clear hK K; refine nm (some 20) ?_; refine pu 9 (some 3) HT_.out ?_; refine done_ (done_of HT_.out (by kernel_rfl)) ?_
    try go_wp2
    go_roundg k1
    case measure => have := HK1.out; omega
    case rel => exact ⟨(y164), (wrap64 (x4_1 + 1)), sr, H', ⟨by have := HK1.out; omega⟩, ⟨by exact lS <| Kd.S_mono HO166.out (fun _ hk => trivial)⟩, ⟨by exact lB HB.out⟩⟩
   ·rw [if_neg c4] at H; replace c4 := decide_eq_false c4; obtain rfl := Option.some.inj H
    go_wp2
    go_ret
    exact ⟨_, er, by exact lS <| HO_3.out, by exact lB HB.out⟩
/-! ### spec_FrmOk: function 68 -/
def spec_FrmOk.f (k : Nat) (l0_0 : List Int) (l0_1 : List Int) (a0_2 : Int) : Option (Bool) := (spec_l1All.f k l0_0 3 10000000).bind fun t168 => (if t168 = true then ((spec_l1All.f k l0_1 2 10000000).bind fun t169 => (if t169 = true then ((spec_l1In.f a0_2 (-10000000) 10000000).bind fun t170 => (some t170)) else (some false))) else (some false))
theorem spec_FrmOk.calls (k : Nat) (A0_0 : Option Addr) (c0_0 : Nat) (l0_0 : List Int) (A0_1 : Option Addr) (c0_1 : Nat) (l0_1 : List Int) (a0_2 : Int) (r : Bool) (w : World) (hr0_0 : Kd.C (Kd.int .i64) w A0_0 l0_0.length l0_0) (hc0_0 : l0_0.length ≤ c0_0) (hr0_1 : Kd.C (Kd.int .i64) w A0_1 l0_1.length l0_1) (hc0_1 : l0_1.length ≤ c0_1) (h : spec_FrmOk.f k l0_0 l0_1 a0_2 = some r) :
  Calls Try.prog 68 #[.agg #[.slice A0_0 l0_0.length c0_0, .slice A0_1 l0_1.length c0_1, .int .i64 a0_2]] w fun e w' => e = .returned (.bool r) ∧ Below w.heap.size w w' := by
 have hu34 := Try.underlying34; have HR0_0 := aM hr0_0; have HC0_0 := aM hc0_0; clear hr0_0 hc0_0; have HR0_1 := aM hr0_1; have HC0_1 := aM hc0_1; clear hr0_1 hc0_1; have HB := aM (Below.refl w.heap.size w); have H : ((spec_l1All.f k l0_0 3 10000000).bind fun t168 => (if t168 = true then ((spec_l1All.f k l0_1 2 10000000).bind fun t169 => (if t169 = true then ((spec_l1In.f a0_2 (-10000000) 10000000).bind fun t170 => (some t170)) else (some false))) else (some false))) = some r := h
 clear h; obtain ⟨t168, A2, H⟩ := bS H
 try dsimp only at H
 by_cases c3 : t168 = true
 ·subst c3; rw [if_pos rfl] at H
  try dsimp only at H
  obtain ⟨t169, A4, H⟩ := bS H
  try dsimp only at H
  by_cases c5 : t169 = true
  ·subst c5; rw [if_pos rfl] at H
   try dsimp only at H
   obtain ⟨t170, A6, H⟩ := bS H
   try dsimp only at H
   obtain rfl := Option.some.inj H
   go_enter Try.func68, Try.ntmps68
   go_wp2_with (first | ((with_reducible refine gate_dst (N := 1) rfl ?_); refine bx 1 #[.slice A0_0 l0_0.length c0_0, .slice A0_1 l0_1.length c0_1, .int .i64 a0_2] 34 ?_; intro gb167 hg w7 hbox hb; have BK167 := aM (hbox); have GW167 := aM (gz hg HB.out); have IGW167 := wn GW167.out; have GE167 := aM (gz hg HB.out); have IGE167 := wn GE167.out; replace HB := aM (bj HB.out hb); clear hb hbox hg; obtain ⟨hcz8_0, hcz8_1, hcz8_2, hfz8_0, hfz8_1, hfz8_2⟩ := cf3 BK167.out) | (refine gL (some 5) Try.func58 #[.slice A0_0 l0_0.length c0_0, .int .i64 3, .int .i64 10000000] ?_; (with_reducible refine (spec_l1All.calls k _ _ l0_0 3 10000000 true _ (by exact lC <| (Kd.C_below HR0_0.out HB.out)) HC0_0.out A2.out).mono ?_); rintro e w' ⟨rfl, ⟨nd, rfl⟩⟩; refine ⟨_, rfl, ?_⟩) | (go_at_call 58; (with_reducible refine (spec_l1All.calls k _ _ l0_1 2 10000000 true _ ?side1 ?side2 A4.out).mono ?_); (case side1 => repeat (first | exact (Kd.C_below HR0_1.out (by exact jB HB.out)) | (with_reducible refine Kd.C_alloc ?_ _) | (with_reducible refine Kd.C_drewN ?_ _) | (with_reducible refine Kd.C_drew ?_))); (case side2 => exact HC0_1.out); rintro e w' ⟨rfl, ⟨nd, rfl⟩⟩) | (go_at_call 57; (with_reducible refine (spec_l1In.calls a0_2 (-10000000) 10000000 t170 _ A6.out).mono ?_); rintro e w' ⟨rfl, ⟨nd, rfl⟩⟩))
   go_ret
   exact ⟨er, by exact jB HB.out⟩
  ·replace c5 := Bool.eq_false_iff.mpr c5
   subst c5; rw [if_neg nf] at H
   try dsimp only at H
   obtain rfl := Option.some.inj H
   go_enter Try.func68, Try.ntmps68
   go_wp2_with (first | ((with_reducible refine gate_dst (N := 1) rfl ?_); refine bx 1 #[.slice A0_0 l0_0.length c0_0, .slice A0_1 l0_1.length c0_1, .int .i64 a0_2] 34 ?_; intro gb167 hg w9 hbox hb; have BK167 := aM (hbox); have GW167 := aM (gz hg HB.out); have IGW167 := wn GW167.out; have GE167 := aM (gz hg HB.out); have IGE167 := wn GE167.out; replace HB := aM (bj HB.out hb); clear hb hbox hg; obtain ⟨hcz10_0, hcz10_1, hcz10_2, hfz10_0, hfz10_1, hfz10_2⟩ := cf3 BK167.out) | (refine gL (some 5) Try.func58 #[.slice A0_0 l0_0.length c0_0, .int .i64 3, .int .i64 10000000] ?_; (with_reducible refine (spec_l1All.calls k _ _ l0_0 3 10000000 true _ (by exact lC <| (Kd.C_below HR0_0.out HB.out)) HC0_0.out A2.out).mono ?_); rintro e w' ⟨rfl, ⟨nd, rfl⟩⟩; refine ⟨_, rfl, ?_⟩) | (go_at_call 58; (with_reducible refine (spec_l1All.calls k _ _ l0_1 2 10000000 false _ ?side1 ?side2 A4.out).mono ?_); (case side1 => repeat (first | exact (Kd.C_below HR0_1.out (by exact jB HB.out)) | (with_reducible refine Kd.C_alloc ?_ _) | (with_reducible refine Kd.C_drewN ?_ _) | (with_reducible refine Kd.C_drew ?_))); (case side2 => exact HC0_1.out); rintro e w' ⟨rfl, ⟨nd, rfl⟩⟩))
   go_ret
   exact ⟨er, by exact jB HB.out⟩
 ·replace c3 := Bool.eq_false_iff.mpr c3
  subst c3; rw [if_neg nf] at H
  try dsimp only at H
  obtain rfl := Option.some.inj H
  go_enter Try.func68, Try.ntmps68
  go_wp2_with (first | ((with_reducible refine gate_dst (N := 1) rfl ?_); refine bx 1 #[.slice A0_0 l0_0.length c0_0, .slice A0_1 l0_1.length c0_1, .int .i64 a0_2] 34 ?_; intro gb167 hg w11 hbox hb; have BK167 := aM (hbox); have GW167 := aM (gz hg HB.out); have IGW167 := wn GW167.out; have GE167 := aM (gz hg HB.out); have IGE167 := wn GE167.out; replace HB := aM (bj HB.out hb); clear hb hbox hg; obtain ⟨hcz12_0, hcz12_1, hcz12_2, hfz12_0, hfz12_1, hfz12_2⟩ := cf3 BK167.out) | (refine gL (some 5) Try.func58 #[.slice A0_0 l0_0.length c0_0, .int .i64 3, .int .i64 10000000] ?_; (with_reducible refine (spec_l1All.calls k _ _ l0_0 3 10000000 false _ (by exact lC <| (Kd.C_below HR0_0.out HB.out)) HC0_0.out A2.out).mono ?_); rintro e w' ⟨rfl, ⟨nd, rfl⟩⟩; refine ⟨_, rfl, ?_⟩))
  go_ret
  exact ⟨er, by exact jB HB.out⟩
end Go.Proofs.Ytcpaplcnebdocaa.QFnRowDo
-- shorter
