/- Plain functions, and that the Go code computes them: written by a program of this session over the seat's translation; the conditions stand in each theorem. -/
import Derived.Test.YtopbdoilpdpkmaaQFnFrmTimesx100
import Derived.Test.YtopbdoilpdpkmaaQFnFrmTimesx0
import Derived.Test.YtopbdoilpdpkmaaQFnFrmTimesx4
import Derived.Test.YtopbdoilpdpkmaaQFnFrmTimesx5
import Derived.Test.YtopbdoilpdpkmaaQFnFrmTimesx6
import Derived.Test.YtopbdoilpdpkmaaQFnFrmTimesx8
import Derived.Test.YtopbdoilpdpkmaaQFnFrmTimesx9
namespace Go.Proofs.Ytopbdoilpdpkmaa.QFnFrmTimes
open Go.RowKit Go.Proofs.YtopbdoilpdpkmaaW.PrintWords Go.Proofs.YtopbdoilpdpkmaaW.PrintLast Go.Proofs.YtopbdoilpdpkmaaW.PrintMore Go.Proofs.Ytopbdoilpdpkmaa.HWords
attribute [local go_sem] max2_int min2_int max_two min_two max_three min_three max_four min_four   -- for this text's walks alone
set_option linter.unusedVariables false
set_option linter.unusedSimpArgs false

set_option maxHeartbeats 8000000 in
set_option maxRecDepth 100000 in
theorem laws_FnFrmTimes.calls (k : Nat) (A0 : Option Addr) (c0 : Nat) (l0 : List Int) (A1 : Option Addr) (c1 : Nat) (l1 : List Int) (r : Bool) (w : World) (hr : Aside0 (r = true)) (hr0 : Kd.C (Kd.int .u8) w A0 l0.length l0) (hc0 : l0.length ≤ c0) (hr1 : Kd.C (Kd.int .u8) w A1 l1.length l1) (hc1 : l1.length ≤ c1) (h : laws_FnFrmTimes.f k l0 l1 = some r) :
  Calls Try.prog 4 #[.slice A0 l0.length c0, .slice A1 l1.length c1] w fun e w' => e = .returned (.bool r) ∧ Below w.heap.size w w' := by
 have hu25 := Try.underlying25
 have HR0 := Aside0.mk hr0
 have HC0 := Aside0.mk hc0
 clear hr0 hc0
 have HR1 := Aside0.mk hr1
 have HC1 := Aside0.mk hc1
 clear hr1 hc1
 have HB := Aside0.mk (Below.refl w.heap.size w)
 have H : (if (l0.length : Int) > 1048576 then (laws_FnFrmTimes.j0 k l0 l1 true) else (laws_FnFrmTimes.j0 k l0 l1 (decide ((l1.length : Int) > 1048576)))) = some r := h
 clear h
 have HC3 := Aside0.mk H
 clear H
 go_enter Try.func4, Try.ntmps4
 go_upto_region 1 with (fail)
 go_cut [23] (fun v23 wc => ∃ (kq : Nat) (x23_2 : Bool), v23 = .bool x23_2 ∧ Aside0 (laws_FnFrmTimes.j0 kq l0 l1 x23_2 = some r) ∧ Aside0 (kq ≤ k) ∧ Aside0 (Below w.heap.size w wc))
 case first =>
  have H := HC3.out
  clear HC3
  by_cases c4 : (l0.length : Int) > 1048576
  ·rw [if_pos c4] at H
   have c4b0 : decide (1048576 < (l0.length : Int)) = true := decide_eq_true c4
   have c4b1 : decide (1048576 < l0.length) = true := decide_eq_true (by omega)
   clear c4
   (first | rw [c4b0] | (simp only [i64_w, i32_w]; rw [c4b0]) | skip)
   have H' := Aside0.mk H
   clear H
   go_wp2
   go_meet
   case rel => exact ⟨_, (true), (by first | rfl | (simp; done) | (simp [*]; done)), H', ⟨by first | omega | exact Nat.le_refl _⟩, ⟨by exact lB HB.out⟩⟩
  ·rw [if_neg c4] at H
   have c4b0 : decide (1048576 < (l0.length : Int)) = false := decide_eq_false c4
   have c4b1 : decide (1048576 < l0.length) = false := decide_eq_false (by omega)
   clear c4
   (first | rw [c4b0] | (simp only [i64_w, i32_w]; rw [c4b0]) | skip)
   have H' := Aside0.mk H
   clear H
   go_wp2
   go_meet
   case rel => exact ⟨_, (decide ((l1.length : Int) > 1048576)), (by first | rfl | (simp; done) | (simp [*]; done)), H', ⟨by first | omega | exact Nat.le_refl _⟩, ⟨by exact lB HB.out⟩⟩
 case rest =>
  clear HC3
  try clear c1
  try clear p2
  try clear c4
  try clear c4b0
  try clear c4b1
  obtain ⟨kq, x23_2, rfl, HA, HJ2, HB⟩ := hcut
  cases kq with
  | zero => exact absurd HA.out (by simp [laws_FnFrmTimes.j0])
  | succ kj2 =>
   have H := HA.out
   clear HA
   simp only [laws_FnFrmTimes.j0] at H
   by_cases c5 : x23_2 = true
   ·subst c5
    have H1 : (some true) = some r := by rw [if_pos rfl] at H; exact H
    clear H
    have H := H1
    clear H1
    obtain rfl := Option.some.inj H
    go_wp2
    go_ret
    exact ⟨by first | rfl | (simp [errW_none, errW_some] <;> rfl) | (simp [*, errW_none, errW_some] <;> rfl), by exact lB HB.out⟩
   ·replace c5 := Bool.eq_false_iff.mpr c5
    subst c5
    have H1 : ((spec_DrawFrmTimes.f kj2 l0).bind fun bt370 => ((spec_DrawFrmAt.f kj2 l1).bind fun bt379 => ((impl_FrmTimes.f bt370.1 bt370.2.1 bt370.2.2.1 bt370.2.2.2).bind fun bt393 => ((spec_FrmTimes.f kj2 bt370.1 bt370.2.1 bt370.2.2.1 bt370.2.2.2).bind fun bt401 => ((laws_coForm.f kj2 bt393.1 bt393.2.1 bt393.2.2 bt401.1 bt401.2.1 bt401.2.2).bind fun t408 => (if t408 = true then ((impl_FrmOk.f bt370.1 bt370.2.1 bt370.2.2.1).bind fun t409 => ((spec_FrmOk.f kj2 bt370.1 bt370.2.1 bt370.2.2.1).bind fun t410 => (laws_FnFrmTimes.j1 kj2 bt370.2.2.2 bt379.2.2.2.1 bt379.2.2.2.2 (t409 != t410) bt370.1 bt370.2.1 bt370.2.2.1 bt393.1 bt393.2.1 bt393.2.2))) else (laws_FnFrmTimes.j1 kj2 bt370.2.2.2 bt379.2.2.2.1 bt379.2.2.2.2 true bt370.1 bt370.2.1 bt370.2.2.1 bt393.1 bt393.2.1 bt393.2.2))))))) = some r := by rw [if_neg (show ¬ (false = true) by decide)] at H; exact H
    clear H
    have H := H1
    clear H1
    replace H := Option.bind_eq_some_iff.mp H
    obtain ⟨⟨t370, t373, t376, t377⟩, A60, H⟩ := H
    replace H : ((spec_DrawFrmAt.f kj2 l1).bind fun bt379 => ((impl_FrmTimes.f t370 t373 t376 t377).bind fun bt393 => ((spec_FrmTimes.f kj2 t370 t373 t376 t377).bind fun bt401 => ((laws_coForm.f kj2 bt393.1 bt393.2.1 bt393.2.2 bt401.1 bt401.2.1 bt401.2.2).bind fun t408 => (if t408 = true then ((impl_FrmOk.f t370 t373 t376).bind fun t409 => ((spec_FrmOk.f kj2 t370 t373 t376).bind fun t410 => (laws_FnFrmTimes.j1 kj2 t377 bt379.2.2.2.1 bt379.2.2.2.2 (t409 != t410) t370 t373 t376 bt393.1 bt393.2.1 bt393.2.2))) else (laws_FnFrmTimes.j1 kj2 t377 bt379.2.2.2.1 bt379.2.2.2.2 true t370 t373 t376 bt393.1 bt393.2.1 bt393.2.2)))))) = some r := H
    have A6 := Aside0.mk A60
    clear A60
    replace H := Option.bind_eq_some_iff.mp H
    obtain ⟨⟨t379, t382, t385, t386, t389⟩, A70, H⟩ := H
    replace H : ((impl_FrmTimes.f t370 t373 t376 t377).bind fun bt393 => ((spec_FrmTimes.f kj2 t370 t373 t376 t377).bind fun bt401 => ((laws_coForm.f kj2 bt393.1 bt393.2.1 bt393.2.2 bt401.1 bt401.2.1 bt401.2.2).bind fun t408 => (if t408 = true then ((impl_FrmOk.f t370 t373 t376).bind fun t409 => ((spec_FrmOk.f kj2 t370 t373 t376).bind fun t410 => (laws_FnFrmTimes.j1 kj2 t377 t386 t389 (t409 != t410) t370 t373 t376 bt393.1 bt393.2.1 bt393.2.2))) else (laws_FnFrmTimes.j1 kj2 t377 t386 t389 true t370 t373 t376 bt393.1 bt393.2.1 bt393.2.2))))) = some r := H
    have A7 := Aside0.mk A70
    clear A70
    replace H := Option.bind_eq_some_iff.mp H
    obtain ⟨⟨t393, t396, t399⟩, A80, H⟩ := H
    replace H : ((spec_FrmTimes.f kj2 t370 t373 t376 t377).bind fun bt401 => ((laws_coForm.f kj2 t393 t396 t399 bt401.1 bt401.2.1 bt401.2.2).bind fun t408 => (if t408 = true then ((impl_FrmOk.f t370 t373 t376).bind fun t409 => ((spec_FrmOk.f kj2 t370 t373 t376).bind fun t410 => (laws_FnFrmTimes.j1 kj2 t377 t386 t389 (t409 != t410) t370 t373 t376 t393 t396 t399))) else (laws_FnFrmTimes.j1 kj2 t377 t386 t389 true t370 t373 t376 t393 t396 t399)))) = some r := H
    have A8 := Aside0.mk A80
    clear A80
    have HC9 := Aside0.mk H
    clear H
    go_upto_region 6 with (first | ((with_reducible refine gate_callee (f := 14) rfl ?_); refine goesL_ (some 26) rfl rfl Try.func14 (by kernel_rfl) rfl #[.slice A0 l0.length c0] rfl (by (try simp only [mA, mC, mN]); first | done | rfl | (simp only [ld, lt]; rfl)) ?_; (with_reducible refine (spec_DrawFrmTimes.calls kj2 _ _ l0 t370 t373 t376 t377 _ ?side1 ?side2 A6.out).mono ?_); (case side1 => exact lC <| (Kd.C_below HR0.out HB.out)); (case side2 => exact HC0.out); rintro e w10 ⟨v371, v374, rfl, ho0, ho1, hb⟩; refine ⟨_, rfl, ?_⟩; have HO372 := Aside0.mk (Kd.R_lower ho0 (below_size (by exact lB HB.out))); have HO375 := Aside0.mk (Kd.R_lower ho1 (below_size (by exact lB HB.out))); replace HB := Aside0.mk (below_step (by exact lB HB.out) hb); (try clear hb); (try clear hb2); (try clear hk); (try clear hi); (try clear ho0); (try clear ho1)) | ((with_reducible refine gate_dst (N := 5) rfl ?_); (try (refine gate_guard (by rfl) ?_; dsimp only)); refine box_event ?hg (N := 5) ?hd (cs := #[.slice none 0 0, .slice none 0 0, .int .i64 0]) (t := 25) ?hr ?_; (case hd => rfl); (case hg => rfl); (case hr => first | (go_simp; done) | (go_simp; rfl)); intro gb378 hg w11 hbox hb; replace HO372 := Aside0.mk (rb HO372.out hb); replace HO375 := Aside0.mk (rb HO375.out hb); have BK378 := Aside0.mk (hbox); have GW378 := Aside0.mk ((by rw [hg]; exact (below_size (by exact lB HB.out)) : w.heap.size ≤ gb378)); have IGW378 : Nonempty _ := ⟨GW378.out⟩; have GE378 := Aside0.mk ((by rw [hg]; exact (below_size (by exact lB HB.out)) : w.heap.size ≤ gb378)); have IGE378 : Nonempty _ := ⟨GE378.out⟩; replace HB := Aside0.mk (below_step (by exact lB HB.out) hb); clear hb hbox hg; obtain ⟨Ao12, co12, eo12⟩ := Kd.R_slice HO372.out; subst eo12; obtain ⟨hcz13_0, hcz13_1, hcz13_2, hfz13_0, hfz13_1, hfz13_2⟩ := cf3 BK378.out; obtain ⟨Ao14, co14, eo14⟩ := Kd.R_slice HO375.out; subst eo14) | ((with_reducible refine gate_callee (f := 6) rfl ?_); refine goesL_ (some 31) rfl rfl Try.func6 (by kernel_rfl) rfl #[.slice A1 l1.length c1] rfl (by (try simp only [mA, mC, mN]); first | done | rfl | (simp only [ld, lt]; rfl)) ?_; (with_reducible refine (spec_DrawFrmAt.calls kj2 _ _ l1 t379 t382 t385 t386 t389 _ ?side1 ?side2 A7.out).mono ?_); (case side1 => exact Kd.C_below HR1.out (by exact jB HB.out)); (case side2 => exact HC1.out); rintro e w15 ⟨v380, v383, v387, v390, rfl, ho0, ho1, ho2, ho3, hb⟩; refine ⟨_, rfl, ?_⟩; have HO381 := Aside0.mk (Kd.R_lower (Kd.R_new' (Kd.R_new' ho0 (Kd.R_lt (by (with_reducible repeat (first | apply ra | apply rn | apply re)); exact (R3 HO372.out BK378.out)))) (Kd.R_lt (by (with_reducible repeat (first | apply ra | apply rn | apply re)); exact (R3 HO375.out BK378.out)))) (below_size (by exact jB HB.out))); have HO384 := Aside0.mk (Kd.R_lower (Kd.R_new' (Kd.R_new' ho1 (Kd.R_lt (by (with_reducible repeat (first | apply ra | apply rn | apply re)); exact (R3 HO372.out BK378.out)))) (Kd.R_lt (by (with_reducible repeat (first | apply ra | apply rn | apply re)); exact (R3 HO375.out BK378.out)))) (below_size (by exact jB HB.out))); have HO388 := Aside0.mk (Kd.R_lower (Kd.R_new' (Kd.R_new' ho2 (Kd.R_lt (by (with_reducible repeat (first | apply ra | apply rn | apply re)); exact (R3 HO372.out BK378.out)))) (Kd.R_lt (by (with_reducible repeat (first | apply ra | apply rn | apply re)); exact (R3 HO375.out BK378.out)))) (below_size (by exact jB HB.out))); have HO391 := Aside0.mk (Kd.R_lower (Kd.R_new' (Kd.R_new' ho3 (Kd.R_lt (by (with_reducible repeat (first | apply ra | apply rn | apply re)); exact (R3 HO372.out BK378.out)))) (Kd.R_lt (by (with_reducible repeat (first | apply ra | apply rn | apply re)); exact (R3 HO375.out BK378.out)))) (below_size (by exact jB HB.out))); replace HO372 := Aside0.mk (Kd.R_mono (Kd.R_told (Kd.R_told (Kd.R_told (Kd.R_told (Kd.R_old (by (with_reducible repeat (first | apply ra | apply rn | apply re)); exact (R3 HO372.out BK378.out)) hb) (Kd.R_base ho0)) (Kd.R_base ho1)) (Kd.R_base ho2)) (Kd.R_base ho3)) (fun _ h_ => h_.1)); replace HO375 := Aside0.mk (Kd.R_mono (Kd.R_told (Kd.R_told (Kd.R_told (Kd.R_told (Kd.R_old (by (with_reducible repeat (first | apply ra | apply rn | apply re)); exact (R3 HO375.out BK378.out)) hb) (Kd.R_base ho0)) (Kd.R_base ho1)) (Kd.R_base ho2)) (Kd.R_base ho3)) (fun _ h_ => h_.1)); replace BK378 := Aside0.mk (blk_below (g := gb378) (o := .cells #[.slice Ao12 t370.length co12, .slice Ao14 t373.length co14, .int .i64 t376] 25 (0, 0)) (by (with_reducible repeat first | refine kN ?_ _ | refine kD ?_ | refine kA ?_ _); refine blk_put (cs := #[.slice Ao12 t370.length co12, .slice Ao14 t373.length co14, .int .i64 0]) ?_ 2 _ rfl; (with_reducible repeat first | refine kN ?_ _ | refine kD ?_ | refine kA ?_ _); refine blk_put (cs := #[.slice Ao12 t370.length co12, .slice none 0 0, .int .i64 0]) ?_ 1 _ rfl; (with_reducible repeat first | refine kN ?_ _ | refine kD ?_ | refine kA ?_ _); refine blk_put (cs := #[.slice none 0 0, .slice none 0 0, .int .i64 0]) ?_ 0 _ rfl; exact lK BK378.out) hb); replace HB := Aside0.mk (below_step (by exact jB HB.out) hb); (try clear hb); (try clear hb2); (try clear hk); (try clear hi); (try clear ho0); (try clear ho1); (try clear ho2); (try clear ho3)) | ((with_reducible refine gate_dst (N := 7) rfl ?_); (try (refine gate_guard (by rfl) ?_; dsimp only)); refine box_event ?hg (N := 7) ?hd (cs := #[.slice none 0 0, .slice none 0 0, .int .i64 0]) (t := 25) ?hr ?_; (case hd => rfl); (case hg => rfl); (case hr => first | (go_simp; done) | (go_simp; rfl)); intro gb392 hg w16 hbox hb; replace HO372 := Aside0.mk (rb HO372.out hb); replace HO375 := Aside0.mk (rb HO375.out hb); replace HO381 := Aside0.mk (rb HO381.out hb); replace HO384 := Aside0.mk (rb HO384.out hb); replace HO388 := Aside0.mk (rb HO388.out hb); replace HO391 := Aside0.mk (rb HO391.out hb); have BK392 := Aside0.mk (hbox); have GW392 := Aside0.mk ((by rw [hg]; exact (below_size (by exact jB HB.out)) : w.heap.size ≤ gb392)); have IGW392 : Nonempty _ := ⟨GW392.out⟩; have GE392 := Aside0.mk ((by rw [hg]; exact (below_size (by exact jB HB.out)) : w.heap.size ≤ gb392)); have IGE392 : Nonempty _ := ⟨GE392.out⟩; replace HB := Aside0.mk (below_step (by exact jB HB.out) hb); have NB378_392 := Aside0.mk ((neL hg (lK BK378.out) : gb378 ≠ gb392)); have INB378_392 : Nonempty _ := ⟨NB378_392.out⟩; have NB392_378 := Aside0.mk ((neG hg (lK BK378.out) : gb392 ≠ gb378)); have INB392_378 : Nonempty _ := ⟨NB392_378.out⟩; replace BK378 := Aside0.mk (bb BK378.out hb); clear hb hbox hg; obtain ⟨Ao17, co17, eo17⟩ := Kd.R_slice HO381.out; subst eo17; have hnb18 := NB392_378.out; have hnc18 := NB378_392.out; obtain ⟨hcz19_0, hcz19_1, hcz19_2, hfz19_0, hfz19_1, hfz19_2⟩ := cf3 BK392.out; obtain ⟨Ao20, co20, eo20⟩ := Kd.R_slice HO384.out; subst eo20; obtain ⟨hcz21_0, hcz21_1, hcz21_2, hfz21_0, hfz21_1, hfz21_2⟩ := cf3 BK378.out) | ((with_reducible refine gate_callee (f := 15) rfl ?_); refine goesL_ (some 37) rfl rfl Try.func15 (by kernel_rfl) rfl #[.agg #[.slice Ao12 t370.length co12, .slice Ao14 t373.length co14, .int .i64 t376], .int .i64 t377] rfl (by (try simp only [mA, mC, mN]); first | done | rfl | (simp only [ld, lt]; rfl)) ?_; (with_reducible refine (impl_FrmTimes.calls _ _ t370 _ _ t373 t376 t377 t393 t396 t399 _ ?side1 ?side2 ?side3 ?side4 A8.out).mono ?_); (case side1 => refine (Kd.R_reads' (e := 3) (base := w.heap.size) (ok := fun k_ => ((((some k_ ≠ (.slice Ao14 t373.length co14 : Value).ownBlock ∧ some k_ ≠ (.slice Ao17 t379.length co17 : Value).ownBlock) ∧ some k_ ≠ (.slice Ao20 t382.length co20 : Value).ownBlock) ∧ some k_ ≠ (v387 : Value).ownBlock) ∧ some k_ ≠ (v390 : Value).ownBlock)) (n := t370.length) (c := co12) ?_).2.2; exact (by (with_reducible repeat (first | apply ra | apply rn | apply re)); exact (R3 HO372.out BK392.out))); (case side2 => exact (Kd.R_reads' HO372.out).2.1); (case side3 => refine (Kd.R_reads' (e := 3) (base := w.heap.size) (ok := fun k_ => ((((some k_ ≠ (.slice Ao12 t370.length co12 : Value).ownBlock ∧ some k_ ≠ (.slice Ao17 t379.length co17 : Value).ownBlock) ∧ some k_ ≠ (.slice Ao20 t382.length co20 : Value).ownBlock) ∧ some k_ ≠ (v387 : Value).ownBlock) ∧ some k_ ≠ (v390 : Value).ownBlock)) (n := t373.length) (c := co14) ?_).2.2; exact (by (with_reducible repeat (first | apply ra | apply rn | apply re)); exact (R3 HO375.out BK392.out))); (case side4 => exact (Kd.R_reads' HO375.out).2.1); rintro e w22 ⟨v394, v397, rfl, ho0, ho1, hb⟩; refine ⟨_, rfl, ?_⟩; have HO395 := Aside0.mk (Kd.R_lower (Kd.R_new' (Kd.R_new' (Kd.R_new' (Kd.R_new' (Kd.R_new' (Kd.R_new' ho0 (Kd.R_lt (by (with_reducible repeat (first | apply ra | apply rn | apply re)); exact (R3 HO372.out BK392.out)))) (Kd.R_lt (by (with_reducible repeat (first | apply ra | apply rn | apply re)); exact (R3 HO375.out BK392.out)))) (Kd.R_lt (by (with_reducible repeat (first | apply ra | apply rn | apply re)); exact (R3 HO381.out BK392.out)))) (Kd.R_lt (by (with_reducible repeat (first | apply ra | apply rn | apply re)); exact (R3 HO384.out BK392.out)))) (Kd.R_lt (by (with_reducible repeat (first | apply ra | apply rn | apply re)); exact (R3 HO388.out BK392.out)))) (Kd.R_lt (by (with_reducible repeat (first | apply ra | apply rn | apply re)); exact (R3 HO391.out BK392.out)))) (below_size (by exact jB HB.out))); have HO398 := Aside0.mk (Kd.R_lower (Kd.R_new' (Kd.R_new' (Kd.R_new' (Kd.R_new' (Kd.R_new' (Kd.R_new' ho1 (Kd.R_lt (by (with_reducible repeat (first | apply ra | apply rn | apply re)); exact (R3 HO372.out BK392.out)))) (Kd.R_lt (by (with_reducible repeat (first | apply ra | apply rn | apply re)); exact (R3 HO375.out BK392.out)))) (Kd.R_lt (by (with_reducible repeat (first | apply ra | apply rn | apply re)); exact (R3 HO381.out BK392.out)))) (Kd.R_lt (by (with_reducible repeat (first | apply ra | apply rn | apply re)); exact (R3 HO384.out BK392.out)))) (Kd.R_lt (by (with_reducible repeat (first | apply ra | apply rn | apply re)); exact (R3 HO388.out BK392.out)))) (Kd.R_lt (by (with_reducible repeat (first | apply ra | apply rn | apply re)); exact (R3 HO391.out BK392.out)))) (below_size (by exact jB HB.out))); replace HO372 := Aside0.mk (Kd.R_mono (Kd.R_told (Kd.R_told (Kd.R_old (by (with_reducible repeat (first | apply ra | apply rn | apply re)); exact (R3 HO372.out BK392.out)) hb) (Kd.R_base ho0)) (Kd.R_base ho1)) (fun _ h_ => h_.1)); replace HO375 := Aside0.mk (Kd.R_mono (Kd.R_told (Kd.R_told (Kd.R_old (by (with_reducible repeat (first | apply ra | apply rn | apply re)); exact (R3 HO375.out BK392.out)) hb) (Kd.R_base ho0)) (Kd.R_base ho1)) (fun _ h_ => h_.1)); replace HO381 := Aside0.mk (Kd.R_mono (Kd.R_told (Kd.R_told (Kd.R_old (by (with_reducible repeat (first | apply ra | apply rn | apply re)); exact (R3 HO381.out BK392.out)) hb) (Kd.R_base ho0)) (Kd.R_base ho1)) (fun _ h_ => h_.1)); replace HO384 := Aside0.mk (Kd.R_mono (Kd.R_told (Kd.R_told (Kd.R_old (by (with_reducible repeat (first | apply ra | apply rn | apply re)); exact (R3 HO384.out BK392.out)) hb) (Kd.R_base ho0)) (Kd.R_base ho1)) (fun _ h_ => h_.1)); replace HO388 := Aside0.mk (Kd.R_mono (Kd.R_told (Kd.R_told (Kd.R_old (by (with_reducible repeat (first | apply ra | apply rn | apply re)); exact (R3 HO388.out BK392.out)) hb) (Kd.R_base ho0)) (Kd.R_base ho1)) (fun _ h_ => h_.1)); replace HO391 := Aside0.mk (Kd.R_mono (Kd.R_told (Kd.R_told (Kd.R_old (by (with_reducible repeat (first | apply ra | apply rn | apply re)); exact (R3 HO391.out BK392.out)) hb) (Kd.R_base ho0)) (Kd.R_base ho1)) (fun _ h_ => h_.1)); replace BK378 := Aside0.mk (blk_below (g := gb378) (o := .cells #[.slice Ao12 t370.length co12, .slice Ao14 t373.length co14, .int .i64 t376] 25 (0, 0)) (by (with_reducible repeat first | refine kN ?_ _ | refine kD ?_ | refine kA ?_ _); refine blk_far ?_ NB378_392.out _; (with_reducible repeat first | refine kN ?_ _ | refine kD ?_ | refine kA ?_ _); refine blk_far ?_ NB378_392.out _; (with_reducible repeat first | refine kN ?_ _ | refine kD ?_ | refine kA ?_ _); refine blk_far ?_ NB378_392.out _; exact lK BK378.out) hb); replace BK392 := Aside0.mk (blk_below (g := gb392) (o := .cells #[.slice Ao17 t379.length co17, .slice Ao20 t382.length co20, .int .i64 t385] 25 (0, 0)) (by (with_reducible repeat first | refine kN ?_ _ | refine kD ?_ | refine kA ?_ _); refine blk_put (cs := #[.slice Ao17 t379.length co17, .slice Ao20 t382.length co20, .int .i64 0]) ?_ 2 _ rfl; (with_reducible repeat first | refine kN ?_ _ | refine kD ?_ | refine kA ?_ _); refine blk_put (cs := #[.slice Ao17 t379.length co17, .slice none 0 0, .int .i64 0]) ?_ 1 _ rfl; (with_reducible repeat first | refine kN ?_ _ | refine kD ?_ | refine kA ?_ _); refine blk_put (cs := #[.slice none 0 0, .slice none 0 0, .int .i64 0]) ?_ 0 _ rfl; exact lK BK392.out) hb); replace HB := Aside0.mk (below_step (by exact jB HB.out) hb); (try clear hb); (try clear hb2); (try clear hk); (try clear hi); (try clear ho0); (try clear ho1)) | ((with_reducible refine gate_dst (N := 10) rfl ?_); (try (refine gate_guard (by rfl) ?_; dsimp only)); refine box_event ?hg (N := 10) ?hd (cs := #[.slice none 0 0, .slice none 0 0, .int .i64 0]) (t := 25) ?hr ?_; (case hd => rfl); (case hg => rfl); (case hr => first | (go_simp; done) | (go_simp; rfl)); intro gb400 hg w23 hbox hb; replace HO372 := Aside0.mk (rb HO372.out hb); replace HO375 := Aside0.mk (rb HO375.out hb); replace HO381 := Aside0.mk (rb HO381.out hb); replace HO384 := Aside0.mk (rb HO384.out hb); replace HO388 := Aside0.mk (rb HO388.out hb); replace HO391 := Aside0.mk (rb HO391.out hb); replace HO395 := Aside0.mk (rb HO395.out hb); replace HO398 := Aside0.mk (rb HO398.out hb); have BK400 := Aside0.mk (hbox); have GW400 := Aside0.mk ((by rw [hg]; exact (below_size (by exact jB HB.out)) : w.heap.size ≤ gb400)); have IGW400 : Nonempty _ := ⟨GW400.out⟩; have GE400 := Aside0.mk ((by rw [hg]; exact (below_size (by exact jB HB.out)) : w.heap.size ≤ gb400)); have IGE400 : Nonempty _ := ⟨GE400.out⟩; replace HB := Aside0.mk (below_step (by exact jB HB.out) hb); have NB378_400 := Aside0.mk ((neL hg (lK BK378.out) : gb378 ≠ gb400)); have INB378_400 : Nonempty _ := ⟨NB378_400.out⟩; have NB400_378 := Aside0.mk ((neG hg (lK BK378.out) : gb400 ≠ gb378)); have INB400_378 : Nonempty _ := ⟨NB400_378.out⟩; replace BK378 := Aside0.mk (bb BK378.out hb); have NB392_400 := Aside0.mk ((neL hg (lK BK392.out) : gb392 ≠ gb400)); have INB392_400 : Nonempty _ := ⟨NB392_400.out⟩; have NB400_392 := Aside0.mk ((neG hg (lK BK392.out) : gb400 ≠ gb392)); have INB400_392 : Nonempty _ := ⟨NB400_392.out⟩; replace BK392 := Aside0.mk (bb BK392.out hb); clear hb hbox hg; obtain ⟨Ao24, co24, eo24⟩ := Kd.R_slice HO395.out; subst eo24; have hnb25 := NB400_378.out; have hnc25 := NB378_400.out; have hnb26 := NB400_392.out; have hnc26 := NB392_400.out; obtain ⟨hcz27_0, hcz27_1, hcz27_2, hfz27_0, hfz27_1, hfz27_2⟩ := cf3 BK400.out; obtain ⟨Ao28, co28, eo28⟩ := Kd.R_slice HO398.out; subst eo28))
    (try simp only [Act.put, sA, s0, sS])
    go_cut [50] (fun v50 wc => ∃ (kq : Nat) (x50_8 : Bool), v50 = .bool x50_8 ∧ Aside0 (laws_FnFrmTimes.j1 kq t377 t386 t389 x50_8 t370 t373 t376 t393 t396 t399 = some r) ∧ Aside0 (kq ≤ kj2) ∧ Aside0 (Kd.R (Kd.int .i64) 3 wc w.heap.size (fun k_ => some k_ ≠ (v390 : Value).ownBlock ∧ some k_ ≠ ((.slice Ao12 t370.length co12) : Value).ownBlock ∧ some k_ ≠ ((.slice Ao14 t373.length co14) : Value).ownBlock ∧ some k_ ≠ ((.slice Ao17 t379.length co17) : Value).ownBlock ∧ some k_ ≠ ((.slice Ao20 t382.length co20) : Value).ownBlock ∧ some k_ ≠ ((.slice Ao24 t393.length co24) : Value).ownBlock ∧ some k_ ≠ ((.slice Ao28 t396.length co28) : Value).ownBlock) v387 t386) ∧ Aside0 (Kd.R (Kd.int .i64) 3 wc w.heap.size (fun k_ => some k_ ≠ (v387 : Value).ownBlock ∧ some k_ ≠ ((.slice Ao12 t370.length co12) : Value).ownBlock ∧ some k_ ≠ ((.slice Ao14 t373.length co14) : Value).ownBlock ∧ some k_ ≠ ((.slice Ao17 t379.length co17) : Value).ownBlock ∧ some k_ ≠ ((.slice Ao20 t382.length co20) : Value).ownBlock ∧ some k_ ≠ ((.slice Ao24 t393.length co24) : Value).ownBlock ∧ some k_ ≠ ((.slice Ao28 t396.length co28) : Value).ownBlock) v390 t389) ∧ Aside0 (Kd.R (Kd.int .i64) 3 wc w.heap.size (fun k_ => some k_ ≠ (v387 : Value).ownBlock ∧ some k_ ≠ (v390 : Value).ownBlock ∧ some k_ ≠ ((.slice Ao14 t373.length co14) : Value).ownBlock ∧ some k_ ≠ ((.slice Ao17 t379.length co17) : Value).ownBlock ∧ some k_ ≠ ((.slice Ao20 t382.length co20) : Value).ownBlock ∧ some k_ ≠ ((.slice Ao24 t393.length co24) : Value).ownBlock ∧ some k_ ≠ ((.slice Ao28 t396.length co28) : Value).ownBlock) (.slice Ao12 t370.length co12) t370) ∧ Aside0 (Kd.R (Kd.int .i64) 3 wc w.heap.size (fun k_ => some k_ ≠ (v387 : Value).ownBlock ∧ some k_ ≠ (v390 : Value).ownBlock ∧ some k_ ≠ ((.slice Ao12 t370.length co12) : Value).ownBlock ∧ some k_ ≠ ((.slice Ao17 t379.length co17) : Value).ownBlock ∧ some k_ ≠ ((.slice Ao20 t382.length co20) : Value).ownBlock ∧ some k_ ≠ ((.slice Ao24 t393.length co24) : Value).ownBlock ∧ some k_ ≠ ((.slice Ao28 t396.length co28) : Value).ownBlock) (.slice Ao14 t373.length co14) t373) ∧ Aside0 (Kd.R (Kd.int .i64) 3 wc w.heap.size (fun k_ => some k_ ≠ (v387 : Value).ownBlock ∧ some k_ ≠ (v390 : Value).ownBlock ∧ some k_ ≠ ((.slice Ao12 t370.length co12) : Value).ownBlock ∧ some k_ ≠ ((.slice Ao14 t373.length co14) : Value).ownBlock ∧ some k_ ≠ ((.slice Ao20 t382.length co20) : Value).ownBlock ∧ some k_ ≠ ((.slice Ao24 t393.length co24) : Value).ownBlock ∧ some k_ ≠ ((.slice Ao28 t396.length co28) : Value).ownBlock) (.slice Ao17 t379.length co17) t379) ∧ Aside0 (Kd.R (Kd.int .i64) 3 wc w.heap.size (fun k_ => some k_ ≠ (v387 : Value).ownBlock ∧ some k_ ≠ (v390 : Value).ownBlock ∧ some k_ ≠ ((.slice Ao12 t370.length co12) : Value).ownBlock ∧ some k_ ≠ ((.slice Ao14 t373.length co14) : Value).ownBlock ∧ some k_ ≠ ((.slice Ao17 t379.length co17) : Value).ownBlock ∧ some k_ ≠ ((.slice Ao24 t393.length co24) : Value).ownBlock ∧ some k_ ≠ ((.slice Ao28 t396.length co28) : Value).ownBlock) (.slice Ao20 t382.length co20) t382) ∧ Aside0 (Kd.R (Kd.int .i64) 3 wc w.heap.size (fun k_ => some k_ ≠ (v387 : Value).ownBlock ∧ some k_ ≠ (v390 : Value).ownBlock ∧ some k_ ≠ ((.slice Ao12 t370.length co12) : Value).ownBlock ∧ some k_ ≠ ((.slice Ao14 t373.length co14) : Value).ownBlock ∧ some k_ ≠ ((.slice Ao17 t379.length co17) : Value).ownBlock ∧ some k_ ≠ ((.slice Ao20 t382.length co20) : Value).ownBlock ∧ some k_ ≠ ((.slice Ao28 t396.length co28) : Value).ownBlock) (.slice Ao24 t393.length co24) t393) ∧ Aside0 (Kd.R (Kd.int .i64) 3 wc w.heap.size (fun k_ => some k_ ≠ (v387 : Value).ownBlock ∧ some k_ ≠ (v390 : Value).ownBlock ∧ some k_ ≠ ((.slice Ao12 t370.length co12) : Value).ownBlock ∧ some k_ ≠ ((.slice Ao14 t373.length co14) : Value).ownBlock ∧ some k_ ≠ ((.slice Ao17 t379.length co17) : Value).ownBlock ∧ some k_ ≠ ((.slice Ao20 t382.length co20) : Value).ownBlock ∧ some k_ ≠ ((.slice Ao24 t393.length co24) : Value).ownBlock) (.slice Ao28 t396.length co28) t396) ∧ Aside0 (wc.heap[gb378]? = some (.cells #[(.slice Ao12 t370.length co12), (.slice Ao14 t373.length co14), .int .i64 t376] 25 (0, 0))) ∧ Aside0 (wc.heap[gb392]? = some (.cells #[(.slice Ao17 t379.length co17), (.slice Ao20 t382.length co20), .int .i64 t385] 25 (0, 0))) ∧ Aside0 (wc.heap[gb400]? = some (.cells #[(.slice Ao24 t393.length co24), (.slice Ao28 t396.length co28), .int .i64 t399] 25 (0, 0))) ∧ Aside0 (Below w.heap.size w wc))
    case first =>
     have H := HC9.out
     clear HC9
     replace H := Option.bind_eq_some_iff.mp H
     obtain ⟨⟨t401, t404, t407⟩, A290, H⟩ := H
     replace H : ((laws_coForm.f kj2 t393 t396 t399 t401 t404 t407).bind fun t408 => (if t408 = true then ((impl_FrmOk.f t370 t373 t376).bind fun t409 => ((spec_FrmOk.f kj2 t370 t373 t376).bind fun t410 => (laws_FnFrmTimes.j1 kj2 t377 t386 t389 (t409 != t410) t370 t373 t376 t393 t396 t399))) else (laws_FnFrmTimes.j1 kj2 t377 t386 t389 true t370 t373 t376 t393 t396 t399))) = some r := H
     have A29 := Aside0.mk A290
     clear A290
     replace H := Option.bind_eq_some_iff.mp H
     obtain ⟨t408, A300, H⟩ := H
     replace H : (if t408 = true then ((impl_FrmOk.f t370 t373 t376).bind fun t409 => ((spec_FrmOk.f kj2 t370 t373 t376).bind fun t410 => (laws_FnFrmTimes.j1 kj2 t377 t386 t389 (t409 != t410) t370 t373 t376 t393 t396 t399))) else (laws_FnFrmTimes.j1 kj2 t377 t386 t389 true t370 t373 t376 t393 t396 t399)) = some r := H
     have A30 := Aside0.mk A300
     clear A300
     by_cases c31 : t408 = true
     ·subst c31
      have H1 : ((impl_FrmOk.f t370 t373 t376).bind fun t409 => ((spec_FrmOk.f kj2 t370 t373 t376).bind fun t410 => (laws_FnFrmTimes.j1 kj2 t377 t386 t389 (t409 != t410) t370 t373 t376 t393 t396 t399))) = some r := by rw [if_pos rfl] at H; exact H
      clear H
      have H := H1
      clear H1
      replace H := Option.bind_eq_some_iff.mp H
      obtain ⟨t409, A320, H⟩ := H
      replace H : ((spec_FrmOk.f kj2 t370 t373 t376).bind fun t410 => (laws_FnFrmTimes.j1 kj2 t377 t386 t389 (t409 != t410) t370 t373 t376 t393 t396 t399)) = some r := H
      have A32 := Aside0.mk A320
      clear A320
      replace H := Option.bind_eq_some_iff.mp H
      obtain ⟨t410, A330, H⟩ := H
      replace H : (laws_FnFrmTimes.j1 kj2 t377 t386 t389 (t409 != t410) t370 t373 t376 t393 t396 t399) = some r := H
      have A33 := Aside0.mk A330
      clear A330
      have H' := Aside0.mk H
      clear H
      try go_wp2
      have n0_ := Aside0.mk (Kd.R_mono (ok' := (fun k_ => some k_ ≠ (.slice Ao14 t373.length co14 : Value).ownBlock ∧ some k_ ≠ (.slice Ao17 t379.length co17 : Value).ownBlock ∧ some k_ ≠ (.slice Ao20 t382.length co20 : Value).ownBlock ∧ some k_ ≠ (v387 : Value).ownBlock ∧ some k_ ≠ (v390 : Value).ownBlock ∧ some k_ ≠ (.slice Ao24 t393.length co24 : Value).ownBlock ∧ some k_ ≠ (.slice Ao28 t396.length co28 : Value).ownBlock)) (R3 (w := w23) (x := (.slice Ao24 t393.length co24)) (y := (.slice Ao28 t396.length co28)) (z := (.int .i64 t399)) (lR HO372.out) (lK BK400.out)) (fun _ hk => ⟨hk.1.1.1.1.1.1, ⟨hk.1.1.1.1.1.2, ⟨hk.1.1.1.1.2, ⟨hk.1.1.1.2, ⟨hk.1.1.2, ⟨hk.1.2, hk.2⟩⟩⟩⟩⟩⟩))
      have n1_ := Aside0.mk (Kd.R_mono (ok' := (fun k_ => some k_ ≠ (.slice Ao12 t370.length co12 : Value).ownBlock ∧ some k_ ≠ (.slice Ao17 t379.length co17 : Value).ownBlock ∧ some k_ ≠ (.slice Ao20 t382.length co20 : Value).ownBlock ∧ some k_ ≠ (v387 : Value).ownBlock ∧ some k_ ≠ (v390 : Value).ownBlock ∧ some k_ ≠ (.slice Ao24 t393.length co24 : Value).ownBlock ∧ some k_ ≠ (.slice Ao28 t396.length co28 : Value).ownBlock)) (R3 (w := w23) (x := (.slice Ao24 t393.length co24)) (y := (.slice Ao28 t396.length co28)) (z := (.int .i64 t399)) (lR HO375.out) (lK BK400.out)) (fun _ hk => ⟨hk.1.1.1.1.1.1, ⟨hk.1.1.1.1.1.2, ⟨hk.1.1.1.1.2, ⟨hk.1.1.1.2, ⟨hk.1.1.2, ⟨hk.1.2, hk.2⟩⟩⟩⟩⟩⟩))
      have n2_ := Aside0.mk (Kd.R_mono (ok' := (fun k_ => some k_ ≠ (.slice Ao12 t370.length co12 : Value).ownBlock ∧ some k_ ≠ (.slice Ao14 t373.length co14 : Value).ownBlock ∧ some k_ ≠ (.slice Ao20 t382.length co20 : Value).ownBlock ∧ some k_ ≠ (v387 : Value).ownBlock ∧ some k_ ≠ (v390 : Value).ownBlock ∧ some k_ ≠ (.slice Ao24 t393.length co24 : Value).ownBlock ∧ some k_ ≠ (.slice Ao28 t396.length co28 : Value).ownBlock)) (R3 (w := w23) (x := (.slice Ao24 t393.length co24)) (y := (.slice Ao28 t396.length co28)) (z := (.int .i64 t399)) (lR HO381.out) (lK BK400.out)) (fun _ hk => ⟨hk.1.1.1.2, ⟨hk.1.1.2, ⟨hk.1.1.1.1.1, ⟨hk.1.1.1.1.2.1, ⟨hk.1.1.1.1.2.2, ⟨hk.1.2, hk.2⟩⟩⟩⟩⟩⟩))
      have n3_ := Aside0.mk (Kd.R_mono (ok' := (fun k_ => some k_ ≠ (.slice Ao12 t370.length co12 : Value).ownBlock ∧ some k_ ≠ (.slice Ao14 t373.length co14 : Value).ownBlock ∧ some k_ ≠ (.slice Ao17 t379.length co17 : Value).ownBlock ∧ some k_ ≠ (v387 : Value).ownBlock ∧ some k_ ≠ (v390 : Value).ownBlock ∧ some k_ ≠ (.slice Ao24 t393.length co24 : Value).ownBlock ∧ some k_ ≠ (.slice Ao28 t396.length co28 : Value).ownBlock)) (R3 (w := w23) (x := (.slice Ao24 t393.length co24)) (y := (.slice Ao28 t396.length co28)) (z := (.int .i64 t399)) (lR HO384.out) (lK BK400.out)) (fun _ hk => ⟨hk.1.1.1.2, ⟨hk.1.1.2, ⟨hk.1.1.1.1.1, ⟨hk.1.1.1.1.2.1, ⟨hk.1.1.1.1.2.2, ⟨hk.1.2, hk.2⟩⟩⟩⟩⟩⟩))
      have n4_ := Aside0.mk (Kd.R_mono (ok' := (fun k_ => some k_ ≠ (.slice Ao12 t370.length co12 : Value).ownBlock ∧ some k_ ≠ (.slice Ao14 t373.length co14 : Value).ownBlock ∧ some k_ ≠ (.slice Ao17 t379.length co17 : Value).ownBlock ∧ some k_ ≠ (.slice Ao20 t382.length co20 : Value).ownBlock ∧ some k_ ≠ (v390 : Value).ownBlock ∧ some k_ ≠ (.slice Ao24 t393.length co24 : Value).ownBlock ∧ some k_ ≠ (.slice Ao28 t396.length co28 : Value).ownBlock)) (R3 (w := w23) (x := (.slice Ao24 t393.length co24)) (y := (.slice Ao28 t396.length co28)) (z := (.int .i64 t399)) (lR HO388.out) (lK BK400.out)) (fun _ hk => ⟨hk.1.1.1.2, ⟨hk.1.1.2, ⟨hk.1.1.1.1.1, ⟨hk.1.1.1.1.2.1, ⟨hk.1.1.1.1.2.2, ⟨hk.1.2, hk.2⟩⟩⟩⟩⟩⟩))
      have n5_ := Aside0.mk (Kd.R_mono (ok' := (fun k_ => some k_ ≠ (.slice Ao12 t370.length co12 : Value).ownBlock ∧ some k_ ≠ (.slice Ao14 t373.length co14 : Value).ownBlock ∧ some k_ ≠ (.slice Ao17 t379.length co17 : Value).ownBlock ∧ some k_ ≠ (.slice Ao20 t382.length co20 : Value).ownBlock ∧ some k_ ≠ (v387 : Value).ownBlock ∧ some k_ ≠ (.slice Ao24 t393.length co24 : Value).ownBlock ∧ some k_ ≠ (.slice Ao28 t396.length co28 : Value).ownBlock)) (R3 (w := w23) (x := (.slice Ao24 t393.length co24)) (y := (.slice Ao28 t396.length co28)) (z := (.int .i64 t399)) (lR HO391.out) (lK BK400.out)) (fun _ hk => ⟨hk.1.1.1.2, ⟨hk.1.1.2, ⟨hk.1.1.1.1.1, ⟨hk.1.1.1.1.2.1, ⟨hk.1.1.1.1.2.2, ⟨hk.1.2, hk.2⟩⟩⟩⟩⟩⟩))
      have n6_ := Aside0.mk (Kd.R_mono (ok' := (fun k_ => some k_ ≠ (.slice Ao12 t370.length co12 : Value).ownBlock ∧ some k_ ≠ (.slice Ao14 t373.length co14 : Value).ownBlock ∧ some k_ ≠ (.slice Ao17 t379.length co17 : Value).ownBlock ∧ some k_ ≠ (.slice Ao20 t382.length co20 : Value).ownBlock ∧ some k_ ≠ (v387 : Value).ownBlock ∧ some k_ ≠ (v390 : Value).ownBlock ∧ some k_ ≠ (.slice Ao28 t396.length co28 : Value).ownBlock)) (R3 (w := w23) (x := (.slice Ao24 t393.length co24)) (y := (.slice Ao28 t396.length co28)) (z := (.int .i64 t399)) (lR HO395.out) (lK BK400.out)) (fun _ hk => ⟨hk.1.1.1.1.1.2, ⟨hk.1.1.1.1.2, ⟨hk.1.1.1.2, ⟨hk.1.1.2, ⟨hk.1.2, ⟨hk.2, hk.1.1.1.1.1.1⟩⟩⟩⟩⟩⟩))
      have n7_ := Aside0.mk (Kd.R_mono (ok' := (fun k_ => some k_ ≠ (.slice Ao12 t370.length co12 : Value).ownBlock ∧ some k_ ≠ (.slice Ao14 t373.length co14 : Value).ownBlock ∧ some k_ ≠ (.slice Ao17 t379.length co17 : Value).ownBlock ∧ some k_ ≠ (.slice Ao20 t382.length co20 : Value).ownBlock ∧ some k_ ≠ (v387 : Value).ownBlock ∧ some k_ ≠ (v390 : Value).ownBlock ∧ some k_ ≠ (.slice Ao24 t393.length co24 : Value).ownBlock)) (R3 (w := w23) (x := (.slice Ao24 t393.length co24)) (y := (.slice Ao28 t396.length co28)) (z := (.int .i64 t399)) (lR HO398.out) (lK BK400.out)) (fun _ hk => ⟨hk.1.1.1.1.1.2, ⟨hk.1.1.1.1.2, ⟨hk.1.1.1.2, ⟨hk.1.1.2, ⟨hk.1.2, ⟨hk.2, hk.1.1.1.1.1.1⟩⟩⟩⟩⟩⟩))
      have n8_ : Aside0 ((((w23.setCell ⟨gb400, 0, none⟩ (.slice Ao24 t393.length co24)).setCell ⟨gb400, 1, none⟩ (.slice Ao28 t396.length co28)).setCell ⟨gb400, 2, none⟩ (.int .i64 t399)).heap[gb378]? = some (.cells #[.slice Ao12 t370.length co12, .slice Ao14 t373.length co14, .int .i64 t376] 25 (0, 0))) := ⟨by (with_reducible repeat first | refine kN ?_ _ | refine kD ?_ | refine kA ?_ _); refine blk_far ?_ NB378_400.out _; (with_reducible repeat first | refine kN ?_ _ | refine kD ?_ | refine kA ?_ _); refine blk_far ?_ NB378_400.out _; (with_reducible repeat first | refine kN ?_ _ | refine kD ?_ | refine kA ?_ _); refine blk_far ?_ NB378_400.out _; exact lK <| BK378.out⟩
      have n9_ : Aside0 ((((w23.setCell ⟨gb400, 0, none⟩ (.slice Ao24 t393.length co24)).setCell ⟨gb400, 1, none⟩ (.slice Ao28 t396.length co28)).setCell ⟨gb400, 2, none⟩ (.int .i64 t399)).heap[gb392]? = some (.cells #[.slice Ao17 t379.length co17, .slice Ao20 t382.length co20, .int .i64 t385] 25 (0, 0))) := ⟨by (with_reducible repeat first | refine kN ?_ _ | refine kD ?_ | refine kA ?_ _); refine blk_far ?_ NB392_400.out _; (with_reducible repeat first | refine kN ?_ _ | refine kD ?_ | refine kA ?_ _); refine blk_far ?_ NB392_400.out _; (with_reducible repeat first | refine kN ?_ _ | refine kD ?_ | refine kA ?_ _); refine blk_far ?_ NB392_400.out _; exact lK <| BK392.out⟩
      have n10_ := Aside0.mk (p3 (w := w23) (x := (.slice Ao24 t393.length co24)) (y := (.slice Ao28 t396.length co28)) (z := (.int .i64 t399)) (lK BK400.out))
      have n11_ : Aside0 (Below w.heap.size w (((w23.setCell ⟨gb400, 0, none⟩ (.slice Ao24 t393.length co24)).setCell ⟨gb400, 1, none⟩ (.slice Ao28 t396.length co28)).setCell ⟨gb400, 2, none⟩ (.int .i64 t399))) := ⟨by exact jB HB.out⟩
      (try clear HO372)
      (try clear HO375)
      (try clear HO381)
      (try clear HO384)
      (try clear HO388)
      (try clear HO391)
      (try clear HO395)
      (try clear HO398)
      (try clear BK378)
      (try clear BK392)
      (try clear BK400)
      (try clear HB)
      generalize (((w23.setCell ⟨gb400, 0, none⟩ (.slice Ao24 t393.length co24)).setCell ⟨gb400, 1, none⟩ (.slice Ao28 t396.length co28)).setCell ⟨gb400, 2, none⟩ (.int .i64 t399)) = w34 at n0_ n1_ n2_ n3_ n4_ n5_ n6_ n7_ n8_ n9_ n10_ n11_ ⊢
      have HO372 := n0_
      have HO375 := n1_
      have HO381 := n2_
      have HO384 := n3_
      have HO388 := n4_
      have HO391 := n5_
      have HO395 := n6_
      have HO398 := n7_
      have BK378 := n8_
      have BK392 := n9_
      have BK400 := n10_
      have HB := n11_
      clear n0_ n1_ n2_ n3_ n4_ n5_ n6_ n7_ n8_ n9_ n10_ n11_
      replace HO372 := Aside0.mk (Kd.R_drew HO372.out)
      replace HO375 := Aside0.mk (Kd.R_drew HO375.out)
      replace HO381 := Aside0.mk (Kd.R_drew HO381.out)
      replace HO384 := Aside0.mk (Kd.R_drew HO384.out)
      replace HO388 := Aside0.mk (Kd.R_drew HO388.out)
      replace HO391 := Aside0.mk (Kd.R_drew HO391.out)
      replace HO395 := Aside0.mk (Kd.R_drew HO395.out)
      replace HO398 := Aside0.mk (Kd.R_drew HO398.out)
      replace BK378 := Aside0.mk (blk_drew BK378.out)
      replace BK392 := Aside0.mk (blk_drew BK392.out)
      replace BK400 := Aside0.mk (blk_drew BK400.out)
      replace HB := Aside0.mk (below_drew1 HB.out)
      refine start_ (n := 13) (S := fun w' => w'.cell? ⟨gb400, 0, none⟩ = some (.slice Ao24 t393.length co24) ∧ w'.cell? ⟨gb400, 1, none⟩ = some (.slice Ao28 t396.length co28) ∧ w'.cell? ⟨gb400, 2, none⟩ = some (.int .i64 t399) ∧ w'.cell? ⟨gb378, 0, none⟩ = some (.slice Ao12 t370.length co12) ∧ w'.cell? ⟨gb378, 1, none⟩ = some (.slice Ao14 t373.length co14) ∧ w'.cell? ⟨gb378, 2, none⟩ = some (.int .i64 t376)) (ds := []) #[false, false, false, false, false, false, false, false, false, false, false, false, false] (by kernel_rfl) rfl rfl ⟨(blk_cell BK400.out 0).trans rfl, (blk_cell BK400.out 1).trans rfl, (blk_cell BK400.out 2).trans rfl, (blk_cell BK378.out 0).trans rfl, (blk_cell BK378.out 1).trans rfl, (blk_cell BK378.out 2).trans rfl⟩ (fun hHeld => ?_); refine with_tabW laws_FnFrmTimes.tab6 laws_FnFrmTimes.bits6 (fun HT_ HW_ => ?_)
      generalize w34.drew = w35 at HO372 HO375 HO381 HO384 HO388 HO391 HO395 HO398 BK378 BK392 BK400 HB hHeld ⊢
      refine pure_ (i := 2) (N := some 40) (v := ?_) (a' := ?_) #[false, false, true, false, false, false, false, false, false, false, false, false, false] rfl rfl (any_of HT_.out (by kernel_rfl)) (fun _ _ _ h => h) (Or.inl ⟨by rfl, ?_⟩) ?_ ?_
      rotate_left
      ·intro w'
       go_simp
       with_reducible rfl
      rotate_left
      ·simp only [Act.put, sA, s0, sS, i64_w, i32_w]
       rfl
      refine take_ (i := 0) (N := some 38) (v := ?_) (a' := ?_) #[true, false, true, false, false, false, false, false, false, false, false, false, false] rfl rfl (take_ofW HT_.out HW_.out (by kernel_rfl)) (fun _ _ _ h => h) (Or.inl ⟨by rfl, ?_⟩) hHeld ?_ ?_
      rotate_left
      ·rintro w' ⟨s0, s1, s2, s3, s4, s5⟩
       go_simp
       with_reducible rfl
      rotate_left
      ·simp only [Act.put, sA, s0, sS, i64_w, i32_w]
       rfl
      refine take_ (i := 1) (N := some 39) (v := ?_) (a' := ?_) #[true, true, true, false, false, false, false, false, false, false, false, false, false] rfl rfl (take_ofW HT_.out HW_.out (by kernel_rfl)) (fun _ _ _ h => h) (Or.inl ⟨by rfl, ?_⟩) hHeld ?_ ?_
      rotate_left
      ·rintro w' ⟨s0, s1, s2, s3, s4, s5⟩
       go_simp
       with_reducible rfl
      rotate_left
      ·simp only [Act.put, sA, s0, sS, i64_w, i32_w]
       rfl
      refine one_ (i := 3) (N := some 41) #[true, true, true, true, false, false, false, false, false, false, false, false, false] rfl rfl (one_of HT_.out (by kernel_rfl)) (by decide) (fun K hK => ?_)
      refine goes_ Try.func16 (by kernel_rfl) rfl #[.agg #[.slice Ao12 t370.length co12, .slice Ao14 t373.length co14, .int .i64 t376], .int .i64 t377] (by rfl) rfl rfl (by (try simp only [mA, mC, mN]); first | done | rfl | (simp only [ld, lt]; rfl)) ?_
      with_reducible refine (spec_FrmTimes.calls kj2 _ _ t370 _ _ t373 t376 t377 t401 t404 t407 _ ?side1 ?side2 ?side3 ?side4 A29.out).mono ?_
      (case side1 => exact lC <| (Kd.R_reads' HO372.out).2.2)
      (case side2 => exact (Kd.R_reads' HO372.out).2.1)
      (case side3 => exact lC <| (Kd.R_reads' HO375.out).2.2)
      (case side4 => exact (Kd.R_reads' HO375.out).2.1)
      rintro e w36 ⟨v402, v405, rfl, ho0, ho1, hb⟩
      refine ⟨_, rfl, ?_⟩
      have HO403 := Aside0.mk (Kd.R_lower (Kd.R_new' (Kd.R_new' (Kd.R_new' (Kd.R_new' (Kd.R_new' (Kd.R_new' (Kd.R_new' (Kd.R_new' ho0 (rl HO372.out)) (rl HO375.out)) (rl HO381.out)) (rl HO384.out)) (rl HO388.out)) (rl HO391.out)) (rl HO395.out)) (rl HO398.out)) (below_size (by exact jB HB.out)))
      have HO406 := Aside0.mk (Kd.R_lower (Kd.R_new' (Kd.R_new' (Kd.R_new' (Kd.R_new' (Kd.R_new' (Kd.R_new' (Kd.R_new' (Kd.R_new' ho1 (rl HO372.out)) (rl HO375.out)) (rl HO381.out)) (rl HO384.out)) (rl HO388.out)) (rl HO391.out)) (rl HO395.out)) (rl HO398.out)) (below_size (by exact jB HB.out)))
      replace HO372 := Aside0.mk (o2 HO372.out hb ho0 ho1)
      replace HO375 := Aside0.mk (o2 HO375.out hb ho0 ho1)
      replace HO381 := Aside0.mk (o2 HO381.out hb ho0 ho1)
      replace HO384 := Aside0.mk (o2 HO384.out hb ho0 ho1)
      replace HO388 := Aside0.mk (o2 HO388.out hb ho0 ho1)
      replace HO391 := Aside0.mk (o2 HO391.out hb ho0 ho1)
      replace HO395 := Aside0.mk (o2 HO395.out hb ho0 ho1)
      replace HO398 := Aside0.mk (o2 HO398.out hb ho0 ho1)
      replace BK378 := Aside0.mk (bb BK378.out hb)
      replace BK392 := Aside0.mk (bb BK392.out hb)
      replace BK400 := Aside0.mk (bb BK400.out hb)
      replace HB := Aside0.mk (below_step (by exact jB HB.out) hb)
      (try clear hb)
      (try clear hb2)
      (try clear hk)
      (try clear hi)
      (try clear ho0)
      (try clear ho1)
      obtain ⟨Ao37, co37, eo37⟩ := Kd.R_slice HO403.out
      (first | subst eo37 | (injection eo37 with f1_ f2_ f3_; have f4_ := f1_.symm; have f5_ := f3_.symm; clear f1_ f2_ f3_; subst f4_; subst f5_))
      obtain ⟨Ao38, co38, eo38⟩ := Kd.R_slice HO406.out
      (first | subst eo38 | (injection eo38 with f1_ f2_ f3_; have f4_ := f1_.symm; have f5_ := f3_.symm; clear f1_ f2_ f3_; subst f4_; subst f5_))
      refine hK.out _ _ ⟨(blk_cell BK400.out 0).trans rfl, (blk_cell BK400.out 1).trans rfl, (blk_cell BK400.out 2).trans rfl, (blk_cell BK378.out 0).trans rfl, (blk_cell BK378.out 1).trans rfl, (blk_cell BK378.out 2).trans rfl⟩ (fun hHeld => ?_)
      clear hK K
      refine norm_ (a' := ?_) ?_ ?_
      rotate_left
      ·show Act.put _ (some 41) _ = _
       simp only [Act.put, sA, s0, sS, i64_w, i32_w]
       rfl
      refine one_ (i := 4) (N := some 42) #[true, true, true, true, true, false, false, false, false, false, false, false, false] rfl rfl (one_of HT_.out (by kernel_rfl)) (by decide) (fun K hK => ?_)
      refine goes_ Try.func8 (by kernel_rfl) rfl #[.agg #[.slice Ao24 t393.length co24, .slice Ao28 t396.length co28, .int .i64 t399], .agg #[.slice Ao37 t401.length co37, .slice Ao38 t404.length co38, .int .i64 t407]] (by rfl) rfl rfl (by (try simp only [mA, mC, mN]); first | done | rfl | (simp only [ld, lt]; rfl)) ?_
      with_reducible refine (laws_coForm.calls kj2 _ _ t393 _ _ t396 t399 _ _ t401 _ _ t404 t407 true _ ?side1 ?side2 ?side3 ?side4 ?side5 ?side6 ?side7 ?side8 A30.out).mono ?_
      (case side1 => exact lC <| (Kd.R_reads' HO395.out).2.2)
      (case side2 => exact (Kd.R_reads' HO395.out).2.1)
      (case side3 => exact lC <| (Kd.R_reads' HO398.out).2.2)
      (case side4 => exact (Kd.R_reads' HO398.out).2.1)
      (case side5 => exact lC <| (Kd.R_reads' HO403.out).2.2)
      (case side6 => exact (Kd.R_reads' HO403.out).2.1)
      (case side7 => exact lC <| (Kd.R_reads' HO406.out).2.2)
      (case side8 => exact (Kd.R_reads' HO406.out).2.1)
      rintro e w39 ⟨rfl, hb⟩
      refine ⟨_, rfl, ?_⟩
      replace HO372 := Aside0.mk (rb HO372.out hb)
      replace HO375 := Aside0.mk (rb HO375.out hb)
      replace HO381 := Aside0.mk (rb HO381.out hb)
      replace HO384 := Aside0.mk (rb HO384.out hb)
      replace HO388 := Aside0.mk (rb HO388.out hb)
      replace HO391 := Aside0.mk (rb HO391.out hb)
      replace HO395 := Aside0.mk (rb HO395.out hb)
      replace HO398 := Aside0.mk (rb HO398.out hb)
      replace HO403 := Aside0.mk (rb HO403.out hb)
      replace HO406 := Aside0.mk (rb HO406.out hb)
      replace BK378 := Aside0.mk (bb BK378.out hb)
      replace BK392 := Aside0.mk (bb BK392.out hb)
      replace BK400 := Aside0.mk (bb BK400.out hb)
      replace HB := Aside0.mk (below_step (by exact jB HB.out) hb)
      (try clear hb)
      (try clear hb2)
      (try clear hk)
      (try clear hi)
      refine hK.out _ _ ⟨(blk_cell BK400.out 0).trans rfl, (blk_cell BK400.out 1).trans rfl, (blk_cell BK400.out 2).trans rfl, (blk_cell BK378.out 0).trans rfl, (blk_cell BK378.out 1).trans rfl, (blk_cell BK378.out 2).trans rfl⟩ (fun hHeld => ?_)
      clear hK K
      refine norm_ (a' := ?_) ?_ ?_
      rotate_left
      ·show Act.put _ (some 42) _ = _
       simp only [Act.put, sA, s0, sS, i64_w, i32_w]
       rfl
      refine pure_ (i := 5) (N := some 43) (v := ?_) (a' := ?_) #[true, true, true, true, true, true, false, false, false, false, false, false, false] rfl rfl (any_of HT_.out (by kernel_rfl)) (fun _ _ _ h => h) (Or.inl ⟨by rfl, ?_⟩) ?_ ?_
      rotate_left
      ·intro w'
       go_simp
       with_reducible rfl
      rotate_left
      ·simp only [Act.put, sA, s0, sS, i64_w, i32_w]
       rfl
      refine pure_ (i := 6) (N := some 44) (v := ?_) (a' := ?_) #[true, true, true, true, true, true, true, false, false, false, false, false, false] rfl rfl (any_of HT_.out (by kernel_rfl)) (fun _ _ _ h => h) (Or.inl ⟨by rfl, ?_⟩) ?_ ?_
      rotate_left
      ·intro w'
       go_simp
       with_reducible rfl
      rotate_left
      ·simp only [Act.put, sA, s0, sS, i64_w, i32_w]
       rfl
      refine take_ (i := 7) (N := some 45) (v := ?_) (a' := ?_) #[true, true, true, true, true, true, true, true, false, false, false, false, false] rfl rfl (take_ofW HT_.out HW_.out (by kernel_rfl)) (fun _ _ _ h => h) (Or.inl ⟨by rfl, ?_⟩) hHeld ?_ ?_
      rotate_left
      ·rintro w' ⟨s0, s1, s2, s3, s4, s5⟩
       go_simp
       with_reducible rfl
      rotate_left
      ·simp only [Act.put, sA, s0, sS, i64_w, i32_w]
       rfl
      refine take_ (i := 9) (N := some 47) (v := ?_) (a' := ?_) #[true, true, true, true, true, true, true, true, false, true, false, false, false] rfl rfl (take_ofW HT_.out HW_.out (by kernel_rfl)) (fun _ _ _ h => h) (Or.inl ⟨by rfl, ?_⟩) hHeld ?_ ?_
      rotate_left
      ·rintro w' ⟨s0, s1, s2, s3, s4, s5⟩
       go_simp
       with_reducible rfl
      rotate_left
      ·simp only [Act.put, sA, s0, sS, i64_w, i32_w]
       rfl
      refine one_ (i := 8) (N := some 46) #[true, true, true, true, true, true, true, true, true, true, false, false, false] rfl rfl (one_of HT_.out (by kernel_rfl)) (by decide) (fun K hK => ?_)
      refine goes_ Try.func11 (by kernel_rfl) rfl #[.agg #[.slice Ao12 t370.length co12, .slice Ao14 t373.length co14, .int .i64 t376]] (by rfl) rfl rfl (by (try simp only [mA, mC, mN]); first | done | rfl | (simp only [ld, lt]; rfl)) ?_
      with_reducible refine (impl_FrmOk.calls _ _ t370 _ _ t373 t376 t409 _ ?side1 ?side2 ?side3 ?side4 A32.out).mono ?_
      (case side1 => exact lC <| (Kd.R_reads' HO372.out).2.2)
      (case side2 => exact (Kd.R_reads' HO372.out).2.1)
      (case side3 => exact lC <| (Kd.R_reads' HO375.out).2.2)
      (case side4 => exact (Kd.R_reads' HO375.out).2.1)
      rintro e w40 ⟨rfl, hb⟩
      refine ⟨_, rfl, ?_⟩
      replace HO372 := Aside0.mk (rb HO372.out hb)
      replace HO375 := Aside0.mk (rb HO375.out hb)
      replace HO381 := Aside0.mk (rb HO381.out hb)
      replace HO384 := Aside0.mk (rb HO384.out hb)
      replace HO388 := Aside0.mk (rb HO388.out hb)
      replace HO391 := Aside0.mk (rb HO391.out hb)
      replace HO395 := Aside0.mk (rb HO395.out hb)
      replace HO398 := Aside0.mk (rb HO398.out hb)
      replace HO403 := Aside0.mk (rb HO403.out hb)
      replace HO406 := Aside0.mk (rb HO406.out hb)
      replace BK378 := Aside0.mk (bb BK378.out hb)
      replace BK392 := Aside0.mk (bb BK392.out hb)
      replace BK400 := Aside0.mk (bb BK400.out hb)
      replace HB := Aside0.mk (below_step (by exact jB HB.out) hb)
      (try clear hb)
      (try clear hb2)
      (try clear hk)
      (try clear hi)
      refine hK.out _ _ ⟨(blk_cell BK400.out 0).trans rfl, (blk_cell BK400.out 1).trans rfl, (blk_cell BK400.out 2).trans rfl, (blk_cell BK378.out 0).trans rfl, (blk_cell BK378.out 1).trans rfl, (blk_cell BK378.out 2).trans rfl⟩ (fun hHeld => ?_)
      clear hK K
      refine norm_ (a' := ?_) ?_ ?_
      rotate_left
      ·show Act.put _ (some 46) _ = _
       simp only [Act.put, sA, s0, sS, i64_w, i32_w]
       rfl
      refine one_ (i := 10) (N := some 48) #[true, true, true, true, true, true, true, true, true, true, true, false, false] rfl rfl (one_of HT_.out (by kernel_rfl)) (by decide) (fun K hK => ?_)
      refine goes_ Try.func17 (by kernel_rfl) rfl #[.agg #[.slice Ao12 t370.length co12, .slice Ao14 t373.length co14, .int .i64 t376]] (by rfl) rfl rfl (by (try simp only [mA, mC, mN]); first | done | rfl | (simp only [ld, lt]; rfl)) ?_
      with_reducible refine (spec_FrmOk.calls kj2 _ _ t370 _ _ t373 t376 t410 _ ?side1 ?side2 ?side3 ?side4 A33.out).mono ?_
      (case side1 => exact lC <| (Kd.R_reads' HO372.out).2.2)
      (case side2 => exact (Kd.R_reads' HO372.out).2.1)
      (case side3 => exact lC <| (Kd.R_reads' HO375.out).2.2)
      (case side4 => exact (Kd.R_reads' HO375.out).2.1)
      rintro e w41 ⟨rfl, hb⟩
      refine ⟨_, rfl, ?_⟩
      replace HO372 := Aside0.mk (rb HO372.out hb)
      replace HO375 := Aside0.mk (rb HO375.out hb)
      replace HO381 := Aside0.mk (rb HO381.out hb)
      replace HO384 := Aside0.mk (rb HO384.out hb)
      replace HO388 := Aside0.mk (rb HO388.out hb)
      replace HO391 := Aside0.mk (rb HO391.out hb)
      replace HO395 := Aside0.mk (rb HO395.out hb)
      replace HO398 := Aside0.mk (rb HO398.out hb)
      replace HO403 := Aside0.mk (rb HO403.out hb)
      replace HO406 := Aside0.mk (rb HO406.out hb)
      replace BK378 := Aside0.mk (bb BK378.out hb)
      replace BK392 := Aside0.mk (bb BK392.out hb)
      replace BK400 := Aside0.mk (bb BK400.out hb)
      replace HB := Aside0.mk (below_step (by exact jB HB.out) hb)
      (try clear hb)
      (try clear hb2)
      (try clear hk)
      (try clear hi)
      refine hK.out _ _ ⟨(blk_cell BK400.out 0).trans rfl, (blk_cell BK400.out 1).trans rfl, (blk_cell BK400.out 2).trans rfl, (blk_cell BK378.out 0).trans rfl, (blk_cell BK378.out 1).trans rfl, (blk_cell BK378.out 2).trans rfl⟩ (fun hHeld => ?_)
      clear hK K
      refine norm_ (a' := ?_) ?_ ?_
      rotate_left
      ·show Act.put _ (some 48) _ = _
       simp only [Act.put, sA, s0, sS, i64_w, i32_w]
       rfl
      refine pure_ (i := 11) (N := some 49) (v := ?_) (a' := ?_) #[true, true, true, true, true, true, true, true, true, true, true, true, false] rfl rfl (any_of HT_.out (by kernel_rfl)) (fun _ _ _ h => h) (Or.inl ⟨by rfl, ?_⟩) ?_ ?_
      rotate_left
      ·intro w'
       go_simp
       with_reducible rfl
      rotate_left
      ·simp only [Act.put, sA, s0, sS, i64_w, i32_w]
       rfl
      refine pure_ (i := 12) (N := some 50) (v := ?_) (a' := ?_) #[true, true, true, true, true, true, true, true, true, true, true, true, true] rfl rfl (any_of HT_.out (by kernel_rfl)) (fun _ _ _ h => h) (Or.inl ⟨by rfl, ?_⟩) ?_ ?_
      rotate_left
      ·intro w'
       go_simp
       with_reducible rfl
      rotate_left
      ·simp only [Act.put, sA, s0, sS, i64_w, i32_w]
       rfl
      refine done_ (done_of HT_.out (by kernel_rfl)) ?_
      try go_wp2
      go_meet
      case rel => exact ⟨_, ((t409 != t410)), (by first | rfl | (simp; done) | (simp [*]; done)), H', ⟨by have := HJ2.out; first | omega | exact Nat.le_refl _⟩, ⟨by exact lR <| Kd.R_mono HO388.out (fun _ hk => ⟨hk.1.1.2.2.2.2.1, ⟨hk.1.1.1, ⟨hk.1.1.2.1, ⟨hk.1.1.2.2.1, ⟨hk.1.1.2.2.2.1, ⟨hk.1.1.2.2.2.2.2.1, hk.1.1.2.2.2.2.2.2⟩⟩⟩⟩⟩⟩)⟩, ⟨by exact lR <| Kd.R_mono HO391.out (fun _ hk => ⟨hk.1.1.2.2.2.2.1, ⟨hk.1.1.1, ⟨hk.1.1.2.1, ⟨hk.1.1.2.2.1, ⟨hk.1.1.2.2.2.1, ⟨hk.1.1.2.2.2.2.2.1, hk.1.1.2.2.2.2.2.2⟩⟩⟩⟩⟩⟩)⟩, ⟨by exact lR <| Kd.R_mono HO372.out (fun _ hk => ⟨hk.1.1.2.2.2.1, ⟨hk.1.1.2.2.2.2.1, ⟨hk.1.1.1, ⟨hk.1.1.2.1, ⟨hk.1.1.2.2.1, ⟨hk.1.1.2.2.2.2.2.1, hk.1.1.2.2.2.2.2.2⟩⟩⟩⟩⟩⟩)⟩, ⟨by exact lR <| Kd.R_mono HO375.out (fun _ hk => ⟨hk.1.1.2.2.2.1, ⟨hk.1.1.2.2.2.2.1, ⟨hk.1.1.1, ⟨hk.1.1.2.1, ⟨hk.1.1.2.2.1, ⟨hk.1.1.2.2.2.2.2.1, hk.1.1.2.2.2.2.2.2⟩⟩⟩⟩⟩⟩)⟩, ⟨by exact lR <| Kd.R_mono HO381.out (fun _ hk => ⟨hk.1.1.2.2.2.1, ⟨hk.1.1.2.2.2.2.1, ⟨hk.1.1.1, ⟨hk.1.1.2.1, ⟨hk.1.1.2.2.1, ⟨hk.1.1.2.2.2.2.2.1, hk.1.1.2.2.2.2.2.2⟩⟩⟩⟩⟩⟩)⟩, ⟨by exact lR <| Kd.R_mono HO384.out (fun _ hk => ⟨hk.1.1.2.2.2.1, ⟨hk.1.1.2.2.2.2.1, ⟨hk.1.1.1, ⟨hk.1.1.2.1, ⟨hk.1.1.2.2.1, ⟨hk.1.1.2.2.2.2.2.1, hk.1.1.2.2.2.2.2.2⟩⟩⟩⟩⟩⟩)⟩, ⟨by exact lR <| Kd.R_mono HO395.out (fun _ hk => ⟨hk.1.1.2.2.2.2.1, ⟨hk.1.1.2.2.2.2.2.1, ⟨hk.1.1.1, ⟨hk.1.1.2.1, ⟨hk.1.1.2.2.1, ⟨hk.1.1.2.2.2.1, hk.1.1.2.2.2.2.2.2⟩⟩⟩⟩⟩⟩)⟩, ⟨by exact lR <| Kd.R_mono HO398.out (fun _ hk => ⟨hk.1.1.2.2.2.2.1, ⟨hk.1.1.2.2.2.2.2.1, ⟨hk.1.1.1, ⟨hk.1.1.2.1, ⟨hk.1.1.2.2.1, ⟨hk.1.1.2.2.2.1, hk.1.1.2.2.2.2.2.2⟩⟩⟩⟩⟩⟩)⟩, ⟨by exact lK <| BK378.out⟩, ⟨by exact lK <| BK392.out⟩, ⟨by exact lK <| BK400.out⟩, ⟨by exact jB HB.out⟩⟩
     ·replace c31 := Bool.eq_false_iff.mpr c31
      subst c31
      have H1 : (laws_FnFrmTimes.j1 kj2 t377 t386 t389 true t370 t373 t376 t393 t396 t399) = some r := by rw [if_neg (show ¬ (false = true) by decide)] at H; exact H
      clear H
      have H := H1
      clear H1
      have H' := Aside0.mk H
      clear H
      try go_wp2
      have n0_ := Aside0.mk (Kd.R_mono (ok' := (fun k_ => some k_ ≠ (.slice Ao14 t373.length co14 : Value).ownBlock ∧ some k_ ≠ (.slice Ao17 t379.length co17 : Value).ownBlock ∧ some k_ ≠ (.slice Ao20 t382.length co20 : Value).ownBlock ∧ some k_ ≠ (v387 : Value).ownBlock ∧ some k_ ≠ (v390 : Value).ownBlock ∧ some k_ ≠ (.slice Ao24 t393.length co24 : Value).ownBlock ∧ some k_ ≠ (.slice Ao28 t396.length co28 : Value).ownBlock)) (R3 (w := w23) (x := (.slice Ao24 t393.length co24)) (y := (.slice Ao28 t396.length co28)) (z := (.int .i64 t399)) (lR HO372.out) (lK BK400.out)) (fun _ hk => ⟨hk.1.1.1.1.1.1, ⟨hk.1.1.1.1.1.2, ⟨hk.1.1.1.1.2, ⟨hk.1.1.1.2, ⟨hk.1.1.2, ⟨hk.1.2, hk.2⟩⟩⟩⟩⟩⟩))
      have n1_ := Aside0.mk (Kd.R_mono (ok' := (fun k_ => some k_ ≠ (.slice Ao12 t370.length co12 : Value).ownBlock ∧ some k_ ≠ (.slice Ao17 t379.length co17 : Value).ownBlock ∧ some k_ ≠ (.slice Ao20 t382.length co20 : Value).ownBlock ∧ some k_ ≠ (v387 : Value).ownBlock ∧ some k_ ≠ (v390 : Value).ownBlock ∧ some k_ ≠ (.slice Ao24 t393.length co24 : Value).ownBlock ∧ some k_ ≠ (.slice Ao28 t396.length co28 : Value).ownBlock)) (R3 (w := w23) (x := (.slice Ao24 t393.length co24)) (y := (.slice Ao28 t396.length co28)) (z := (.int .i64 t399)) (lR HO375.out) (lK BK400.out)) (fun _ hk => ⟨hk.1.1.1.1.1.1, ⟨hk.1.1.1.1.1.2, ⟨hk.1.1.1.1.2, ⟨hk.1.1.1.2, ⟨hk.1.1.2, ⟨hk.1.2, hk.2⟩⟩⟩⟩⟩⟩))
      have n2_ := Aside0.mk (Kd.R_mono (ok' := (fun k_ => some k_ ≠ (.slice Ao12 t370.length co12 : Value).ownBlock ∧ some k_ ≠ (.slice Ao14 t373.length co14 : Value).ownBlock ∧ some k_ ≠ (.slice Ao20 t382.length co20 : Value).ownBlock ∧ some k_ ≠ (v387 : Value).ownBlock ∧ some k_ ≠ (v390 : Value).ownBlock ∧ some k_ ≠ (.slice Ao24 t393.length co24 : Value).ownBlock ∧ some k_ ≠ (.slice Ao28 t396.length co28 : Value).ownBlock)) (R3 (w := w23) (x := (.slice Ao24 t393.length co24)) (y := (.slice Ao28 t396.length co28)) (z := (.int .i64 t399)) (lR HO381.out) (lK BK400.out)) (fun _ hk => ⟨hk.1.1.1.2, ⟨hk.1.1.2, ⟨hk.1.1.1.1.1, ⟨hk.1.1.1.1.2.1, ⟨hk.1.1.1.1.2.2, ⟨hk.1.2, hk.2⟩⟩⟩⟩⟩⟩))
      have n3_ := Aside0.mk (Kd.R_mono (ok' := (fun k_ => some k_ ≠ (.slice Ao12 t370.length co12 : Value).ownBlock ∧ some k_ ≠ (.slice Ao14 t373.length co14 : Value).ownBlock ∧ some k_ ≠ (.slice Ao17 t379.length co17 : Value).ownBlock ∧ some k_ ≠ (v387 : Value).ownBlock ∧ some k_ ≠ (v390 : Value).ownBlock ∧ some k_ ≠ (.slice Ao24 t393.length co24 : Value).ownBlock ∧ some k_ ≠ (.slice Ao28 t396.length co28 : Value).ownBlock)) (R3 (w := w23) (x := (.slice Ao24 t393.length co24)) (y := (.slice Ao28 t396.length co28)) (z := (.int .i64 t399)) (lR HO384.out) (lK BK400.out)) (fun _ hk => ⟨hk.1.1.1.2, ⟨hk.1.1.2, ⟨hk.1.1.1.1.1, ⟨hk.1.1.1.1.2.1, ⟨hk.1.1.1.1.2.2, ⟨hk.1.2, hk.2⟩⟩⟩⟩⟩⟩))
      have n4_ := Aside0.mk (Kd.R_mono (ok' := (fun k_ => some k_ ≠ (.slice Ao12 t370.length co12 : Value).ownBlock ∧ some k_ ≠ (.slice Ao14 t373.length co14 : Value).ownBlock ∧ some k_ ≠ (.slice Ao17 t379.length co17 : Value).ownBlock ∧ some k_ ≠ (.slice Ao20 t382.length co20 : Value).ownBlock ∧ some k_ ≠ (v390 : Value).ownBlock ∧ some k_ ≠ (.slice Ao24 t393.length co24 : Value).ownBlock ∧ some k_ ≠ (.slice Ao28 t396.length co28 : Value).ownBlock)) (R3 (w := w23) (x := (.slice Ao24 t393.length co24)) (y := (.slice Ao28 t396.length co28)) (z := (.int .i64 t399)) (lR HO388.out) (lK BK400.out)) (fun _ hk => ⟨hk.1.1.1.2, ⟨hk.1.1.2, ⟨hk.1.1.1.1.1, ⟨hk.1.1.1.1.2.1, ⟨hk.1.1.1.1.2.2, ⟨hk.1.2, hk.2⟩⟩⟩⟩⟩⟩))
      have n5_ := Aside0.mk (Kd.R_mono (ok' := (fun k_ => some k_ ≠ (.slice Ao12 t370.length co12 : Value).ownBlock ∧ some k_ ≠ (.slice Ao14 t373.length co14 : Value).ownBlock ∧ some k_ ≠ (.slice Ao17 t379.length co17 : Value).ownBlock ∧ some k_ ≠ (.slice Ao20 t382.length co20 : Value).ownBlock ∧ some k_ ≠ (v387 : Value).ownBlock ∧ some k_ ≠ (.slice Ao24 t393.length co24 : Value).ownBlock ∧ some k_ ≠ (.slice Ao28 t396.length co28 : Value).ownBlock)) (R3 (w := w23) (x := (.slice Ao24 t393.length co24)) (y := (.slice Ao28 t396.length co28)) (z := (.int .i64 t399)) (lR HO391.out) (lK BK400.out)) (fun _ hk => ⟨hk.1.1.1.2, ⟨hk.1.1.2, ⟨hk.1.1.1.1.1, ⟨hk.1.1.1.1.2.1, ⟨hk.1.1.1.1.2.2, ⟨hk.1.2, hk.2⟩⟩⟩⟩⟩⟩))
      have n6_ := Aside0.mk (Kd.R_mono (ok' := (fun k_ => some k_ ≠ (.slice Ao12 t370.length co12 : Value).ownBlock ∧ some k_ ≠ (.slice Ao14 t373.length co14 : Value).ownBlock ∧ some k_ ≠ (.slice Ao17 t379.length co17 : Value).ownBlock ∧ some k_ ≠ (.slice Ao20 t382.length co20 : Value).ownBlock ∧ some k_ ≠ (v387 : Value).ownBlock ∧ some k_ ≠ (v390 : Value).ownBlock ∧ some k_ ≠ (.slice Ao28 t396.length co28 : Value).ownBlock)) (R3 (w := w23) (x := (.slice Ao24 t393.length co24)) (y := (.slice Ao28 t396.length co28)) (z := (.int .i64 t399)) (lR HO395.out) (lK BK400.out)) (fun _ hk => ⟨hk.1.1.1.1.1.2, ⟨hk.1.1.1.1.2, ⟨hk.1.1.1.2, ⟨hk.1.1.2, ⟨hk.1.2, ⟨hk.2, hk.1.1.1.1.1.1⟩⟩⟩⟩⟩⟩))
      have n7_ := Aside0.mk (Kd.R_mono (ok' := (fun k_ => some k_ ≠ (.slice Ao12 t370.length co12 : Value).ownBlock ∧ some k_ ≠ (.slice Ao14 t373.length co14 : Value).ownBlock ∧ some k_ ≠ (.slice Ao17 t379.length co17 : Value).ownBlock ∧ some k_ ≠ (.slice Ao20 t382.length co20 : Value).ownBlock ∧ some k_ ≠ (v387 : Value).ownBlock ∧ some k_ ≠ (v390 : Value).ownBlock ∧ some k_ ≠ (.slice Ao24 t393.length co24 : Value).ownBlock)) (R3 (w := w23) (x := (.slice Ao24 t393.length co24)) (y := (.slice Ao28 t396.length co28)) (z := (.int .i64 t399)) (lR HO398.out) (lK BK400.out)) (fun _ hk => ⟨hk.1.1.1.1.1.2, ⟨hk.1.1.1.1.2, ⟨hk.1.1.1.2, ⟨hk.1.1.2, ⟨hk.1.2, ⟨hk.2, hk.1.1.1.1.1.1⟩⟩⟩⟩⟩⟩))
      have n8_ : Aside0 ((((w23.setCell ⟨gb400, 0, none⟩ (.slice Ao24 t393.length co24)).setCell ⟨gb400, 1, none⟩ (.slice Ao28 t396.length co28)).setCell ⟨gb400, 2, none⟩ (.int .i64 t399)).heap[gb378]? = some (.cells #[.slice Ao12 t370.length co12, .slice Ao14 t373.length co14, .int .i64 t376] 25 (0, 0))) := ⟨by (with_reducible repeat first | refine kN ?_ _ | refine kD ?_ | refine kA ?_ _); refine blk_far ?_ NB378_400.out _; (with_reducible repeat first | refine kN ?_ _ | refine kD ?_ | refine kA ?_ _); refine blk_far ?_ NB378_400.out _; (with_reducible repeat first | refine kN ?_ _ | refine kD ?_ | refine kA ?_ _); refine blk_far ?_ NB378_400.out _; exact lK <| BK378.out⟩
      have n9_ : Aside0 ((((w23.setCell ⟨gb400, 0, none⟩ (.slice Ao24 t393.length co24)).setCell ⟨gb400, 1, none⟩ (.slice Ao28 t396.length co28)).setCell ⟨gb400, 2, none⟩ (.int .i64 t399)).heap[gb392]? = some (.cells #[.slice Ao17 t379.length co17, .slice Ao20 t382.length co20, .int .i64 t385] 25 (0, 0))) := ⟨by (with_reducible repeat first | refine kN ?_ _ | refine kD ?_ | refine kA ?_ _); refine blk_far ?_ NB392_400.out _; (with_reducible repeat first | refine kN ?_ _ | refine kD ?_ | refine kA ?_ _); refine blk_far ?_ NB392_400.out _; (with_reducible repeat first | refine kN ?_ _ | refine kD ?_ | refine kA ?_ _); refine blk_far ?_ NB392_400.out _; exact lK <| BK392.out⟩
      have n10_ := Aside0.mk (p3 (w := w23) (x := (.slice Ao24 t393.length co24)) (y := (.slice Ao28 t396.length co28)) (z := (.int .i64 t399)) (lK BK400.out))
      have n11_ : Aside0 (Below w.heap.size w (((w23.setCell ⟨gb400, 0, none⟩ (.slice Ao24 t393.length co24)).setCell ⟨gb400, 1, none⟩ (.slice Ao28 t396.length co28)).setCell ⟨gb400, 2, none⟩ (.int .i64 t399))) := ⟨by exact jB HB.out⟩
      (try clear HO372)
      (try clear HO375)
      (try clear HO381)
      (try clear HO384)
      (try clear HO388)
      (try clear HO391)
      (try clear HO395)
      (try clear HO398)
      (try clear BK378)
      (try clear BK392)
      (try clear BK400)
      (try clear HB)
      generalize (((w23.setCell ⟨gb400, 0, none⟩ (.slice Ao24 t393.length co24)).setCell ⟨gb400, 1, none⟩ (.slice Ao28 t396.length co28)).setCell ⟨gb400, 2, none⟩ (.int .i64 t399)) = w42 at n0_ n1_ n2_ n3_ n4_ n5_ n6_ n7_ n8_ n9_ n10_ n11_ ⊢
      have HO372 := n0_
      have HO375 := n1_
      have HO381 := n2_
      have HO384 := n3_
      have HO388 := n4_
      have HO391 := n5_
      have HO395 := n6_
      have HO398 := n7_
      have BK378 := n8_
      have BK392 := n9_
      have BK400 := n10_
      have HB := n11_
      clear n0_ n1_ n2_ n3_ n4_ n5_ n6_ n7_ n8_ n9_ n10_ n11_
      replace HO372 := Aside0.mk (Kd.R_drew HO372.out)
      replace HO375 := Aside0.mk (Kd.R_drew HO375.out)
      replace HO381 := Aside0.mk (Kd.R_drew HO381.out)
      replace HO384 := Aside0.mk (Kd.R_drew HO384.out)
      replace HO388 := Aside0.mk (Kd.R_drew HO388.out)
      replace HO391 := Aside0.mk (Kd.R_drew HO391.out)
      replace HO395 := Aside0.mk (Kd.R_drew HO395.out)
      replace HO398 := Aside0.mk (Kd.R_drew HO398.out)
      replace BK378 := Aside0.mk (blk_drew BK378.out)
      replace BK392 := Aside0.mk (blk_drew BK392.out)
      replace BK400 := Aside0.mk (blk_drew BK400.out)
      replace HB := Aside0.mk (below_drew1 HB.out)
      refine start_ (n := 13) (S := fun w' => w'.cell? ⟨gb400, 0, none⟩ = some (.slice Ao24 t393.length co24) ∧ w'.cell? ⟨gb400, 1, none⟩ = some (.slice Ao28 t396.length co28) ∧ w'.cell? ⟨gb400, 2, none⟩ = some (.int .i64 t399) ∧ w'.cell? ⟨gb378, 0, none⟩ = some (.slice Ao12 t370.length co12) ∧ w'.cell? ⟨gb378, 1, none⟩ = some (.slice Ao14 t373.length co14) ∧ w'.cell? ⟨gb378, 2, none⟩ = some (.int .i64 t376)) (ds := []) #[false, false, false, false, false, false, false, false, false, false, false, false, false] (by kernel_rfl) rfl rfl ⟨(blk_cell BK400.out 0).trans rfl, (blk_cell BK400.out 1).trans rfl, (blk_cell BK400.out 2).trans rfl, (blk_cell BK378.out 0).trans rfl, (blk_cell BK378.out 1).trans rfl, (blk_cell BK378.out 2).trans rfl⟩ (fun hHeld => ?_); refine with_tabW laws_FnFrmTimes.tab6 laws_FnFrmTimes.bits6 (fun HT_ HW_ => ?_)
      generalize w42.drew = w43 at HO372 HO375 HO381 HO384 HO388 HO391 HO395 HO398 BK378 BK392 BK400 HB hHeld ⊢
      refine pure_ (i := 2) (N := some 40) (v := ?_) (a' := ?_) #[false, false, true, false, false, false, false, false, false, false, false, false, false] rfl rfl (any_of HT_.out (by kernel_rfl)) (fun _ _ _ h => h) (Or.inl ⟨by rfl, ?_⟩) ?_ ?_
      rotate_left
      ·intro w'
       go_simp
       with_reducible rfl
      rotate_left
      ·simp only [Act.put, sA, s0, sS, i64_w, i32_w]
       rfl
      refine take_ (i := 0) (N := some 38) (v := ?_) (a' := ?_) #[true, false, true, false, false, false, false, false, false, false, false, false, false] rfl rfl (take_ofW HT_.out HW_.out (by kernel_rfl)) (fun _ _ _ h => h) (Or.inl ⟨by rfl, ?_⟩) hHeld ?_ ?_
      rotate_left
      ·rintro w' ⟨s0, s1, s2, s3, s4, s5⟩
       go_simp
       with_reducible rfl
      rotate_left
      ·simp only [Act.put, sA, s0, sS, i64_w, i32_w]
       rfl
      refine take_ (i := 1) (N := some 39) (v := ?_) (a' := ?_) #[true, true, true, false, false, false, false, false, false, false, false, false, false] rfl rfl (take_ofW HT_.out HW_.out (by kernel_rfl)) (fun _ _ _ h => h) (Or.inl ⟨by rfl, ?_⟩) hHeld ?_ ?_
      rotate_left
      ·rintro w' ⟨s0, s1, s2, s3, s4, s5⟩
       go_simp
       with_reducible rfl
      rotate_left
      ·simp only [Act.put, sA, s0, sS, i64_w, i32_w]
       rfl
      refine one_ (i := 3) (N := some 41) #[true, true, true, true, false, false, false, false, false, false, false, false, false] rfl rfl (one_of HT_.out (by kernel_rfl)) (by decide) (fun K hK => ?_)
      refine goes_ Try.func16 (by kernel_rfl) rfl #[.agg #[.slice Ao12 t370.length co12, .slice Ao14 t373.length co14, .int .i64 t376], .int .i64 t377] (by rfl) rfl rfl (by (try simp only [mA, mC, mN]); first | done | rfl | (simp only [ld, lt]; rfl)) ?_
      with_reducible refine (spec_FrmTimes.calls kj2 _ _ t370 _ _ t373 t376 t377 t401 t404 t407 _ ?side1 ?side2 ?side3 ?side4 A29.out).mono ?_
      (case side1 => exact lC <| (Kd.R_reads' HO372.out).2.2)
      (case side2 => exact (Kd.R_reads' HO372.out).2.1)
      (case side3 => exact lC <| (Kd.R_reads' HO375.out).2.2)
      (case side4 => exact (Kd.R_reads' HO375.out).2.1)
      rintro e w44 ⟨v402, v405, rfl, ho0, ho1, hb⟩
      refine ⟨_, rfl, ?_⟩
      have HO403 := Aside0.mk (Kd.R_lower (Kd.R_new' (Kd.R_new' (Kd.R_new' (Kd.R_new' (Kd.R_new' (Kd.R_new' (Kd.R_new' (Kd.R_new' ho0 (rl HO372.out)) (rl HO375.out)) (rl HO381.out)) (rl HO384.out)) (rl HO388.out)) (rl HO391.out)) (rl HO395.out)) (rl HO398.out)) (below_size (by exact jB HB.out)))
      have HO406 := Aside0.mk (Kd.R_lower (Kd.R_new' (Kd.R_new' (Kd.R_new' (Kd.R_new' (Kd.R_new' (Kd.R_new' (Kd.R_new' (Kd.R_new' ho1 (rl HO372.out)) (rl HO375.out)) (rl HO381.out)) (rl HO384.out)) (rl HO388.out)) (rl HO391.out)) (rl HO395.out)) (rl HO398.out)) (below_size (by exact jB HB.out)))
      replace HO372 := Aside0.mk (o2 HO372.out hb ho0 ho1)
      replace HO375 := Aside0.mk (o2 HO375.out hb ho0 ho1)
      replace HO381 := Aside0.mk (o2 HO381.out hb ho0 ho1)
      replace HO384 := Aside0.mk (o2 HO384.out hb ho0 ho1)
      replace HO388 := Aside0.mk (o2 HO388.out hb ho0 ho1)
      replace HO391 := Aside0.mk (o2 HO391.out hb ho0 ho1)
      replace HO395 := Aside0.mk (o2 HO395.out hb ho0 ho1)
      replace HO398 := Aside0.mk (o2 HO398.out hb ho0 ho1)
      replace BK378 := Aside0.mk (bb BK378.out hb)
      replace BK392 := Aside0.mk (bb BK392.out hb)
      replace BK400 := Aside0.mk (bb BK400.out hb)
      replace HB := Aside0.mk (below_step (by exact jB HB.out) hb)
      (try clear hb)
      (try clear hb2)
      (try clear hk)
      (try clear hi)
      (try clear ho0)
      (try clear ho1)
      obtain ⟨Ao45, co45, eo45⟩ := Kd.R_slice HO403.out
      (first | subst eo45 | (injection eo45 with f1_ f2_ f3_; have f4_ := f1_.symm; have f5_ := f3_.symm; clear f1_ f2_ f3_; subst f4_; subst f5_))
      obtain ⟨Ao46, co46, eo46⟩ := Kd.R_slice HO406.out
      (first | subst eo46 | (injection eo46 with f1_ f2_ f3_; have f4_ := f1_.symm; have f5_ := f3_.symm; clear f1_ f2_ f3_; subst f4_; subst f5_))
      refine hK.out _ _ ⟨(blk_cell BK400.out 0).trans rfl, (blk_cell BK400.out 1).trans rfl, (blk_cell BK400.out 2).trans rfl, (blk_cell BK378.out 0).trans rfl, (blk_cell BK378.out 1).trans rfl, (blk_cell BK378.out 2).trans rfl⟩ (fun hHeld => ?_)
      clear hK K
      refine norm_ (a' := ?_) ?_ ?_
      rotate_left
      ·show Act.put _ (some 41) _ = _
       simp only [Act.put, sA, s0, sS, i64_w, i32_w]
       rfl
      refine one_ (i := 4) (N := some 42) #[true, true, true, true, true, false, false, false, false, false, false, false, false] rfl rfl (one_of HT_.out (by kernel_rfl)) (by decide) (fun K hK => ?_)
      refine goes_ Try.func8 (by kernel_rfl) rfl #[.agg #[.slice Ao24 t393.length co24, .slice Ao28 t396.length co28, .int .i64 t399], .agg #[.slice Ao45 t401.length co45, .slice Ao46 t404.length co46, .int .i64 t407]] (by rfl) rfl rfl (by (try simp only [mA, mC, mN]); first | done | rfl | (simp only [ld, lt]; rfl)) ?_
      with_reducible refine (laws_coForm.calls kj2 _ _ t393 _ _ t396 t399 _ _ t401 _ _ t404 t407 false _ ?side1 ?side2 ?side3 ?side4 ?side5 ?side6 ?side7 ?side8 A30.out).mono ?_
      (case side1 => exact lC <| (Kd.R_reads' HO395.out).2.2)
      (case side2 => exact (Kd.R_reads' HO395.out).2.1)
      (case side3 => exact lC <| (Kd.R_reads' HO398.out).2.2)
      (case side4 => exact (Kd.R_reads' HO398.out).2.1)
      (case side5 => exact lC <| (Kd.R_reads' HO403.out).2.2)
      (case side6 => exact (Kd.R_reads' HO403.out).2.1)
      (case side7 => exact lC <| (Kd.R_reads' HO406.out).2.2)
      (case side8 => exact (Kd.R_reads' HO406.out).2.1)
      rintro e w47 ⟨rfl, hb⟩
      refine ⟨_, rfl, ?_⟩
      replace HO372 := Aside0.mk (rb HO372.out hb)
      replace HO375 := Aside0.mk (rb HO375.out hb)
      replace HO381 := Aside0.mk (rb HO381.out hb)
      replace HO384 := Aside0.mk (rb HO384.out hb)
      replace HO388 := Aside0.mk (rb HO388.out hb)
      replace HO391 := Aside0.mk (rb HO391.out hb)
      replace HO395 := Aside0.mk (rb HO395.out hb)
      replace HO398 := Aside0.mk (rb HO398.out hb)
      replace HO403 := Aside0.mk (rb HO403.out hb)
      replace HO406 := Aside0.mk (rb HO406.out hb)
      replace BK378 := Aside0.mk (bb BK378.out hb)
      replace BK392 := Aside0.mk (bb BK392.out hb)
      replace BK400 := Aside0.mk (bb BK400.out hb)
      replace HB := Aside0.mk (below_step (by exact jB HB.out) hb)
      (try clear hb)
      (try clear hb2)
      (try clear hk)
      (try clear hi)
      refine hK.out _ _ ⟨(blk_cell BK400.out 0).trans rfl, (blk_cell BK400.out 1).trans rfl, (blk_cell BK400.out 2).trans rfl, (blk_cell BK378.out 0).trans rfl, (blk_cell BK378.out 1).trans rfl, (blk_cell BK378.out 2).trans rfl⟩ (fun hHeld => ?_)
      clear hK K
      refine norm_ (a' := ?_) ?_ ?_
      rotate_left
      ·show Act.put _ (some 42) _ = _
       simp only [Act.put, sA, s0, sS, i64_w, i32_w]
       rfl
      refine pure_ (i := 5) (N := some 43) (v := ?_) (a' := ?_) #[true, true, true, true, true, true, false, false, false, false, false, false, false] rfl rfl (any_of HT_.out (by kernel_rfl)) (fun _ _ _ h => h) (Or.inl ⟨by rfl, ?_⟩) ?_ ?_
      rotate_left
      ·intro w'
       go_simp
       with_reducible rfl
      rotate_left
      ·simp only [Act.put, sA, s0, sS, i64_w, i32_w]
       rfl
      refine pure_ (i := 6) (N := some 44) (v := ?_) (a' := ?_) #[true, true, true, true, true, true, true, false, false, false, false, false, false] rfl rfl (any_of HT_.out (by kernel_rfl)) (fun _ _ _ h => h) (Or.inl ⟨by rfl, ?_⟩) ?_ ?_
      rotate_left
      ·intro w'
       go_simp
       with_reducible rfl
      rotate_left
      ·simp only [Act.put, sA, s0, sS, i64_w, i32_w]
       rfl
      refine pure_ (i := 7) (N := some 45) (v := undef) (a' := ?_) #[true, true, true, true, true, true, true, true, false, false, false, false, false] rfl rfl (any_of HT_.out (by kernel_rfl)) (fun _ _ _ h => h) (Or.inr ⟨by rfl, rfl⟩) ?_ ?_
      rotate_left
      ·simp only [Act.put, sA, s0, sS, i64_w, i32_w]
       rfl
      refine pure_ (i := 8) (N := some 46) (v := undef) (a' := ?_) #[true, true, true, true, true, true, true, true, true, false, false, false, false] rfl rfl (any_of HT_.out (by kernel_rfl)) (fun _ _ _ h => h) (Or.inr ⟨by rfl, rfl⟩) ?_ ?_
      rotate_left
      ·simp only [Act.put, sA, s0, sS, i64_w, i32_w]
       rfl
      refine pure_ (i := 9) (N := some 47) (v := undef) (a' := ?_) #[true, true, true, true, true, true, true, true, true, true, false, false, false] rfl rfl (any_of HT_.out (by kernel_rfl)) (fun _ _ _ h => h) (Or.inr ⟨by rfl, rfl⟩) ?_ ?_
      rotate_left
      ·simp only [Act.put, sA, s0, sS, i64_w, i32_w]
       rfl
      refine pure_ (i := 10) (N := some 48) (v := undef) (a' := ?_) #[true, true, true, true, true, true, true, true, true, true, true, false, false] rfl rfl (any_of HT_.out (by kernel_rfl)) (fun _ _ _ h => h) (Or.inr ⟨by rfl, rfl⟩) ?_ ?_
      rotate_left
      ·simp only [Act.put, sA, s0, sS, i64_w, i32_w]
       rfl
      refine pure_ (i := 11) (N := some 49) (v := undef) (a' := ?_) #[true, true, true, true, true, true, true, true, true, true, true, true, false] rfl rfl (any_of HT_.out (by kernel_rfl)) (fun _ _ _ h => h) (Or.inr ⟨by rfl, rfl⟩) ?_ ?_
      rotate_left
      ·simp only [Act.put, sA, s0, sS, i64_w, i32_w]
       rfl
      refine pure_ (i := 12) (N := some 50) (v := ?_) (a' := ?_) #[true, true, true, true, true, true, true, true, true, true, true, true, true] rfl rfl (any_of HT_.out (by kernel_rfl)) (fun _ _ _ h => h) (Or.inl ⟨by rfl, ?_⟩) ?_ ?_
      rotate_left
      ·intro w'
       go_simp
       with_reducible rfl
      rotate_left
      ·simp only [Act.put, sA, s0, sS, i64_w, i32_w]
       rfl
      refine done_ (done_of HT_.out (by kernel_rfl)) ?_
      try go_wp2
      go_meet
      case rel => exact ⟨_, (true), (by first | rfl | (simp; done) | (simp [*]; done)), H', ⟨by have := HJ2.out; first | omega | exact Nat.le_refl _⟩, ⟨by exact lR <| Kd.R_mono HO388.out (fun _ hk => ⟨hk.1.1.2.2.2.2.1, ⟨hk.1.1.1, ⟨hk.1.1.2.1, ⟨hk.1.1.2.2.1, ⟨hk.1.1.2.2.2.1, ⟨hk.1.1.2.2.2.2.2.1, hk.1.1.2.2.2.2.2.2⟩⟩⟩⟩⟩⟩)⟩, ⟨by exact lR <| Kd.R_mono HO391.out (fun _ hk => ⟨hk.1.1.2.2.2.2.1, ⟨hk.1.1.1, ⟨hk.1.1.2.1, ⟨hk.1.1.2.2.1, ⟨hk.1.1.2.2.2.1, ⟨hk.1.1.2.2.2.2.2.1, hk.1.1.2.2.2.2.2.2⟩⟩⟩⟩⟩⟩)⟩, ⟨by exact lR <| Kd.R_mono HO372.out (fun _ hk => ⟨hk.1.1.2.2.2.1, ⟨hk.1.1.2.2.2.2.1, ⟨hk.1.1.1, ⟨hk.1.1.2.1, ⟨hk.1.1.2.2.1, ⟨hk.1.1.2.2.2.2.2.1, hk.1.1.2.2.2.2.2.2⟩⟩⟩⟩⟩⟩)⟩, ⟨by exact lR <| Kd.R_mono HO375.out (fun _ hk => ⟨hk.1.1.2.2.2.1, ⟨hk.1.1.2.2.2.2.1, ⟨hk.1.1.1, ⟨hk.1.1.2.1, ⟨hk.1.1.2.2.1, ⟨hk.1.1.2.2.2.2.2.1, hk.1.1.2.2.2.2.2.2⟩⟩⟩⟩⟩⟩)⟩, ⟨by exact lR <| Kd.R_mono HO381.out (fun _ hk => ⟨hk.1.1.2.2.2.1, ⟨hk.1.1.2.2.2.2.1, ⟨hk.1.1.1, ⟨hk.1.1.2.1, ⟨hk.1.1.2.2.1, ⟨hk.1.1.2.2.2.2.2.1, hk.1.1.2.2.2.2.2.2⟩⟩⟩⟩⟩⟩)⟩, ⟨by exact lR <| Kd.R_mono HO384.out (fun _ hk => ⟨hk.1.1.2.2.2.1, ⟨hk.1.1.2.2.2.2.1, ⟨hk.1.1.1, ⟨hk.1.1.2.1, ⟨hk.1.1.2.2.1, ⟨hk.1.1.2.2.2.2.2.1, hk.1.1.2.2.2.2.2.2⟩⟩⟩⟩⟩⟩)⟩, ⟨by exact lR <| Kd.R_mono HO395.out (fun _ hk => ⟨hk.1.1.2.2.2.2.1, ⟨hk.1.1.2.2.2.2.2.1, ⟨hk.1.1.1, ⟨hk.1.1.2.1, ⟨hk.1.1.2.2.1, ⟨hk.1.1.2.2.2.1, hk.1.1.2.2.2.2.2.2⟩⟩⟩⟩⟩⟩)⟩, ⟨by exact lR <| Kd.R_mono HO398.out (fun _ hk => ⟨hk.1.1.2.2.2.2.1, ⟨hk.1.1.2.2.2.2.2.1, ⟨hk.1.1.1, ⟨hk.1.1.2.1, ⟨hk.1.1.2.2.1, ⟨hk.1.1.2.2.2.1, hk.1.1.2.2.2.2.2.2⟩⟩⟩⟩⟩⟩)⟩, ⟨by exact lK <| BK378.out⟩, ⟨by exact lK <| BK392.out⟩, ⟨by exact lK <| BK400.out⟩, ⟨by exact jB HB.out⟩⟩
    case rest =>
     clear HC9
     try clear c1
     try clear p2
     try clear c3
     try clear c8
     try clear c11
     try clear c16
     try clear c17
     try clear c31
     obtain ⟨kq, x50_8, rfl, HA, HJ8, HO_8, HO_9, HO_379000, HO_379001, HO_393000, HO_393001, HO_401000, HO_401001, BK378, BK392, BK400, HB⟩ := hcut
     cases kq with
     | zero => exact absurd HA.out (by simp [laws_FnFrmTimes.j1])
     | succ kj8 =>
      have H := HA.out
      clear HA
      simp only [laws_FnFrmTimes.j1] at H
      by_cases c48 : x50_8 = true
      ·subst c48
       have H1 : (some false) = some r := by rw [if_pos rfl] at H; exact H
       clear H
       have H := H1
       clear H1
       exact absurd (Option.some.inj H) (by rw [hr.out]; decide)
      ·replace c48 := Bool.eq_false_iff.mpr c48
       subst c48
       have H1 : ((impl_FrmOk.f t370 t373 t376).bind fun t411 => (if t411 = true then ((impl_FrmAt.f kj8 t393 t396 t399 t386 t389).bind fun bt413 => ((impl_FrmAt.f kj8 t370 t373 t376 t386 t389).bind fun bt415 => ((impl_FrmTimes.f t370 t373 t376 (-1)).bind fun bt417 => ((impl_FrmTimes.f bt417.1 bt417.2.1 bt417.2.2 (-1)).bind fun bt424 => (if bt413.2 = true then (if bt415.2 = true then (if bt413.1 = (wrap64 (t377 * bt415.1)) then ((impl_FrmTimes.f t370 t373 t376 1).bind fun bt432 => ((laws_coForm.f kj8 bt432.1 bt432.2.1 bt432.2.2 t370 t373 t376).bind fun t439 => (if t439 = true then ((impl_FrmTimes.f t370 t373 t376 0).bind fun bt440 => ((impl_FrmZero.f).bind fun bt447 => ((laws_coForm.f kj8 bt440.1 bt440.2.1 bt440.2.2 bt447.1 bt447.2.1 bt447.2.2).bind fun t454 => (if t454 = true then ((laws_coForm.f kj8 bt424.1 bt424.2.1 bt424.2.2 t370 t373 t376).bind fun t455 => (if t455 = true then ((impl_FrmTimes.f t370 t373 t376 (-1)).bind fun bt456 => ((impl_FrmAdd.f t370 t373 t376 bt456.1 bt456.2.1 bt456.2.2).bind fun bt463 => ((impl_FrmZero.f).bind fun bt470 => ((laws_coForm.f kj8 bt463.1 bt463.2.1 bt463.2.2 bt470.1 bt470.2.1 bt470.2.2).bind fun t477 => (some t477))))) else (some false))) else (some false))))) else (some false)))) else (some false)) else (some false)) else ((impl_FrmTimes.f t370 t373 t376 1).bind fun bt478 => ((laws_coForm.f kj8 bt478.1 bt478.2.1 bt478.2.2 t370 t373 t376).bind fun t485 => (if t485 = true then ((impl_FrmTimes.f t370 t373 t376 0).bind fun bt486 => ((impl_FrmZero.f).bind fun bt493 => ((laws_coForm.f kj8 bt486.1 bt486.2.1 bt486.2.2 bt493.1 bt493.2.1 bt493.2.2).bind fun t500 => (if t500 = true then ((laws_coForm.f kj8 bt424.1 bt424.2.1 bt424.2.2 t370 t373 t376).bind fun t501 => (if t501 = true then ((impl_FrmTimes.f t370 t373 t376 (-1)).bind fun bt502 => ((impl_FrmAdd.f t370 t373 t376 bt502.1 bt502.2.1 bt502.2.2).bind fun bt509 => ((impl_FrmZero.f).bind fun bt516 => ((laws_coForm.f kj8 bt509.1 bt509.2.1 bt509.2.2 bt516.1 bt516.2.1 bt516.2.2).bind fun t523 => (some t523))))) else (some false))) else (some false))))) else (some false))))))))) else (if (t393.length : Int) = 0 then ((laws_coHolds.f).bind fun t412 => (some t412)) else (some false)))) = some r := by rw [if_neg (show ¬ (false = true) by decide)] at H; exact H
       clear H
       have H := H1
       clear H1
       replace H := Option.bind_eq_some_iff.mp H
       obtain ⟨t411, A490, H⟩ := H
       replace H : (if t411 = true then ((impl_FrmAt.f kj8 t393 t396 t399 t386 t389).bind fun bt413 => ((impl_FrmAt.f kj8 t370 t373 t376 t386 t389).bind fun bt415 => ((impl_FrmTimes.f t370 t373 t376 (-1)).bind fun bt417 => ((impl_FrmTimes.f bt417.1 bt417.2.1 bt417.2.2 (-1)).bind fun bt424 => (if bt413.2 = true then (if bt415.2 = true then (if bt413.1 = (wrap64 (t377 * bt415.1)) then ((impl_FrmTimes.f t370 t373 t376 1).bind fun bt432 => ((laws_coForm.f kj8 bt432.1 bt432.2.1 bt432.2.2 t370 t373 t376).bind fun t439 => (if t439 = true then ((impl_FrmTimes.f t370 t373 t376 0).bind fun bt440 => ((impl_FrmZero.f).bind fun bt447 => ((laws_coForm.f kj8 bt440.1 bt440.2.1 bt440.2.2 bt447.1 bt447.2.1 bt447.2.2).bind fun t454 => (if t454 = true then ((laws_coForm.f kj8 bt424.1 bt424.2.1 bt424.2.2 t370 t373 t376).bind fun t455 => (if t455 = true then ((impl_FrmTimes.f t370 t373 t376 (-1)).bind fun bt456 => ((impl_FrmAdd.f t370 t373 t376 bt456.1 bt456.2.1 bt456.2.2).bind fun bt463 => ((impl_FrmZero.f).bind fun bt470 => ((laws_coForm.f kj8 bt463.1 bt463.2.1 bt463.2.2 bt470.1 bt470.2.1 bt470.2.2).bind fun t477 => (some t477))))) else (some false))) else (some false))))) else (some false)))) else (some false)) else (some false)) else ((impl_FrmTimes.f t370 t373 t376 1).bind fun bt478 => ((laws_coForm.f kj8 bt478.1 bt478.2.1 bt478.2.2 t370 t373 t376).bind fun t485 => (if t485 = true then ((impl_FrmTimes.f t370 t373 t376 0).bind fun bt486 => ((impl_FrmZero.f).bind fun bt493 => ((laws_coForm.f kj8 bt486.1 bt486.2.1 bt486.2.2 bt493.1 bt493.2.1 bt493.2.2).bind fun t500 => (if t500 = true then ((laws_coForm.f kj8 bt424.1 bt424.2.1 bt424.2.2 t370 t373 t376).bind fun t501 => (if t501 = true then ((impl_FrmTimes.f t370 t373 t376 (-1)).bind fun bt502 => ((impl_FrmAdd.f t370 t373 t376 bt502.1 bt502.2.1 bt502.2.2).bind fun bt509 => ((impl_FrmZero.f).bind fun bt516 => ((laws_coForm.f kj8 bt509.1 bt509.2.1 bt509.2.2 bt516.1 bt516.2.1 bt516.2.2).bind fun t523 => (some t523))))) else (some false))) else (some false))))) else (some false))))))))) else (if (t393.length : Int) = 0 then ((laws_coHolds.f).bind fun t412 => (some t412)) else (some false))) = some r := H
       have A49 := Aside0.mk A490
       clear A490
       by_cases c50 : t411 = true
       ·subst c50
        have H1 : ((impl_FrmAt.f kj8 t393 t396 t399 t386 t389).bind fun bt413 => ((impl_FrmAt.f kj8 t370 t373 t376 t386 t389).bind fun bt415 => ((impl_FrmTimes.f t370 t373 t376 (-1)).bind fun bt417 => ((impl_FrmTimes.f bt417.1 bt417.2.1 bt417.2.2 (-1)).bind fun bt424 => (if bt413.2 = true then (if bt415.2 = true then (if bt413.1 = (wrap64 (t377 * bt415.1)) then ((impl_FrmTimes.f t370 t373 t376 1).bind fun bt432 => ((laws_coForm.f kj8 bt432.1 bt432.2.1 bt432.2.2 t370 t373 t376).bind fun t439 => (if t439 = true then ((impl_FrmTimes.f t370 t373 t376 0).bind fun bt440 => ((impl_FrmZero.f).bind fun bt447 => ((laws_coForm.f kj8 bt440.1 bt440.2.1 bt440.2.2 bt447.1 bt447.2.1 bt447.2.2).bind fun t454 => (if t454 = true then ((laws_coForm.f kj8 bt424.1 bt424.2.1 bt424.2.2 t370 t373 t376).bind fun t455 => (if t455 = true then ((impl_FrmTimes.f t370 t373 t376 (-1)).bind fun bt456 => ((impl_FrmAdd.f t370 t373 t376 bt456.1 bt456.2.1 bt456.2.2).bind fun bt463 => ((impl_FrmZero.f).bind fun bt470 => ((laws_coForm.f kj8 bt463.1 bt463.2.1 bt463.2.2 bt470.1 bt470.2.1 bt470.2.2).bind fun t477 => (some t477))))) else (some false))) else (some false))))) else (some false)))) else (some false)) else (some false)) else ((impl_FrmTimes.f t370 t373 t376 1).bind fun bt478 => ((laws_coForm.f kj8 bt478.1 bt478.2.1 bt478.2.2 t370 t373 t376).bind fun t485 => (if t485 = true then ((impl_FrmTimes.f t370 t373 t376 0).bind fun bt486 => ((impl_FrmZero.f).bind fun bt493 => ((laws_coForm.f kj8 bt486.1 bt486.2.1 bt486.2.2 bt493.1 bt493.2.1 bt493.2.2).bind fun t500 => (if t500 = true then ((laws_coForm.f kj8 bt424.1 bt424.2.1 bt424.2.2 t370 t373 t376).bind fun t501 => (if t501 = true then ((impl_FrmTimes.f t370 t373 t376 (-1)).bind fun bt502 => ((impl_FrmAdd.f t370 t373 t376 bt502.1 bt502.2.1 bt502.2.2).bind fun bt509 => ((impl_FrmZero.f).bind fun bt516 => ((laws_coForm.f kj8 bt509.1 bt509.2.1 bt509.2.2 bt516.1 bt516.2.1 bt516.2.2).bind fun t523 => (some t523))))) else (some false))) else (some false))))) else (some false))))))))) = some r := by rw [if_pos rfl] at H; exact H
        clear H
        have H := H1
        clear H1
        replace H := Option.bind_eq_some_iff.mp H
        obtain ⟨⟨t413, t414⟩, A510, H⟩ := H
        replace H : ((impl_FrmAt.f kj8 t370 t373 t376 t386 t389).bind fun bt415 => ((impl_FrmTimes.f t370 t373 t376 (-1)).bind fun bt417 => ((impl_FrmTimes.f bt417.1 bt417.2.1 bt417.2.2 (-1)).bind fun bt424 => (if t414 = true then (if bt415.2 = true then (if t413 = (wrap64 (t377 * bt415.1)) then ((impl_FrmTimes.f t370 t373 t376 1).bind fun bt432 => ((laws_coForm.f kj8 bt432.1 bt432.2.1 bt432.2.2 t370 t373 t376).bind fun t439 => (if t439 = true then ((impl_FrmTimes.f t370 t373 t376 0).bind fun bt440 => ((impl_FrmZero.f).bind fun bt447 => ((laws_coForm.f kj8 bt440.1 bt440.2.1 bt440.2.2 bt447.1 bt447.2.1 bt447.2.2).bind fun t454 => (if t454 = true then ((laws_coForm.f kj8 bt424.1 bt424.2.1 bt424.2.2 t370 t373 t376).bind fun t455 => (if t455 = true then ((impl_FrmTimes.f t370 t373 t376 (-1)).bind fun bt456 => ((impl_FrmAdd.f t370 t373 t376 bt456.1 bt456.2.1 bt456.2.2).bind fun bt463 => ((impl_FrmZero.f).bind fun bt470 => ((laws_coForm.f kj8 bt463.1 bt463.2.1 bt463.2.2 bt470.1 bt470.2.1 bt470.2.2).bind fun t477 => (some t477))))) else (some false))) else (some false))))) else (some false)))) else (some false)) else (some false)) else ((impl_FrmTimes.f t370 t373 t376 1).bind fun bt478 => ((laws_coForm.f kj8 bt478.1 bt478.2.1 bt478.2.2 t370 t373 t376).bind fun t485 => (if t485 = true then ((impl_FrmTimes.f t370 t373 t376 0).bind fun bt486 => ((impl_FrmZero.f).bind fun bt493 => ((laws_coForm.f kj8 bt486.1 bt486.2.1 bt486.2.2 bt493.1 bt493.2.1 bt493.2.2).bind fun t500 => (if t500 = true then ((laws_coForm.f kj8 bt424.1 bt424.2.1 bt424.2.2 t370 t373 t376).bind fun t501 => (if t501 = true then ((impl_FrmTimes.f t370 t373 t376 (-1)).bind fun bt502 => ((impl_FrmAdd.f t370 t373 t376 bt502.1 bt502.2.1 bt502.2.2).bind fun bt509 => ((impl_FrmZero.f).bind fun bt516 => ((laws_coForm.f kj8 bt509.1 bt509.2.1 bt509.2.2 bt516.1 bt516.2.1 bt516.2.2).bind fun t523 => (some t523))))) else (some false))) else (some false))))) else (some false)))))))) = some r := H
        have A51 := Aside0.mk A510
        clear A510
        replace H := Option.bind_eq_some_iff.mp H
        obtain ⟨⟨t415, t416⟩, A520, H⟩ := H
        replace H : ((impl_FrmTimes.f t370 t373 t376 (-1)).bind fun bt417 => ((impl_FrmTimes.f bt417.1 bt417.2.1 bt417.2.2 (-1)).bind fun bt424 => (if t414 = true then (if t416 = true then (if t413 = (wrap64 (t377 * t415)) then ((impl_FrmTimes.f t370 t373 t376 1).bind fun bt432 => ((laws_coForm.f kj8 bt432.1 bt432.2.1 bt432.2.2 t370 t373 t376).bind fun t439 => (if t439 = true then ((impl_FrmTimes.f t370 t373 t376 0).bind fun bt440 => ((impl_FrmZero.f).bind fun bt447 => ((laws_coForm.f kj8 bt440.1 bt440.2.1 bt440.2.2 bt447.1 bt447.2.1 bt447.2.2).bind fun t454 => (if t454 = true then ((laws_coForm.f kj8 bt424.1 bt424.2.1 bt424.2.2 t370 t373 t376).bind fun t455 => (if t455 = true then ((impl_FrmTimes.f t370 t373 t376 (-1)).bind fun bt456 => ((impl_FrmAdd.f t370 t373 t376 bt456.1 bt456.2.1 bt456.2.2).bind fun bt463 => ((impl_FrmZero.f).bind fun bt470 => ((laws_coForm.f kj8 bt463.1 bt463.2.1 bt463.2.2 bt470.1 bt470.2.1 bt470.2.2).bind fun t477 => (some t477))))) else (some false))) else (some false))))) else (some false)))) else (some false)) else (some false)) else ((impl_FrmTimes.f t370 t373 t376 1).bind fun bt478 => ((laws_coForm.f kj8 bt478.1 bt478.2.1 bt478.2.2 t370 t373 t376).bind fun t485 => (if t485 = true then ((impl_FrmTimes.f t370 t373 t376 0).bind fun bt486 => ((impl_FrmZero.f).bind fun bt493 => ((laws_coForm.f kj8 bt486.1 bt486.2.1 bt486.2.2 bt493.1 bt493.2.1 bt493.2.2).bind fun t500 => (if t500 = true then ((laws_coForm.f kj8 bt424.1 bt424.2.1 bt424.2.2 t370 t373 t376).bind fun t501 => (if t501 = true then ((impl_FrmTimes.f t370 t373 t376 (-1)).bind fun bt502 => ((impl_FrmAdd.f t370 t373 t376 bt502.1 bt502.2.1 bt502.2.2).bind fun bt509 => ((impl_FrmZero.f).bind fun bt516 => ((laws_coForm.f kj8 bt509.1 bt509.2.1 bt509.2.2 bt516.1 bt516.2.1 bt516.2.2).bind fun t523 => (some t523))))) else (some false))) else (some false))))) else (some false))))))) = some r := H
        have A52 := Aside0.mk A520
        clear A520
        replace H := Option.bind_eq_some_iff.mp H
        obtain ⟨⟨t417, t420, t423⟩, A530, H⟩ := H
        replace H : ((impl_FrmTimes.f t417 t420 t423 (-1)).bind fun bt424 => (if t414 = true then (if t416 = true then (if t413 = (wrap64 (t377 * t415)) then ((impl_FrmTimes.f t370 t373 t376 1).bind fun bt432 => ((laws_coForm.f kj8 bt432.1 bt432.2.1 bt432.2.2 t370 t373 t376).bind fun t439 => (if t439 = true then ((impl_FrmTimes.f t370 t373 t376 0).bind fun bt440 => ((impl_FrmZero.f).bind fun bt447 => ((laws_coForm.f kj8 bt440.1 bt440.2.1 bt440.2.2 bt447.1 bt447.2.1 bt447.2.2).bind fun t454 => (if t454 = true then ((laws_coForm.f kj8 bt424.1 bt424.2.1 bt424.2.2 t370 t373 t376).bind fun t455 => (if t455 = true then ((impl_FrmTimes.f t370 t373 t376 (-1)).bind fun bt456 => ((impl_FrmAdd.f t370 t373 t376 bt456.1 bt456.2.1 bt456.2.2).bind fun bt463 => ((impl_FrmZero.f).bind fun bt470 => ((laws_coForm.f kj8 bt463.1 bt463.2.1 bt463.2.2 bt470.1 bt470.2.1 bt470.2.2).bind fun t477 => (some t477))))) else (some false))) else (some false))))) else (some false)))) else (some false)) else (some false)) else ((impl_FrmTimes.f t370 t373 t376 1).bind fun bt478 => ((laws_coForm.f kj8 bt478.1 bt478.2.1 bt478.2.2 t370 t373 t376).bind fun t485 => (if t485 = true then ((impl_FrmTimes.f t370 t373 t376 0).bind fun bt486 => ((impl_FrmZero.f).bind fun bt493 => ((laws_coForm.f kj8 bt486.1 bt486.2.1 bt486.2.2 bt493.1 bt493.2.1 bt493.2.2).bind fun t500 => (if t500 = true then ((laws_coForm.f kj8 bt424.1 bt424.2.1 bt424.2.2 t370 t373 t376).bind fun t501 => (if t501 = true then ((impl_FrmTimes.f t370 t373 t376 (-1)).bind fun bt502 => ((impl_FrmAdd.f t370 t373 t376 bt502.1 bt502.2.1 bt502.2.2).bind fun bt509 => ((impl_FrmZero.f).bind fun bt516 => ((laws_coForm.f kj8 bt509.1 bt509.2.1 bt509.2.2 bt516.1 bt516.2.1 bt516.2.2).bind fun t523 => (some t523))))) else (some false))) else (some false))))) else (some false)))))) = some r := H
        have A53 := Aside0.mk A530
        clear A530
        replace H := Option.bind_eq_some_iff.mp H
        obtain ⟨⟨t424, t427, t430⟩, A540, H⟩ := H
        replace H : (if t414 = true then (if t416 = true then (if t413 = (wrap64 (t377 * t415)) then ((impl_FrmTimes.f t370 t373 t376 1).bind fun bt432 => ((laws_coForm.f kj8 bt432.1 bt432.2.1 bt432.2.2 t370 t373 t376).bind fun t439 => (if t439 = true then ((impl_FrmTimes.f t370 t373 t376 0).bind fun bt440 => ((impl_FrmZero.f).bind fun bt447 => ((laws_coForm.f kj8 bt440.1 bt440.2.1 bt440.2.2 bt447.1 bt447.2.1 bt447.2.2).bind fun t454 => (if t454 = true then ((laws_coForm.f kj8 t424 t427 t430 t370 t373 t376).bind fun t455 => (if t455 = true then ((impl_FrmTimes.f t370 t373 t376 (-1)).bind fun bt456 => ((impl_FrmAdd.f t370 t373 t376 bt456.1 bt456.2.1 bt456.2.2).bind fun bt463 => ((impl_FrmZero.f).bind fun bt470 => ((laws_coForm.f kj8 bt463.1 bt463.2.1 bt463.2.2 bt470.1 bt470.2.1 bt470.2.2).bind fun t477 => (some t477))))) else (some false))) else (some false))))) else (some false)))) else (some false)) else (some false)) else ((impl_FrmTimes.f t370 t373 t376 1).bind fun bt478 => ((laws_coForm.f kj8 bt478.1 bt478.2.1 bt478.2.2 t370 t373 t376).bind fun t485 => (if t485 = true then ((impl_FrmTimes.f t370 t373 t376 0).bind fun bt486 => ((impl_FrmZero.f).bind fun bt493 => ((laws_coForm.f kj8 bt486.1 bt486.2.1 bt486.2.2 bt493.1 bt493.2.1 bt493.2.2).bind fun t500 => (if t500 = true then ((laws_coForm.f kj8 t424 t427 t430 t370 t373 t376).bind fun t501 => (if t501 = true then ((impl_FrmTimes.f t370 t373 t376 (-1)).bind fun bt502 => ((impl_FrmAdd.f t370 t373 t376 bt502.1 bt502.2.1 bt502.2.2).bind fun bt509 => ((impl_FrmZero.f).bind fun bt516 => ((laws_coForm.f kj8 bt509.1 bt509.2.1 bt509.2.2 bt516.1 bt516.2.1 bt516.2.2).bind fun t523 => (some t523))))) else (some false))) else (some false))))) else (some false))))) = some r := H
        have A54 := Aside0.mk A540
        clear A540
        by_cases c55 : t414 = true
        ·subst c55
         have H1 : (if t416 = true then (if t413 = (wrap64 (t377 * t415)) then ((impl_FrmTimes.f t370 t373 t376 1).bind fun bt432 => ((laws_coForm.f kj8 bt432.1 bt432.2.1 bt432.2.2 t370 t373 t376).bind fun t439 => (if t439 = true then ((impl_FrmTimes.f t370 t373 t376 0).bind fun bt440 => ((impl_FrmZero.f).bind fun bt447 => ((laws_coForm.f kj8 bt440.1 bt440.2.1 bt440.2.2 bt447.1 bt447.2.1 bt447.2.2).bind fun t454 => (if t454 = true then ((laws_coForm.f kj8 t424 t427 t430 t370 t373 t376).bind fun t455 => (if t455 = true then ((impl_FrmTimes.f t370 t373 t376 (-1)).bind fun bt456 => ((impl_FrmAdd.f t370 t373 t376 bt456.1 bt456.2.1 bt456.2.2).bind fun bt463 => ((impl_FrmZero.f).bind fun bt470 => ((laws_coForm.f kj8 bt463.1 bt463.2.1 bt463.2.2 bt470.1 bt470.2.1 bt470.2.2).bind fun t477 => (some t477))))) else (some false))) else (some false))))) else (some false)))) else (some false)) else (some false)) = some r := by rw [if_pos rfl] at H; exact H
         clear H
         have H := H1
         clear H1
         by_cases c56 : t416 = true
         ·subst c56
          have H1 : (if t413 = (wrap64 (t377 * t415)) then ((impl_FrmTimes.f t370 t373 t376 1).bind fun bt432 => ((laws_coForm.f kj8 bt432.1 bt432.2.1 bt432.2.2 t370 t373 t376).bind fun t439 => (if t439 = true then ((impl_FrmTimes.f t370 t373 t376 0).bind fun bt440 => ((impl_FrmZero.f).bind fun bt447 => ((laws_coForm.f kj8 bt440.1 bt440.2.1 bt440.2.2 bt447.1 bt447.2.1 bt447.2.2).bind fun t454 => (if t454 = true then ((laws_coForm.f kj8 t424 t427 t430 t370 t373 t376).bind fun t455 => (if t455 = true then ((impl_FrmTimes.f t370 t373 t376 (-1)).bind fun bt456 => ((impl_FrmAdd.f t370 t373 t376 bt456.1 bt456.2.1 bt456.2.2).bind fun bt463 => ((impl_FrmZero.f).bind fun bt470 => ((laws_coForm.f kj8 bt463.1 bt463.2.1 bt463.2.2 bt470.1 bt470.2.1 bt470.2.2).bind fun t477 => (some t477))))) else (some false))) else (some false))))) else (some false)))) else (some false)) = some r := by rw [if_pos rfl] at H; exact H
          clear H
          have H := H1
          clear H1
          by_cases c57 : t413 = (wrap64 (t377 * t415))
          ·rw [if_pos c57] at H
           have c57b0 : (t413 == (wrap64 (t377 * t415))) = true := beq_iff_eq.mpr c57
           have c57b1 : (t413 != (wrap64 (t377 * t415))) = false := bne_eq_false_iff_eq.mpr c57
           clear c57
           replace H := Option.bind_eq_some_iff.mp H
           obtain ⟨⟨t432, t435, t438⟩, A580, H⟩ := H
           replace H : ((laws_coForm.f kj8 t432 t435 t438 t370 t373 t376).bind fun t439 => (if t439 = true then ((impl_FrmTimes.f t370 t373 t376 0).bind fun bt440 => ((impl_FrmZero.f).bind fun bt447 => ((laws_coForm.f kj8 bt440.1 bt440.2.1 bt440.2.2 bt447.1 bt447.2.1 bt447.2.2).bind fun t454 => (if t454 = true then ((laws_coForm.f kj8 t424 t427 t430 t370 t373 t376).bind fun t455 => (if t455 = true then ((impl_FrmTimes.f t370 t373 t376 (-1)).bind fun bt456 => ((impl_FrmAdd.f t370 t373 t376 bt456.1 bt456.2.1 bt456.2.2).bind fun bt463 => ((impl_FrmZero.f).bind fun bt470 => ((laws_coForm.f kj8 bt463.1 bt463.2.1 bt463.2.2 bt470.1 bt470.2.1 bt470.2.2).bind fun t477 => (some t477))))) else (some false))) else (some false))))) else (some false))) = some r := H
           have A58 := Aside0.mk A580
           clear A580
           replace H := Option.bind_eq_some_iff.mp H
           obtain ⟨t439, A590, H⟩ := H
           replace H : (if t439 = true then ((impl_FrmTimes.f t370 t373 t376 0).bind fun bt440 => ((impl_FrmZero.f).bind fun bt447 => ((laws_coForm.f kj8 bt440.1 bt440.2.1 bt440.2.2 bt447.1 bt447.2.1 bt447.2.2).bind fun t454 => (if t454 = true then ((laws_coForm.f kj8 t424 t427 t430 t370 t373 t376).bind fun t455 => (if t455 = true then ((impl_FrmTimes.f t370 t373 t376 (-1)).bind fun bt456 => ((impl_FrmAdd.f t370 t373 t376 bt456.1 bt456.2.1 bt456.2.2).bind fun bt463 => ((impl_FrmZero.f).bind fun bt470 => ((laws_coForm.f kj8 bt463.1 bt463.2.1 bt463.2.2 bt470.1 bt470.2.1 bt470.2.2).bind fun t477 => (some t477))))) else (some false))) else (some false))))) else (some false)) = some r := H
           have A59 := Aside0.mk A590
           clear A590
           by_cases c60 : t439 = true
           ·subst c60
            have H1 : ((impl_FrmTimes.f t370 t373 t376 0).bind fun bt440 => ((impl_FrmZero.f).bind fun bt447 => ((laws_coForm.f kj8 bt440.1 bt440.2.1 bt440.2.2 bt447.1 bt447.2.1 bt447.2.2).bind fun t454 => (if t454 = true then ((laws_coForm.f kj8 t424 t427 t430 t370 t373 t376).bind fun t455 => (if t455 = true then ((impl_FrmTimes.f t370 t373 t376 (-1)).bind fun bt456 => ((impl_FrmAdd.f t370 t373 t376 bt456.1 bt456.2.1 bt456.2.2).bind fun bt463 => ((impl_FrmZero.f).bind fun bt470 => ((laws_coForm.f kj8 bt463.1 bt463.2.1 bt463.2.2 bt470.1 bt470.2.1 bt470.2.2).bind fun t477 => (some t477))))) else (some false))) else (some false))))) = some r := by rw [if_pos rfl] at H; exact H
            clear H
            have H := H1
            clear H1
            replace H := Option.bind_eq_some_iff.mp H
            obtain ⟨⟨t440, t443, t446⟩, A610, H⟩ := H
            replace H : ((impl_FrmZero.f).bind fun bt447 => ((laws_coForm.f kj8 t440 t443 t446 bt447.1 bt447.2.1 bt447.2.2).bind fun t454 => (if t454 = true then ((laws_coForm.f kj8 t424 t427 t430 t370 t373 t376).bind fun t455 => (if t455 = true then ((impl_FrmTimes.f t370 t373 t376 (-1)).bind fun bt456 => ((impl_FrmAdd.f t370 t373 t376 bt456.1 bt456.2.1 bt456.2.2).bind fun bt463 => ((impl_FrmZero.f).bind fun bt470 => ((laws_coForm.f kj8 bt463.1 bt463.2.1 bt463.2.2 bt470.1 bt470.2.1 bt470.2.2).bind fun t477 => (some t477))))) else (some false))) else (some false)))) = some r := H
            have A61 := Aside0.mk A610
            clear A610
            replace H := Option.bind_eq_some_iff.mp H
            obtain ⟨⟨t447, t450, t453⟩, A620, H⟩ := H
            replace H : ((laws_coForm.f kj8 t440 t443 t446 t447 t450 t453).bind fun t454 => (if t454 = true then ((laws_coForm.f kj8 t424 t427 t430 t370 t373 t376).bind fun t455 => (if t455 = true then ((impl_FrmTimes.f t370 t373 t376 (-1)).bind fun bt456 => ((impl_FrmAdd.f t370 t373 t376 bt456.1 bt456.2.1 bt456.2.2).bind fun bt463 => ((impl_FrmZero.f).bind fun bt470 => ((laws_coForm.f kj8 bt463.1 bt463.2.1 bt463.2.2 bt470.1 bt470.2.1 bt470.2.2).bind fun t477 => (some t477))))) else (some false))) else (some false))) = some r := H
            have A62 := Aside0.mk A620
            clear A620
            replace H := Option.bind_eq_some_iff.mp H
            obtain ⟨t454, A630, H⟩ := H
            replace H : (if t454 = true then ((laws_coForm.f kj8 t424 t427 t430 t370 t373 t376).bind fun t455 => (if t455 = true then ((impl_FrmTimes.f t370 t373 t376 (-1)).bind fun bt456 => ((impl_FrmAdd.f t370 t373 t376 bt456.1 bt456.2.1 bt456.2.2).bind fun bt463 => ((impl_FrmZero.f).bind fun bt470 => ((laws_coForm.f kj8 bt463.1 bt463.2.1 bt463.2.2 bt470.1 bt470.2.1 bt470.2.2).bind fun t477 => (some t477))))) else (some false))) else (some false)) = some r := H
            have A63 := Aside0.mk A630
            clear A630
            by_cases c64 : t454 = true
            ·subst c64
             have H1 : ((laws_coForm.f kj8 t424 t427 t430 t370 t373 t376).bind fun t455 => (if t455 = true then ((impl_FrmTimes.f t370 t373 t376 (-1)).bind fun bt456 => ((impl_FrmAdd.f t370 t373 t376 bt456.1 bt456.2.1 bt456.2.2).bind fun bt463 => ((impl_FrmZero.f).bind fun bt470 => ((laws_coForm.f kj8 bt463.1 bt463.2.1 bt463.2.2 bt470.1 bt470.2.1 bt470.2.2).bind fun t477 => (some t477))))) else (some false))) = some r := by rw [if_pos rfl] at H; exact H
             clear H
             have H := H1
             clear H1
             replace H := Option.bind_eq_some_iff.mp H
             obtain ⟨t455, A650, H⟩ := H
             replace H : (if t455 = true then ((impl_FrmTimes.f t370 t373 t376 (-1)).bind fun bt456 => ((impl_FrmAdd.f t370 t373 t376 bt456.1 bt456.2.1 bt456.2.2).bind fun bt463 => ((impl_FrmZero.f).bind fun bt470 => ((laws_coForm.f kj8 bt463.1 bt463.2.1 bt463.2.2 bt470.1 bt470.2.1 bt470.2.2).bind fun t477 => (some t477))))) else (some false)) = some r := H
             have A65 := Aside0.mk A650
             clear A650
             by_cases c66 : t455 = true
             ·subst c66
              have H1 : ((impl_FrmTimes.f t370 t373 t376 (-1)).bind fun bt456 => ((impl_FrmAdd.f t370 t373 t376 bt456.1 bt456.2.1 bt456.2.2).bind fun bt463 => ((impl_FrmZero.f).bind fun bt470 => ((laws_coForm.f kj8 bt463.1 bt463.2.1 bt463.2.2 bt470.1 bt470.2.1 bt470.2.2).bind fun t477 => (some t477))))) = some r := by rw [if_pos rfl] at H; exact H
              clear H
              have H := H1
              clear H1
              replace H := Option.bind_eq_some_iff.mp H
              obtain ⟨⟨t456, t459, t462⟩, A670, H⟩ := H
              replace H : ((impl_FrmAdd.f t370 t373 t376 t456 t459 t462).bind fun bt463 => ((impl_FrmZero.f).bind fun bt470 => ((laws_coForm.f kj8 bt463.1 bt463.2.1 bt463.2.2 bt470.1 bt470.2.1 bt470.2.2).bind fun t477 => (some t477)))) = some r := H
              have A67 := Aside0.mk A670
              clear A670
              replace H := Option.bind_eq_some_iff.mp H
              obtain ⟨⟨t463, t466, t469⟩, A680, H⟩ := H
              replace H : ((impl_FrmZero.f).bind fun bt470 => ((laws_coForm.f kj8 t463 t466 t469 bt470.1 bt470.2.1 bt470.2.2).bind fun t477 => (some t477))) = some r := H
              have A68 := Aside0.mk A680
              clear A680
              replace H := Option.bind_eq_some_iff.mp H
              obtain ⟨⟨t470, t473, t476⟩, A690, H⟩ := H
              replace H : ((laws_coForm.f kj8 t463 t466 t469 t470 t473 t476).bind fun t477 => (some t477)) = some r := H
              have A69 := Aside0.mk A690
              clear A690
              replace H := Option.bind_eq_some_iff.mp H
              obtain ⟨t477, A700, H⟩ := H
              replace H : (some t477) = some r := H
              have A70 := Aside0.mk A700
              clear A700
              obtain rfl := Option.some.inj H
              have n_ := Aside0.mk (Kd.R_mono (ok' := fun k_ => (some k_ ≠ (v390 : Value).ownBlock ∧ (some k_ ≠ (.slice Ao12 t370.length co12 : Value).ownBlock ∧ (some k_ ≠ (.slice Ao14 t373.length co14 : Value).ownBlock ∧ (some k_ ≠ (.slice Ao24 t393.length co24 : Value).ownBlock ∧ some k_ ≠ (.slice Ao28 t396.length co28 : Value).ownBlock))))) HO_8.out (fun _ hk => ⟨hk.1, ⟨hk.2.1, ⟨hk.2.2.1, ⟨hk.2.2.2.2.2.1, hk.2.2.2.2.2.2⟩⟩⟩⟩))
              clear HO_8
              have HO_8 := n_
              clear n_
              have n_ := Aside0.mk (Kd.R_mono (ok' := fun k_ => (some k_ ≠ (v387 : Value).ownBlock ∧ (some k_ ≠ (.slice Ao12 t370.length co12 : Value).ownBlock ∧ (some k_ ≠ (.slice Ao14 t373.length co14 : Value).ownBlock ∧ (some k_ ≠ (.slice Ao24 t393.length co24 : Value).ownBlock ∧ some k_ ≠ (.slice Ao28 t396.length co28 : Value).ownBlock))))) HO_9.out (fun _ hk => ⟨hk.1, ⟨hk.2.1, ⟨hk.2.2.1, ⟨hk.2.2.2.2.2.1, hk.2.2.2.2.2.2⟩⟩⟩⟩))
              clear HO_9
              have HO_9 := n_
              clear n_
              have n_ := Aside0.mk (Kd.R_mono (ok' := fun k_ => (some k_ ≠ (v387 : Value).ownBlock ∧ (some k_ ≠ (v390 : Value).ownBlock ∧ (some k_ ≠ (.slice Ao14 t373.length co14 : Value).ownBlock ∧ (some k_ ≠ (.slice Ao24 t393.length co24 : Value).ownBlock ∧ some k_ ≠ (.slice Ao28 t396.length co28 : Value).ownBlock))))) HO_379000.out (fun _ hk => ⟨hk.1, ⟨hk.2.1, ⟨hk.2.2.1, ⟨hk.2.2.2.2.2.1, hk.2.2.2.2.2.2⟩⟩⟩⟩))
              clear HO_379000
              have HO_379000 := n_
              clear n_
              have n_ := Aside0.mk (Kd.R_mono (ok' := fun k_ => (some k_ ≠ (v387 : Value).ownBlock ∧ (some k_ ≠ (v390 : Value).ownBlock ∧ (some k_ ≠ (.slice Ao12 t370.length co12 : Value).ownBlock ∧ (some k_ ≠ (.slice Ao24 t393.length co24 : Value).ownBlock ∧ some k_ ≠ (.slice Ao28 t396.length co28 : Value).ownBlock))))) HO_379001.out (fun _ hk => ⟨hk.1, ⟨hk.2.1, ⟨hk.2.2.1, ⟨hk.2.2.2.2.2.1, hk.2.2.2.2.2.2⟩⟩⟩⟩))
              clear HO_379001
              have HO_379001 := n_
              clear n_
              have n_ := Aside0.mk (Kd.R_mono (ok' := fun k_ => (some k_ ≠ (v387 : Value).ownBlock ∧ (some k_ ≠ (v390 : Value).ownBlock ∧ (some k_ ≠ (.slice Ao12 t370.length co12 : Value).ownBlock ∧ (some k_ ≠ (.slice Ao14 t373.length co14 : Value).ownBlock ∧ some k_ ≠ (.slice Ao28 t396.length co28 : Value).ownBlock))))) HO_401000.out (fun _ hk => ⟨hk.1, ⟨hk.2.1, ⟨hk.2.2.1, ⟨hk.2.2.2.1, hk.2.2.2.2.2.2⟩⟩⟩⟩))
              clear HO_401000
              have HO_401000 := n_
              clear n_
              have n_ := Aside0.mk (Kd.R_mono (ok' := fun k_ => (some k_ ≠ (v387 : Value).ownBlock ∧ (some k_ ≠ (v390 : Value).ownBlock ∧ (some k_ ≠ (.slice Ao12 t370.length co12 : Value).ownBlock ∧ (some k_ ≠ (.slice Ao14 t373.length co14 : Value).ownBlock ∧ some k_ ≠ (.slice Ao24 t393.length co24 : Value).ownBlock))))) HO_401001.out (fun _ hk => ⟨hk.1, ⟨hk.2.1, ⟨hk.2.2.1, ⟨hk.2.2.2.1, hk.2.2.2.2.2.2⟩⟩⟩⟩))
              clear HO_401001
              have HO_401001 := n_
              clear n_
              have hnb71 := NB378_392.out
              have hnc71 := NB392_378.out
              have hnb72 := NB378_400.out
              have hnc72 := NB400_378.out
              obtain ⟨hcz73_0, hcz73_1, hcz73_2, hfz73_0, hfz73_1, hfz73_2⟩ := cf3 BK378.out
              try go_wp2_with (first | ((with_reducible refine gate_callee (f := 11) rfl ?_); refine goesL_ (some 52) rfl rfl Try.func11 (by kernel_rfl) rfl #[.agg #[.slice Ao12 t370.length co12, .slice Ao14 t373.length co14, .int .i64 t376]] rfl (by (try simp only [mA, mC, mN]); first | done | rfl | (simp only [ld, lt]; rfl)) ?_; (with_reducible refine (impl_FrmOk.calls _ _ t370 _ _ t373 t376 true _ ?side1 ?side2 ?side3 ?side4 A49.out).mono ?_); (case side1 => exact lC <| (Kd.R_reads' HO_379000.out).2.2); (case side2 => exact (Kd.R_reads' HO_379000.out).2.1); (case side3 => exact lC <| (Kd.R_reads' HO_379001.out).2.2); (case side4 => exact (Kd.R_reads' HO_379001.out).2.1); rintro e w74 ⟨rfl, hb⟩; refine ⟨_, rfl, ?_⟩; replace HO_8 := Aside0.mk (rb HO_8.out hb); replace HO_9 := Aside0.mk (rb HO_9.out hb); replace HO_379000 := Aside0.mk (rb HO_379000.out hb); replace HO_379001 := Aside0.mk (rb HO_379001.out hb); replace HO_401000 := Aside0.mk (rb HO_401000.out hb); replace HO_401001 := Aside0.mk (rb HO_401001.out hb); replace BK378 := Aside0.mk (bb BK378.out hb); replace BK392 := Aside0.mk (bb BK392.out hb); replace BK400 := Aside0.mk (bb BK400.out hb); replace HB := Aside0.mk (below_step (by exact jB HB.out) hb); (try clear hb); (try clear hb2); (try clear hk); (try clear hi); have hnb75 := NB400_392.out; have hnc75 := NB392_400.out; obtain ⟨hcz76_0, hcz76_1, hcz76_2, hfz76_0, hfz76_1, hfz76_2⟩ := cf3 BK400.out; obtain ⟨Ao77, co77, eo77⟩ := Kd.R_slice HO_8.out; subst eo77; obtain ⟨Ao78, co78, eo78⟩ := Kd.R_slice HO_9.out; subst eo78) | ((with_reducible refine gate_callee (f := 12) rfl ?_); refine goesL_ (some 65) rfl rfl Try.func12 (by kernel_rfl) rfl #[.agg #[.slice Ao24 t393.length co24, .slice Ao28 t396.length co28, .int .i64 t399], .slice Ao77 t386.length co77, .slice Ao78 t389.length co78] rfl (by (try simp only [mA, mC, mN]); first | done | rfl | (simp only [ld, lt]; rfl)) ?_; (with_reducible refine (impl_FrmAt.calls kj8 _ _ t393 _ _ t396 t399 _ _ t386 _ _ t389 t413 true _ ?side1 ?side2 ?side3 ?side4 ?side5 ?side6 ?side7 ?side8 A51.out).mono ?_); (case side1 => exact lC <| (Kd.R_reads' HO_401000.out).2.2); (case side2 => exact (Kd.R_reads' HO_401000.out).2.1); (case side3 => exact lC <| (Kd.R_reads' HO_401001.out).2.2); (case side4 => exact (Kd.R_reads' HO_401001.out).2.1); (case side5 => exact lC <| (Kd.R_reads' HO_8.out).2.2); (case side6 => exact (Kd.R_reads' HO_8.out).2.1); (case side7 => exact lC <| (Kd.R_reads' HO_9.out).2.2); (case side8 => exact (Kd.R_reads' HO_9.out).2.1); rintro e w79 ⟨rfl, hb⟩; refine ⟨_, rfl, ?_⟩; replace HO_8 := Aside0.mk (rb HO_8.out hb); replace HO_9 := Aside0.mk (rb HO_9.out hb); replace HO_379000 := Aside0.mk (rb HO_379000.out hb); replace HO_379001 := Aside0.mk (rb HO_379001.out hb); replace HO_401000 := Aside0.mk (rb HO_401000.out hb); replace HO_401001 := Aside0.mk (rb HO_401001.out hb); replace BK378 := Aside0.mk (bb BK378.out hb); replace BK392 := Aside0.mk (bb BK392.out hb); replace BK400 := Aside0.mk (bb BK400.out hb); replace HB := Aside0.mk (below_step (by exact jB HB.out) hb); (try clear hb); (try clear hb2); (try clear hk); (try clear hi); obtain ⟨hcz80_0, hcz80_1, hcz80_2, hfz80_0, hfz80_1, hfz80_2⟩ := cf3 BK378.out) | ((with_reducible refine gate_callee (f := 12) rfl ?_); refine goesL_ (some 72) rfl rfl Try.func12 (by kernel_rfl) rfl #[.agg #[.slice Ao12 t370.length co12, .slice Ao14 t373.length co14, .int .i64 t376], .slice Ao77 t386.length co77, .slice Ao78 t389.length co78] rfl (by (try simp only [mA, mC, mN]); first | done | rfl | (simp only [ld, lt]; rfl)) ?_; (with_reducible refine (impl_FrmAt.calls kj8 _ _ t370 _ _ t373 t376 _ _ t386 _ _ t389 t415 true _ ?side1 ?side2 ?side3 ?side4 ?side5 ?side6 ?side7 ?side8 A52.out).mono ?_); (case side1 => exact lC <| (Kd.R_reads' HO_379000.out).2.2); (case side2 => exact (Kd.R_reads' HO_379000.out).2.1); (case side3 => exact lC <| (Kd.R_reads' HO_379001.out).2.2); (case side4 => exact (Kd.R_reads' HO_379001.out).2.1); (case side5 => exact lC <| (Kd.R_reads' HO_8.out).2.2); (case side6 => exact (Kd.R_reads' HO_8.out).2.1); (case side7 => exact lC <| (Kd.R_reads' HO_9.out).2.2); (case side8 => exact (Kd.R_reads' HO_9.out).2.1); rintro e w81 ⟨rfl, hb⟩; refine ⟨_, rfl, ?_⟩; replace HO_8 := Aside0.mk (rb HO_8.out hb); replace HO_9 := Aside0.mk (rb HO_9.out hb); replace HO_379000 := Aside0.mk (rb HO_379000.out hb); replace HO_379001 := Aside0.mk (rb HO_379001.out hb); replace HO_401000 := Aside0.mk (rb HO_401000.out hb); replace HO_401001 := Aside0.mk (rb HO_401001.out hb); replace BK378 := Aside0.mk (bb BK378.out hb); replace BK392 := Aside0.mk (bb BK392.out hb); replace BK400 := Aside0.mk (bb BK400.out hb); replace HB := Aside0.mk (below_step (by exact jB HB.out) hb); (try clear hb); (try clear hb2); (try clear hk); (try clear hi); obtain ⟨hcz82_0, hcz82_1, hcz82_2, hfz82_0, hfz82_1, hfz82_2⟩ := cf3 BK378.out) | ((with_reducible refine gate_callee (f := 15) rfl ?_); refine goesL_ (some 76) rfl rfl Try.func15 (by kernel_rfl) rfl #[.agg #[.slice Ao12 t370.length co12, .slice Ao14 t373.length co14, .int .i64 t376], .int .i64 (-1)] rfl (by (try simp only [mA, mC, mN]); first | done | rfl | (simp only [ld, lt]; rfl)) ?_; (with_reducible refine (impl_FrmTimes.calls _ _ t370 _ _ t373 t376 (-1) t417 t420 t423 _ ?side1 ?side2 ?side3 ?side4 A53.out).mono ?_); (case side1 => exact lC <| (Kd.R_reads' HO_379000.out).2.2); (case side2 => exact (Kd.R_reads' HO_379000.out).2.1); (case side3 => exact lC <| (Kd.R_reads' HO_379001.out).2.2); (case side4 => exact (Kd.R_reads' HO_379001.out).2.1); rintro e w83 ⟨v418, v421, rfl, ho0, ho1, hb⟩; refine ⟨_, rfl, ?_⟩; have HO419 := Aside0.mk (Kd.R_lower (Kd.R_new' (Kd.R_new' (Kd.R_new' (Kd.R_new' (Kd.R_new' (Kd.R_new' ho0 (rl HO_8.out)) (rl HO_9.out)) (rl HO_379000.out)) (rl HO_379001.out)) (rl HO_401000.out)) (rl HO_401001.out)) (below_size (by exact jB HB.out))); have HO422 := Aside0.mk (Kd.R_lower (Kd.R_new' (Kd.R_new' (Kd.R_new' (Kd.R_new' (Kd.R_new' (Kd.R_new' ho1 (rl HO_8.out)) (rl HO_9.out)) (rl HO_379000.out)) (rl HO_379001.out)) (rl HO_401000.out)) (rl HO_401001.out)) (below_size (by exact jB HB.out))); replace HO_8 := Aside0.mk (o2 HO_8.out hb ho0 ho1); replace HO_9 := Aside0.mk (o2 HO_9.out hb ho0 ho1); replace HO_379000 := Aside0.mk (o2 HO_379000.out hb ho0 ho1); replace HO_379001 := Aside0.mk (o2 HO_379001.out hb ho0 ho1); replace HO_401000 := Aside0.mk (o2 HO_401000.out hb ho0 ho1); replace HO_401001 := Aside0.mk (o2 HO_401001.out hb ho0 ho1); replace BK378 := Aside0.mk (bb BK378.out hb); replace BK392 := Aside0.mk (bb BK392.out hb); replace BK400 := Aside0.mk (bb BK400.out hb); replace HB := Aside0.mk (below_step (by exact jB HB.out) hb); (try clear hb); (try clear hb2); (try clear hk); (try clear hi); (try clear ho0); (try clear ho1); obtain ⟨Ao84, co84, eo84⟩ := Kd.R_slice HO419.out; subst eo84; obtain ⟨Ao85, co85, eo85⟩ := Kd.R_slice HO422.out; subst eo85) | ((with_reducible refine gate_callee (f := 15) rfl ?_); refine goesL_ (some 77) rfl rfl Try.func15 (by kernel_rfl) rfl #[.agg #[.slice Ao84 t417.length co84, .slice Ao85 t420.length co85, .int .i64 t423], .int .i64 (-1)] rfl (by (try simp only [mA, mC, mN]); first | done | rfl | (simp only [ld, lt]; rfl)) ?_; (with_reducible refine (impl_FrmTimes.calls _ _ t417 _ _ t420 t423 (-1) t424 t427 t430 _ ?side1 ?side2 ?side3 ?side4 A54.out).mono ?_); (case side1 => exact lC <| (Kd.R_reads' HO419.out).2.2); (case side2 => exact (Kd.R_reads' HO419.out).2.1); (case side3 => exact lC <| (Kd.R_reads' HO422.out).2.2); (case side4 => exact (Kd.R_reads' HO422.out).2.1); rintro e w86 ⟨v425, v428, rfl, ho0, ho1, hb⟩; refine ⟨_, rfl, ?_⟩; have HO426 := Aside0.mk (Kd.R_lower (Kd.R_new' (Kd.R_new' (Kd.R_new' (Kd.R_new' (Kd.R_new' (Kd.R_new' (Kd.R_new' (Kd.R_new' ho0 (rl HO_8.out)) (rl HO_9.out)) (rl HO_379000.out)) (rl HO_379001.out)) (rl HO_401000.out)) (rl HO_401001.out)) (rl HO419.out)) (rl HO422.out)) (below_size (by exact jB HB.out))); have HO429 := Aside0.mk (Kd.R_lower (Kd.R_new' (Kd.R_new' (Kd.R_new' (Kd.R_new' (Kd.R_new' (Kd.R_new' (Kd.R_new' (Kd.R_new' ho1 (rl HO_8.out)) (rl HO_9.out)) (rl HO_379000.out)) (rl HO_379001.out)) (rl HO_401000.out)) (rl HO_401001.out)) (rl HO419.out)) (rl HO422.out)) (below_size (by exact jB HB.out))); replace HO_8 := Aside0.mk (o2 HO_8.out hb ho0 ho1); replace HO_9 := Aside0.mk (o2 HO_9.out hb ho0 ho1); replace HO_379000 := Aside0.mk (o2 HO_379000.out hb ho0 ho1); replace HO_379001 := Aside0.mk (o2 HO_379001.out hb ho0 ho1); replace HO_401000 := Aside0.mk (o2 HO_401000.out hb ho0 ho1); replace HO_401001 := Aside0.mk (o2 HO_401001.out hb ho0 ho1); replace HO419 := Aside0.mk (o2 HO419.out hb ho0 ho1); replace HO422 := Aside0.mk (o2 HO422.out hb ho0 ho1); replace BK378 := Aside0.mk (bb BK378.out hb); replace BK392 := Aside0.mk (bb BK392.out hb); replace BK400 := Aside0.mk (bb BK400.out hb); replace HB := Aside0.mk (below_step (by exact jB HB.out) hb); (try clear hb); (try clear hb2); (try clear hk); (try clear hi); (try clear ho0); (try clear ho1)) | ((with_reducible refine gate_dst (N := 15) rfl ?_); (try (refine gate_guard (by rfl) ?_; dsimp only)); refine box_event ?hg (N := 15) ?hd (cs := #[.slice none 0 0, .slice none 0 0, .int .i64 0]) (t := 25) ?hr ?_; (case hd => rfl); (case hg => rfl); (case hr => first | (go_simp; done) | (go_simp; rfl)); intro gb431 hg w87 hbox hb; replace HO_8 := Aside0.mk (rb HO_8.out hb); replace HO_9 := Aside0.mk (rb HO_9.out hb); replace HO_379000 := Aside0.mk (rb HO_379000.out hb); replace HO_379001 := Aside0.mk (rb HO_379001.out hb); replace HO_401000 := Aside0.mk (rb HO_401000.out hb); replace HO_401001 := Aside0.mk (rb HO_401001.out hb); replace HO419 := Aside0.mk (rb HO419.out hb); replace HO422 := Aside0.mk (rb HO422.out hb); replace HO426 := Aside0.mk (rb HO426.out hb); replace HO429 := Aside0.mk (rb HO429.out hb); have BK431 := Aside0.mk (hbox); have GW431 := Aside0.mk ((by rw [hg]; exact (below_size (by exact jB HB.out)) : w.heap.size ≤ gb431)); have IGW431 : Nonempty _ := ⟨GW431.out⟩; have GE431 := Aside0.mk ((by rw [hg]; exact (below_size (by exact jB HB.out)) : w.heap.size ≤ gb431)); have IGE431 : Nonempty _ := ⟨GE431.out⟩; replace HB := Aside0.mk (below_step (by exact jB HB.out) hb); have NB378_431 := Aside0.mk ((neL hg (lK BK378.out) : gb378 ≠ gb431)); have INB378_431 : Nonempty _ := ⟨NB378_431.out⟩; have NB431_378 := Aside0.mk ((neG hg (lK BK378.out) : gb431 ≠ gb378)); have INB431_378 : Nonempty _ := ⟨NB431_378.out⟩; replace BK378 := Aside0.mk (bb BK378.out hb); have NB392_431 := Aside0.mk ((neL hg (lK BK392.out) : gb392 ≠ gb431)); have INB392_431 : Nonempty _ := ⟨NB392_431.out⟩; have NB431_392 := Aside0.mk ((neG hg (lK BK392.out) : gb431 ≠ gb392)); have INB431_392 : Nonempty _ := ⟨NB431_392.out⟩; replace BK392 := Aside0.mk (bb BK392.out hb); have NB400_431 := Aside0.mk ((neL hg (lK BK400.out) : gb400 ≠ gb431)); have INB400_431 : Nonempty _ := ⟨NB400_431.out⟩; have NB431_400 := Aside0.mk ((neG hg (lK BK400.out) : gb431 ≠ gb400)); have INB431_400 : Nonempty _ := ⟨NB431_400.out⟩; replace BK400 := Aside0.mk (bb BK400.out hb); clear hb hbox hg; obtain ⟨Ao88, co88, eo88⟩ := Kd.R_slice HO426.out; subst eo88; have hnb89 := NB431_378.out; have hnc89 := NB378_431.out; have hnb90 := NB431_392.out; have hnc90 := NB392_431.out; have hnb91 := NB431_400.out; have hnc91 := NB400_431.out; obtain ⟨hcz92_0, hcz92_1, hcz92_2, hfz92_0, hfz92_1, hfz92_2⟩ := cf3 BK431.out; obtain ⟨Ao93, co93, eo93⟩ := Kd.R_slice HO429.out; subst eo93))
              have n0_ := Aside0.mk (Kd.R_mono (ok' := (fun k_ => some k_ ≠ (.slice Ao78 t389.length co78 : Value).ownBlock ∧ some k_ ≠ (.slice Ao12 t370.length co12 : Value).ownBlock ∧ some k_ ≠ (.slice Ao14 t373.length co14 : Value).ownBlock ∧ some k_ ≠ (.slice Ao24 t393.length co24 : Value).ownBlock ∧ some k_ ≠ (.slice Ao28 t396.length co28 : Value).ownBlock ∧ some k_ ≠ (.slice Ao84 t417.length co84 : Value).ownBlock ∧ some k_ ≠ (.slice Ao85 t420.length co85 : Value).ownBlock ∧ some k_ ≠ (.slice Ao88 t424.length co88 : Value).ownBlock ∧ some k_ ≠ (.slice Ao93 t427.length co93 : Value).ownBlock)) (R3 (w := w87) (x := (.slice Ao88 t424.length co88)) (y := (.slice Ao93 t427.length co93)) (z := (.int .i64 t430)) (lR HO_8.out) (lK BK431.out)) (fun _ hk => ⟨hk.1.1.1.1.1, ⟨hk.1.1.1.1.2.1, ⟨hk.1.1.1.1.2.2.1, ⟨hk.1.1.1.1.2.2.2.1, ⟨hk.1.1.1.1.2.2.2.2, ⟨hk.1.1.1.2, ⟨hk.1.1.2, ⟨hk.1.2, hk.2⟩⟩⟩⟩⟩⟩⟩⟩))
              have n1_ := Aside0.mk (Kd.R_mono (ok' := (fun k_ => some k_ ≠ (.slice Ao77 t386.length co77 : Value).ownBlock ∧ some k_ ≠ (.slice Ao12 t370.length co12 : Value).ownBlock ∧ some k_ ≠ (.slice Ao14 t373.length co14 : Value).ownBlock ∧ some k_ ≠ (.slice Ao24 t393.length co24 : Value).ownBlock ∧ some k_ ≠ (.slice Ao28 t396.length co28 : Value).ownBlock ∧ some k_ ≠ (.slice Ao84 t417.length co84 : Value).ownBlock ∧ some k_ ≠ (.slice Ao85 t420.length co85 : Value).ownBlock ∧ some k_ ≠ (.slice Ao88 t424.length co88 : Value).ownBlock ∧ some k_ ≠ (.slice Ao93 t427.length co93 : Value).ownBlock)) (R3 (w := w87) (x := (.slice Ao88 t424.length co88)) (y := (.slice Ao93 t427.length co93)) (z := (.int .i64 t430)) (lR HO_9.out) (lK BK431.out)) (fun _ hk => ⟨hk.1.1.1.1.1, ⟨hk.1.1.1.1.2.1, ⟨hk.1.1.1.1.2.2.1, ⟨hk.1.1.1.1.2.2.2.1, ⟨hk.1.1.1.1.2.2.2.2, ⟨hk.1.1.1.2, ⟨hk.1.1.2, ⟨hk.1.2, hk.2⟩⟩⟩⟩⟩⟩⟩⟩))
              have n2_ := Aside0.mk (Kd.R_mono (ok' := (fun k_ => some k_ ≠ (.slice Ao77 t386.length co77 : Value).ownBlock ∧ some k_ ≠ (.slice Ao78 t389.length co78 : Value).ownBlock ∧ some k_ ≠ (.slice Ao14 t373.length co14 : Value).ownBlock ∧ some k_ ≠ (.slice Ao24 t393.length co24 : Value).ownBlock ∧ some k_ ≠ (.slice Ao28 t396.length co28 : Value).ownBlock ∧ some k_ ≠ (.slice Ao84 t417.length co84 : Value).ownBlock ∧ some k_ ≠ (.slice Ao85 t420.length co85 : Value).ownBlock ∧ some k_ ≠ (.slice Ao88 t424.length co88 : Value).ownBlock ∧ some k_ ≠ (.slice Ao93 t427.length co93 : Value).ownBlock)) (R3 (w := w87) (x := (.slice Ao88 t424.length co88)) (y := (.slice Ao93 t427.length co93)) (z := (.int .i64 t430)) (lR HO_379000.out) (lK BK431.out)) (fun _ hk => ⟨hk.1.1.1.1.1, ⟨hk.1.1.1.1.2.1, ⟨hk.1.1.1.1.2.2.1, ⟨hk.1.1.1.1.2.2.2.1, ⟨hk.1.1.1.1.2.2.2.2, ⟨hk.1.1.1.2, ⟨hk.1.1.2, ⟨hk.1.2, hk.2⟩⟩⟩⟩⟩⟩⟩⟩))
              have n3_ := Aside0.mk (Kd.R_mono (ok' := (fun k_ => some k_ ≠ (.slice Ao77 t386.length co77 : Value).ownBlock ∧ some k_ ≠ (.slice Ao78 t389.length co78 : Value).ownBlock ∧ some k_ ≠ (.slice Ao12 t370.length co12 : Value).ownBlock ∧ some k_ ≠ (.slice Ao24 t393.length co24 : Value).ownBlock ∧ some k_ ≠ (.slice Ao28 t396.length co28 : Value).ownBlock ∧ some k_ ≠ (.slice Ao84 t417.length co84 : Value).ownBlock ∧ some k_ ≠ (.slice Ao85 t420.length co85 : Value).ownBlock ∧ some k_ ≠ (.slice Ao88 t424.length co88 : Value).ownBlock ∧ some k_ ≠ (.slice Ao93 t427.length co93 : Value).ownBlock)) (R3 (w := w87) (x := (.slice Ao88 t424.length co88)) (y := (.slice Ao93 t427.length co93)) (z := (.int .i64 t430)) (lR HO_379001.out) (lK BK431.out)) (fun _ hk => ⟨hk.1.1.1.1.1, ⟨hk.1.1.1.1.2.1, ⟨hk.1.1.1.1.2.2.1, ⟨hk.1.1.1.1.2.2.2.1, ⟨hk.1.1.1.1.2.2.2.2, ⟨hk.1.1.1.2, ⟨hk.1.1.2, ⟨hk.1.2, hk.2⟩⟩⟩⟩⟩⟩⟩⟩))
              have n4_ := Aside0.mk (Kd.R_mono (ok' := (fun k_ => some k_ ≠ (.slice Ao77 t386.length co77 : Value).ownBlock ∧ some k_ ≠ (.slice Ao78 t389.length co78 : Value).ownBlock ∧ some k_ ≠ (.slice Ao12 t370.length co12 : Value).ownBlock ∧ some k_ ≠ (.slice Ao14 t373.length co14 : Value).ownBlock ∧ some k_ ≠ (.slice Ao28 t396.length co28 : Value).ownBlock ∧ some k_ ≠ (.slice Ao84 t417.length co84 : Value).ownBlock ∧ some k_ ≠ (.slice Ao85 t420.length co85 : Value).ownBlock ∧ some k_ ≠ (.slice Ao88 t424.length co88 : Value).ownBlock ∧ some k_ ≠ (.slice Ao93 t427.length co93 : Value).ownBlock)) (R3 (w := w87) (x := (.slice Ao88 t424.length co88)) (y := (.slice Ao93 t427.length co93)) (z := (.int .i64 t430)) (lR HO_401000.out) (lK BK431.out)) (fun _ hk => ⟨hk.1.1.1.1.1, ⟨hk.1.1.1.1.2.1, ⟨hk.1.1.1.1.2.2.1, ⟨hk.1.1.1.1.2.2.2.1, ⟨hk.1.1.1.1.2.2.2.2, ⟨hk.1.1.1.2, ⟨hk.1.1.2, ⟨hk.1.2, hk.2⟩⟩⟩⟩⟩⟩⟩⟩))
              have n5_ := Aside0.mk (Kd.R_mono (ok' := (fun k_ => some k_ ≠ (.slice Ao77 t386.length co77 : Value).ownBlock ∧ some k_ ≠ (.slice Ao78 t389.length co78 : Value).ownBlock ∧ some k_ ≠ (.slice Ao12 t370.length co12 : Value).ownBlock ∧ some k_ ≠ (.slice Ao14 t373.length co14 : Value).ownBlock ∧ some k_ ≠ (.slice Ao24 t393.length co24 : Value).ownBlock ∧ some k_ ≠ (.slice Ao84 t417.length co84 : Value).ownBlock ∧ some k_ ≠ (.slice Ao85 t420.length co85 : Value).ownBlock ∧ some k_ ≠ (.slice Ao88 t424.length co88 : Value).ownBlock ∧ some k_ ≠ (.slice Ao93 t427.length co93 : Value).ownBlock)) (R3 (w := w87) (x := (.slice Ao88 t424.length co88)) (y := (.slice Ao93 t427.length co93)) (z := (.int .i64 t430)) (lR HO_401001.out) (lK BK431.out)) (fun _ hk => ⟨hk.1.1.1.1.1, ⟨hk.1.1.1.1.2.1, ⟨hk.1.1.1.1.2.2.1, ⟨hk.1.1.1.1.2.2.2.1, ⟨hk.1.1.1.1.2.2.2.2, ⟨hk.1.1.1.2, ⟨hk.1.1.2, ⟨hk.1.2, hk.2⟩⟩⟩⟩⟩⟩⟩⟩))
              have n6_ := Aside0.mk (Kd.R_mono (ok' := (fun k_ => some k_ ≠ (.slice Ao77 t386.length co77 : Value).ownBlock ∧ some k_ ≠ (.slice Ao78 t389.length co78 : Value).ownBlock ∧ some k_ ≠ (.slice Ao12 t370.length co12 : Value).ownBlock ∧ some k_ ≠ (.slice Ao14 t373.length co14 : Value).ownBlock ∧ some k_ ≠ (.slice Ao24 t393.length co24 : Value).ownBlock ∧ some k_ ≠ (.slice Ao28 t396.length co28 : Value).ownBlock ∧ some k_ ≠ (.slice Ao85 t420.length co85 : Value).ownBlock ∧ some k_ ≠ (.slice Ao88 t424.length co88 : Value).ownBlock ∧ some k_ ≠ (.slice Ao93 t427.length co93 : Value).ownBlock)) (R3 (w := w87) (x := (.slice Ao88 t424.length co88)) (y := (.slice Ao93 t427.length co93)) (z := (.int .i64 t430)) (lR HO419.out) (lK BK431.out)) (fun _ hk => ⟨hk.1.1.1.1.1.1.1.2, ⟨hk.1.1.1.1.1.1.2, ⟨hk.1.1.1.1.1.2, ⟨hk.1.1.1.1.2, ⟨hk.1.1.1.2, ⟨hk.1.1.2, ⟨hk.1.1.1.1.1.1.1.1, ⟨hk.1.2, hk.2⟩⟩⟩⟩⟩⟩⟩⟩))
              have n7_ := Aside0.mk (Kd.R_mono (ok' := (fun k_ => some k_ ≠ (.slice Ao77 t386.length co77 : Value).ownBlock ∧ some k_ ≠ (.slice Ao78 t389.length co78 : Value).ownBlock ∧ some k_ ≠ (.slice Ao12 t370.length co12 : Value).ownBlock ∧ some k_ ≠ (.slice Ao14 t373.length co14 : Value).ownBlock ∧ some k_ ≠ (.slice Ao24 t393.length co24 : Value).ownBlock ∧ some k_ ≠ (.slice Ao28 t396.length co28 : Value).ownBlock ∧ some k_ ≠ (.slice Ao84 t417.length co84 : Value).ownBlock ∧ some k_ ≠ (.slice Ao88 t424.length co88 : Value).ownBlock ∧ some k_ ≠ (.slice Ao93 t427.length co93 : Value).ownBlock)) (R3 (w := w87) (x := (.slice Ao88 t424.length co88)) (y := (.slice Ao93 t427.length co93)) (z := (.int .i64 t430)) (lR HO422.out) (lK BK431.out)) (fun _ hk => ⟨hk.1.1.1.1.1.1.1.2, ⟨hk.1.1.1.1.1.1.2, ⟨hk.1.1.1.1.1.2, ⟨hk.1.1.1.1.2, ⟨hk.1.1.1.2, ⟨hk.1.1.2, ⟨hk.1.1.1.1.1.1.1.1, ⟨hk.1.2, hk.2⟩⟩⟩⟩⟩⟩⟩⟩))
              have n8_ := Aside0.mk (Kd.R_mono (ok' := (fun k_ => some k_ ≠ (.slice Ao77 t386.length co77 : Value).ownBlock ∧ some k_ ≠ (.slice Ao78 t389.length co78 : Value).ownBlock ∧ some k_ ≠ (.slice Ao12 t370.length co12 : Value).ownBlock ∧ some k_ ≠ (.slice Ao14 t373.length co14 : Value).ownBlock ∧ some k_ ≠ (.slice Ao24 t393.length co24 : Value).ownBlock ∧ some k_ ≠ (.slice Ao28 t396.length co28 : Value).ownBlock ∧ some k_ ≠ (.slice Ao84 t417.length co84 : Value).ownBlock ∧ some k_ ≠ (.slice Ao85 t420.length co85 : Value).ownBlock ∧ some k_ ≠ (.slice Ao93 t427.length co93 : Value).ownBlock)) (R3 (w := w87) (x := (.slice Ao88 t424.length co88)) (y := (.slice Ao93 t427.length co93)) (z := (.int .i64 t430)) (lR HO426.out) (lK BK431.out)) (fun _ hk => ⟨hk.1.1.1.1.1.1.1.2, ⟨hk.1.1.1.1.1.1.2, ⟨hk.1.1.1.1.1.2, ⟨hk.1.1.1.1.2, ⟨hk.1.1.1.2, ⟨hk.1.1.2, ⟨hk.1.2, ⟨hk.2, hk.1.1.1.1.1.1.1.1⟩⟩⟩⟩⟩⟩⟩⟩))
              have n9_ := Aside0.mk (Kd.R_mono (ok' := (fun k_ => some k_ ≠ (.slice Ao77 t386.length co77 : Value).ownBlock ∧ some k_ ≠ (.slice Ao78 t389.length co78 : Value).ownBlock ∧ some k_ ≠ (.slice Ao12 t370.length co12 : Value).ownBlock ∧ some k_ ≠ (.slice Ao14 t373.length co14 : Value).ownBlock ∧ some k_ ≠ (.slice Ao24 t393.length co24 : Value).ownBlock ∧ some k_ ≠ (.slice Ao28 t396.length co28 : Value).ownBlock ∧ some k_ ≠ (.slice Ao84 t417.length co84 : Value).ownBlock ∧ some k_ ≠ (.slice Ao85 t420.length co85 : Value).ownBlock ∧ some k_ ≠ (.slice Ao88 t424.length co88 : Value).ownBlock)) (R3 (w := w87) (x := (.slice Ao88 t424.length co88)) (y := (.slice Ao93 t427.length co93)) (z := (.int .i64 t430)) (lR HO429.out) (lK BK431.out)) (fun _ hk => ⟨hk.1.1.1.1.1.1.1.2, ⟨hk.1.1.1.1.1.1.2, ⟨hk.1.1.1.1.1.2, ⟨hk.1.1.1.1.2, ⟨hk.1.1.1.2, ⟨hk.1.1.2, ⟨hk.1.2, ⟨hk.2, hk.1.1.1.1.1.1.1.1⟩⟩⟩⟩⟩⟩⟩⟩))
              have n10_ : Aside0 ((((w87.setCell ⟨gb431, 0, none⟩ (.slice Ao88 t424.length co88)).setCell ⟨gb431, 1, none⟩ (.slice Ao93 t427.length co93)).setCell ⟨gb431, 2, none⟩ (.int .i64 t430)).heap[gb378]? = some (.cells #[.slice Ao12 t370.length co12, .slice Ao14 t373.length co14, .int .i64 t376] 25 (0, 0))) := ⟨by (with_reducible repeat first | refine kN ?_ _ | refine kD ?_ | refine kA ?_ _); refine blk_far ?_ NB378_431.out _; (with_reducible repeat first | refine kN ?_ _ | refine kD ?_ | refine kA ?_ _); refine blk_far ?_ NB378_431.out _; (with_reducible repeat first | refine kN ?_ _ | refine kD ?_ | refine kA ?_ _); refine blk_far ?_ NB378_431.out _; exact lK <| BK378.out⟩
              have n11_ : Aside0 ((((w87.setCell ⟨gb431, 0, none⟩ (.slice Ao88 t424.length co88)).setCell ⟨gb431, 1, none⟩ (.slice Ao93 t427.length co93)).setCell ⟨gb431, 2, none⟩ (.int .i64 t430)).heap[gb392]? = some (.cells #[.slice Ao17 t379.length co17, .slice Ao20 t382.length co20, .int .i64 t385] 25 (0, 0))) := ⟨by (with_reducible repeat first | refine kN ?_ _ | refine kD ?_ | refine kA ?_ _); refine blk_far ?_ NB392_431.out _; (with_reducible repeat first | refine kN ?_ _ | refine kD ?_ | refine kA ?_ _); refine blk_far ?_ NB392_431.out _; (with_reducible repeat first | refine kN ?_ _ | refine kD ?_ | refine kA ?_ _); refine blk_far ?_ NB392_431.out _; exact lK <| BK392.out⟩
              have n12_ : Aside0 ((((w87.setCell ⟨gb431, 0, none⟩ (.slice Ao88 t424.length co88)).setCell ⟨gb431, 1, none⟩ (.slice Ao93 t427.length co93)).setCell ⟨gb431, 2, none⟩ (.int .i64 t430)).heap[gb400]? = some (.cells #[.slice Ao24 t393.length co24, .slice Ao28 t396.length co28, .int .i64 t399] 25 (0, 0))) := ⟨by (with_reducible repeat first | refine kN ?_ _ | refine kD ?_ | refine kA ?_ _); refine blk_far ?_ NB400_431.out _; (with_reducible repeat first | refine kN ?_ _ | refine kD ?_ | refine kA ?_ _); refine blk_far ?_ NB400_431.out _; (with_reducible repeat first | refine kN ?_ _ | refine kD ?_ | refine kA ?_ _); refine blk_far ?_ NB400_431.out _; exact lK <| BK400.out⟩
              have n13_ := Aside0.mk (p3 (w := w87) (x := (.slice Ao88 t424.length co88)) (y := (.slice Ao93 t427.length co93)) (z := (.int .i64 t430)) (lK BK431.out))
              have n14_ : Aside0 (Below w.heap.size w (((w87.setCell ⟨gb431, 0, none⟩ (.slice Ao88 t424.length co88)).setCell ⟨gb431, 1, none⟩ (.slice Ao93 t427.length co93)).setCell ⟨gb431, 2, none⟩ (.int .i64 t430))) := ⟨by exact jB HB.out⟩
              (try clear HO_8)
              (try clear HO_9)
              (try clear HO_379000)
              (try clear HO_379001)
              (try clear HO_401000)
              (try clear HO_401001)
              (try clear HO419)
              (try clear HO422)
              (try clear HO426)
              (try clear HO429)
              (try clear BK378)
              (try clear BK392)
              (try clear BK400)
              (try clear BK431)
              (try clear HB)
              generalize (((w87.setCell ⟨gb431, 0, none⟩ (.slice Ao88 t424.length co88)).setCell ⟨gb431, 1, none⟩ (.slice Ao93 t427.length co93)).setCell ⟨gb431, 2, none⟩ (.int .i64 t430)) = w94 at n0_ n1_ n2_ n3_ n4_ n5_ n6_ n7_ n8_ n9_ n10_ n11_ n12_ n13_ n14_ ⊢
              have HO_8 := n0_
              have HO_9 := n1_
              have HO_379000 := n2_
              have HO_379001 := n3_
              have HO_401000 := n4_
              have HO_401001 := n5_
              have HO419 := n6_
              have HO422 := n7_
              have HO426 := n8_
              have HO429 := n9_
              have BK378 := n10_
              have BK392 := n11_
              have BK400 := n12_
              have BK431 := n13_
              have HB := n14_
              clear n0_ n1_ n2_ n3_ n4_ n5_ n6_ n7_ n8_ n9_ n10_ n11_ n12_ n13_ n14_
              replace HO_8 := Aside0.mk (Kd.R_drew HO_8.out)
              replace HO_9 := Aside0.mk (Kd.R_drew HO_9.out)
              replace HO_379000 := Aside0.mk (Kd.R_drew HO_379000.out)
              replace HO_379001 := Aside0.mk (Kd.R_drew HO_379001.out)
              replace HO_401000 := Aside0.mk (Kd.R_drew HO_401000.out)
              replace HO_401001 := Aside0.mk (Kd.R_drew HO_401001.out)
              replace HO419 := Aside0.mk (Kd.R_drew HO419.out)
              replace HO422 := Aside0.mk (Kd.R_drew HO422.out)
              replace HO426 := Aside0.mk (Kd.R_drew HO426.out)
              replace HO429 := Aside0.mk (Kd.R_drew HO429.out)
              replace BK378 := Aside0.mk (blk_drew BK378.out)
              replace BK392 := Aside0.mk (blk_drew BK392.out)
              replace BK400 := Aside0.mk (blk_drew BK400.out)
              replace BK431 := Aside0.mk (blk_drew BK431.out)
              replace HB := Aside0.mk (below_drew1 HB.out)
              refine start_ (n := 38) (S := fun w' => w'.cell? ⟨gb378, 0, none⟩ = some (.slice Ao12 t370.length co12) ∧ w'.cell? ⟨gb378, 1, none⟩ = some (.slice Ao14 t373.length co14) ∧ w'.cell? ⟨gb378, 2, none⟩ = some (.int .i64 t376) ∧ w'.cell? ⟨gb431, 0, none⟩ = some (.slice Ao88 t424.length co88) ∧ w'.cell? ⟨gb431, 1, none⟩ = some (.slice Ao93 t427.length co93) ∧ w'.cell? ⟨gb431, 2, none⟩ = some (.int .i64 t430)) (ds := []) #[false, false, false, false, false, false, false, false, false, false, false, false, false, false, false, false, false, false, false, false, false, false, false, false, false, false, false, false, false, false, false, false, false, false, false, false, false, false] (by kernel_rfl) rfl rfl ⟨(blk_cell BK378.out 0).trans rfl, (blk_cell BK378.out 1).trans rfl, (blk_cell BK378.out 2).trans rfl, (blk_cell BK431.out 0).trans rfl, (blk_cell BK431.out 1).trans rfl, (blk_cell BK431.out 2).trans rfl⟩ (fun hHeld => ?_); refine with_tabW laws_FnFrmTimes.tab13 laws_FnFrmTimes.bits13 (fun HT_ HW_ => ?_)
              generalize w94.drew = w95 at HO_8 HO_9 HO_379000 HO_379001 HO_401000 HO_401001 HO419 HO422 HO426 HO429 BK378 BK392 BK400 BK431 HB hHeld ⊢
              refine pure_ (i := 0) (N := some 78) (v := ?_) (a' := ?_) #[true, false, false, false, false, false, false, false, false, false, false, false, false, false, false, false, false, false, false, false, false, false, false, false, false, false, false, false, false, false, false, false, false, false, false, false, false, false] rfl rfl (any_of HT_.out (by kernel_rfl)) (fun _ _ _ h => h) (Or.inl ⟨by rfl, ?_⟩) ?_ ?_
              rotate_left
              ·intro w'
               go_simp
               with_reducible rfl
              rotate_left
              ·simp only [Act.put, sA, s0, sS, i64_w, i32_w]
               rfl
              refine pure_ (i := 1) (N := some 79) (v := ?_) (a' := ?_) #[true, true, false, false, false, false, false, false, false, false, false, false, false, false, false, false, false, false, false, false, false, false, false, false, false, false, false, false, false, false, false, false, false, false, false, false, false, false] rfl rfl (any_of HT_.out (by kernel_rfl)) (fun _ _ _ h => h) (Or.inl ⟨by rfl, ?_⟩) ?_ ?_
              rotate_left
              ·intro w'
               go_simp
               with_reducible rfl
              rotate_left
              ·simp only [Act.put, sA, s0, sS, i64_w, i32_w]
               rfl
              refine pure_ (i := 2) (N := some 80) (v := ?_) (a' := ?_) #[true, true, true, false, false, false, false, false, false, false, false, false, false, false, false, false, false, false, false, false, false, false, false, false, false, false, false, false, false, false, false, false, false, false, false, false, false, false] rfl rfl (any_of HT_.out (by kernel_rfl)) (fun _ _ _ h => h) (Or.inl ⟨by rfl, ?_⟩) ?_ ?_
              rotate_left
              ·intro w'
               go_simp
               with_reducible rfl
              rotate_left
              ·simp only [Act.put, sA, s0, sS, i64_w, i32_w]
               rfl
              refine pure_ (i := 3) (N := some 81) (v := ?_) (a' := ?_) #[true, true, true, true, false, false, false, false, false, false, false, false, false, false, false, false, false, false, false, false, false, false, false, false, false, false, false, false, false, false, false, false, false, false, false, false, false, false] rfl rfl (any_of HT_.out (by kernel_rfl)) (fun _ _ _ h => h) (Or.inl ⟨by rfl, ?_⟩) ?_ ?_
              rotate_left
              ·intro w'
               go_simp
               with_reducible rfl
              rotate_left
              ·simp only [Act.put, sA, s0, sS, i64_w, i32_w]
               rfl
              refine pure_ (i := 4) (N := some 82) (v := ?_) (a' := ?_) #[true, true, true, true, true, false, false, false, false, false, false, false, false, false, false, false, false, false, false, false, false, false, false, false, false, false, false, false, false, false, false, false, false, false, false, false, false, false] rfl rfl (any_of HT_.out (by kernel_rfl)) (fun _ _ _ h => h) (Or.inl ⟨by rfl, ?_⟩) ?_ ?_
              rotate_left
              ·intro w'
               go_simp
               with_reducible rfl
              rotate_left
              ·simp only [Act.put, sA, s0, sS, i64_w, i32_w]
               rfl
              refine pure_ (i := 5) (N := some 83) (v := ?_) (a' := ?_) #[true, true, true, true, true, true, false, false, false, false, false, false, false, false, false, false, false, false, false, false, false, false, false, false, false, false, false, false, false, false, false, false, false, false, false, false, false, false] rfl rfl (any_of HT_.out (by kernel_rfl)) (fun _ _ _ h => h) (Or.inl ⟨by rfl, ?_⟩) ?_ ?_
              rotate_left
              ·intro w'
               go_simp
               with_reducible rfl
              rotate_left
              ·simp only [Act.put, sA, s0, sS, i64_w, i32_w]
               rfl
              refine pure_ (i := 6) (N := some 84) (v := ?_) (a' := ?_) #[true, true, true, true, true, true, true, false, false, false, false, false, false, false, false, false, false, false, false, false, false, false, false, false, false, false, false, false, false, false, false, false, false, false, false, false, false, false] rfl rfl (any_of HT_.out (by kernel_rfl)) (fun _ _ _ h => h) (Or.inl ⟨by rfl, ?_⟩) ?_ ?_
              rotate_left
              ·intro w'
               go_simp
               with_reducible rfl
              rotate_left
              ·simp only [Act.put, sA, s0, sS, i64_w, i32_w]
               rfl
              refine pure_ (i := 7) (N := some 85) (v := ?_) (a' := ?_) #[true, true, true, true, true, true, true, true, false, false, false, false, false, false, false, false, false, false, false, false, false, false, false, false, false, false, false, false, false, false, false, false, false, false, false, false, false, false] rfl rfl (any_of HT_.out (by kernel_rfl)) (fun _ _ _ h => h) (Or.inl ⟨by rfl, ?_⟩) ?_ ?_
              rotate_left
              ·intro w'
               go_simp
               with_reducible rfl
              rotate_left
              ·simp only [Act.put, sA, s0, sS, i64_w, i32_w]
               rfl
              refine pure_ (i := 8) (N := some 86) (v := ?_) (a' := ?_) #[true, true, true, true, true, true, true, true, true, false, false, false, false, false, false, false, false, false, false, false, false, false, false, false, false, false, false, false, false, false, false, false, false, false, false, false, false, false] rfl rfl (any_of HT_.out (by kernel_rfl)) (fun _ _ _ h => h) (Or.inl ⟨by rfl, ?_⟩) ?_ ?_
              rotate_left
              ·intro w'
               go_simp
               with_reducible rfl
              rotate_left
              ·simp only [Act.put, sA, s0, sS, i64_w, i32_w]
               rfl
              refine pure_ (i := 9) (N := some 87) (v := ?_) (a' := ?_) #[true, true, true, true, true, true, true, true, true, true, false, false, false, false, false, false, false, false, false, false, false, false, false, false, false, false, false, false, false, false, false, false, false, false, false, false, false, false] rfl rfl (any_of HT_.out (by kernel_rfl)) (fun _ _ _ h => h) (Or.inl ⟨by rfl, ?_⟩) ?_ ?_
              rotate_left
              ·intro w'
               go_simp
               with_reducible rfl
              rotate_left
              ·simp only [Act.put, sA, s0, sS, i64_w, i32_w]
               rfl
              refine pure_ (i := 10) (N := some 88) (v := ?_) (a' := ?_) #[true, true, true, true, true, true, true, true, true, true, true, false, false, false, false, false, false, false, false, false, false, false, false, false, false, false, false, false, false, false, false, false, false, false, false, false, false, false] rfl rfl (any_of HT_.out (by kernel_rfl)) (fun _ _ _ h => h) (Or.inl ⟨by rfl, ?_⟩) ?_ ?_
              rotate_left
              ·intro w'
               go_simp
               with_reducible rfl
              rotate_left
              ·simp only [Act.put, sA, s0, sS, i64_w, i32_w]
               rfl
              refine pure_ (i := 11) (N := some 89) (v := ?_) (a' := ?_) #[true, true, true, true, true, true, true, true, true, true, true, true, false, false, false, false, false, false, false, false, false, false, false, false, false, false, false, false, false, false, false, false, false, false, false, false, false, false] rfl rfl (any_of HT_.out (by kernel_rfl)) (fun _ _ _ h => h) (Or.inl ⟨by rfl, ?_⟩) ?_ ?_
              rotate_left
              ·intro w'
               go_simp
               with_reducible rfl
              rotate_left
              ·simp only [Act.put, sA, s0, sS, i64_w, i32_w]
               rfl
              refine pure_ (i := 12) (N := some 90) (v := ?_) (a' := ?_) #[true, true, true, true, true, true, true, true, true, true, true, true, true, false, false, false, false, false, false, false, false, false, false, false, false, false, false, false, false, false, false, false, false, false, false, false, false, false] rfl rfl (any_of HT_.out (by kernel_rfl)) (fun _ _ _ h => h) (Or.inl ⟨by rfl, ?_⟩) ?_ ?_
              rotate_left
              ·intro w'
               go_simp
               with_reducible rfl
              rotate_left
              ·simp only [Act.put, sA, s0, sS, i64_w, i32_w]
               rfl
              refine take_ (i := 13) (N := some 91) (v := ?_) (a' := ?_) #[true, true, true, true, true, true, true, true, true, true, true, true, true, true, false, false, false, false, false, false, false, false, false, false, false, false, false, false, false, false, false, false, false, false, false, false, false, false] rfl rfl (take_ofW HT_.out HW_.out (by kernel_rfl)) (fun _ _ _ h => h) (Or.inl ⟨by rfl, ?_⟩) hHeld ?_ ?_
              rotate_left
              ·rintro w' ⟨s0, s1, s2, s3, s4, s5⟩
               go_simp
               with_reducible rfl
              rotate_left
              ·simp only [Act.put, sA, s0, sS, i64_w, i32_w]
               rfl
              refine take_ (i := 15) (N := some 93) (v := ?_) (a' := ?_) #[true, true, true, true, true, true, true, true, true, true, true, true, true, true, false, true, false, false, false, false, false, false, false, false, false, false, false, false, false, false, false, false, false, false, false, false, false, false] rfl rfl (take_ofW HT_.out HW_.out (by kernel_rfl)) (fun _ _ _ h => h) (Or.inl ⟨by rfl, ?_⟩) hHeld ?_ ?_
              rotate_left
              ·rintro w' ⟨s0, s1, s2, s3, s4, s5⟩
               go_simp
               with_reducible rfl
              rotate_left
              ·simp only [Act.put, sA, s0, sS, i64_w, i32_w]
               rfl
              refine one_ (i := 14) (N := some 92) #[true, true, true, true, true, true, true, true, true, true, true, true, true, true, true, true, false, false, false, false, false, false, false, false, false, false, false, false, false, false, false, false, false, false, false, false, false, false] rfl rfl (one_of HT_.out (by kernel_rfl)) (by decide) (fun K hK => ?_)
              refine goes_ Try.func15 (by kernel_rfl) rfl #[.agg #[.slice Ao12 t370.length co12, .slice Ao14 t373.length co14, .int .i64 t376], .int .i64 1] (by rfl) rfl rfl (by (try simp only [mA, mC, mN]); first | done | rfl | (simp only [ld, lt]; rfl)) ?_
              with_reducible refine (impl_FrmTimes.calls _ _ t370 _ _ t373 t376 1 t432 t435 t438 _ ?side1 ?side2 ?side3 ?side4 A58.out).mono ?_
              (case side1 => exact lC <| (Kd.R_reads' HO_379000.out).2.2)
              (case side2 => exact (Kd.R_reads' HO_379000.out).2.1)
              (case side3 => exact lC <| (Kd.R_reads' HO_379001.out).2.2)
              (case side4 => exact (Kd.R_reads' HO_379001.out).2.1)
              rintro e w96 ⟨v433, v436, rfl, ho0, ho1, hb⟩
              refine ⟨_, rfl, ?_⟩
              have HO434 := Aside0.mk (Kd.R_lower (Kd.R_new' (Kd.R_new' (Kd.R_new' (Kd.R_new' (Kd.R_new' (Kd.R_new' (Kd.R_new' (Kd.R_new' (Kd.R_new' (Kd.R_new' ho0 (rl HO_8.out)) (rl HO_9.out)) (rl HO_379000.out)) (rl HO_379001.out)) (rl HO_401000.out)) (rl HO_401001.out)) (rl HO419.out)) (rl HO422.out)) (rl HO426.out)) (rl HO429.out)) (below_size (by exact jB HB.out)))
              have HO437 := Aside0.mk (Kd.R_lower (Kd.R_new' (Kd.R_new' (Kd.R_new' (Kd.R_new' (Kd.R_new' (Kd.R_new' (Kd.R_new' (Kd.R_new' (Kd.R_new' (Kd.R_new' ho1 (rl HO_8.out)) (rl HO_9.out)) (rl HO_379000.out)) (rl HO_379001.out)) (rl HO_401000.out)) (rl HO_401001.out)) (rl HO419.out)) (rl HO422.out)) (rl HO426.out)) (rl HO429.out)) (below_size (by exact jB HB.out)))
              replace HO_8 := Aside0.mk (o2 HO_8.out hb ho0 ho1)
              replace HO_9 := Aside0.mk (o2 HO_9.out hb ho0 ho1)
              replace HO_379000 := Aside0.mk (o2 HO_379000.out hb ho0 ho1)
              replace HO_379001 := Aside0.mk (o2 HO_379001.out hb ho0 ho1)
              replace HO_401000 := Aside0.mk (o2 HO_401000.out hb ho0 ho1)
              replace HO_401001 := Aside0.mk (o2 HO_401001.out hb ho0 ho1)
              replace HO419 := Aside0.mk (o2 HO419.out hb ho0 ho1)
              replace HO422 := Aside0.mk (o2 HO422.out hb ho0 ho1)
              replace HO426 := Aside0.mk (o2 HO426.out hb ho0 ho1)
              replace HO429 := Aside0.mk (o2 HO429.out hb ho0 ho1)
              replace BK378 := Aside0.mk (bb BK378.out hb)
              replace BK392 := Aside0.mk (bb BK392.out hb)
              replace BK400 := Aside0.mk (bb BK400.out hb)
              replace BK431 := Aside0.mk (bb BK431.out hb)
              replace HB := Aside0.mk (below_step (by exact jB HB.out) hb)
              (try clear hb)
              (try clear hb2)
              (try clear hk)
              (try clear hi)
              (try clear ho0)
              (try clear ho1)
              obtain ⟨Ao97, co97, eo97⟩ := Kd.R_slice HO434.out
              (first | subst eo97 | (injection eo97 with f1_ f2_ f3_; have f4_ := f1_.symm; have f5_ := f3_.symm; clear f1_ f2_ f3_; subst f4_; subst f5_))
              obtain ⟨Ao98, co98, eo98⟩ := Kd.R_slice HO437.out
              (first | subst eo98 | (injection eo98 with f1_ f2_ f3_; have f4_ := f1_.symm; have f5_ := f3_.symm; clear f1_ f2_ f3_; subst f4_; subst f5_))
              refine hK.out _ _ ⟨(blk_cell BK378.out 0).trans rfl, (blk_cell BK378.out 1).trans rfl, (blk_cell BK378.out 2).trans rfl, (blk_cell BK431.out 0).trans rfl, (blk_cell BK431.out 1).trans rfl, (blk_cell BK431.out 2).trans rfl⟩ (fun hHeld => ?_)
              clear hK K
              refine norm_ (a' := ?_) ?_ ?_
              rotate_left
              ·show Act.put _ (some 92) _ = _
               simp only [Act.put, sA, s0, sS, i64_w, i32_w]
               rfl
              refine one_ (i := 16) (N := some 94) #[true, true, true, true, true, true, true, true, true, true, true, true, true, true, true, true, true, false, false, false, false, false, false, false, false, false, false, false, false, false, false, false, false, false, false, false, false, false] rfl rfl (one_of HT_.out (by kernel_rfl)) (by decide) (fun K hK => ?_)
              refine goes_ Try.func8 (by kernel_rfl) rfl #[.agg #[.slice Ao97 t432.length co97, .slice Ao98 t435.length co98, .int .i64 t438], .agg #[.slice Ao12 t370.length co12, .slice Ao14 t373.length co14, .int .i64 t376]] (by rfl) rfl rfl (by (try simp only [mA, mC, mN]); first | done | rfl | (simp only [ld, lt]; rfl)) ?_
              with_reducible refine (laws_coForm.calls kj8 _ _ t432 _ _ t435 t438 _ _ t370 _ _ t373 t376 true _ ?side1 ?side2 ?side3 ?side4 ?side5 ?side6 ?side7 ?side8 A59.out).mono ?_
              (case side1 => exact lC <| (Kd.R_reads' HO434.out).2.2)
              (case side2 => exact (Kd.R_reads' HO434.out).2.1)
              (case side3 => exact lC <| (Kd.R_reads' HO437.out).2.2)
              (case side4 => exact (Kd.R_reads' HO437.out).2.1)
              (case side5 => exact lC <| (Kd.R_reads' HO_379000.out).2.2)
              (case side6 => exact (Kd.R_reads' HO_379000.out).2.1)
              (case side7 => exact lC <| (Kd.R_reads' HO_379001.out).2.2)
              (case side8 => exact (Kd.R_reads' HO_379001.out).2.1)
              rintro e w99 ⟨rfl, hb⟩
              refine ⟨_, rfl, ?_⟩
              replace HO_8 := Aside0.mk (rb HO_8.out hb)
              replace HO_9 := Aside0.mk (rb HO_9.out hb)
              replace HO_379000 := Aside0.mk (rb HO_379000.out hb)
              replace HO_379001 := Aside0.mk (rb HO_379001.out hb)
              replace HO_401000 := Aside0.mk (rb HO_401000.out hb)
              replace HO_401001 := Aside0.mk (rb HO_401001.out hb)
              replace HO419 := Aside0.mk (rb HO419.out hb)
              replace HO422 := Aside0.mk (rb HO422.out hb)
              replace HO426 := Aside0.mk (rb HO426.out hb)
              replace HO429 := Aside0.mk (rb HO429.out hb)
              replace HO434 := Aside0.mk (rb HO434.out hb)
              replace HO437 := Aside0.mk (rb HO437.out hb)
              replace BK378 := Aside0.mk (bb BK378.out hb)
              replace BK392 := Aside0.mk (bb BK392.out hb)
              replace BK400 := Aside0.mk (bb BK400.out hb)
              replace BK431 := Aside0.mk (bb BK431.out hb)
              replace HB := Aside0.mk (below_step (by exact jB HB.out) hb)
              (try clear hb)
              (try clear hb2)
              (try clear hk)
              (try clear hi)
              refine hK.out _ _ ⟨(blk_cell BK378.out 0).trans rfl, (blk_cell BK378.out 1).trans rfl, (blk_cell BK378.out 2).trans rfl, (blk_cell BK431.out 0).trans rfl, (blk_cell BK431.out 1).trans rfl, (blk_cell BK431.out 2).trans rfl⟩ (fun hHeld => ?_)
              clear hK K
              refine norm_ (a' := ?_) ?_ ?_
              rotate_left
              ·show Act.put _ (some 94) _ = _
               simp only [Act.put, sA, s0, sS, i64_w, i32_w]
               rfl
              refine pure_ (i := 17) (N := some 95) (v := ?_) (a' := ?_) #[true, true, true, true, true, true, true, true, true, true, true, true, true, true, true, true, true, true, false, false, false, false, false, false, false, false, false, false, false, false, false, false, false, false, false, false, false, false] rfl rfl (any_of HT_.out (by kernel_rfl)) (fun _ _ _ h => h) (Or.inl ⟨by rfl, ?_⟩) ?_ ?_
              rotate_left
              ·intro w'
               go_simp
               with_reducible rfl
              rotate_left
              ·simp only [Act.put, sA, s0, sS, i64_w, i32_w]
               rfl
              refine pure_ (i := 18) (N := some 96) (v := ?_) (a' := ?_) #[true, true, true, true, true, true, true, true, true, true, true, true, true, true, true, true, true, true, true, false, false, false, false, false, false, false, false, false, false, false, false, false, false, false, false, false, false, false] rfl rfl (any_of HT_.out (by kernel_rfl)) (fun _ _ _ h => h) (Or.inl ⟨by rfl, ?_⟩) ?_ ?_
              rotate_left
              ·intro w'
               go_simp
               with_reducible rfl
              rotate_left
              ·simp only [Act.put, sA, s0, sS, i64_w, i32_w]
               rfl
              refine take_ (i := 19) (N := some 97) (v := ?_) (a' := ?_) #[true, true, true, true, true, true, true, true, true, true, true, true, true, true, true, true, true, true, true, true, false, false, false, false, false, false, false, false, false, false, false, false, false, false, false, false, false, false] rfl rfl (take_ofW HT_.out HW_.out (by kernel_rfl)) (fun _ _ _ h => h) (Or.inl ⟨by rfl, ?_⟩) hHeld ?_ ?_
              rotate_left
              ·rintro w' ⟨s0, s1, s2, s3, s4, s5⟩
               go_simp
               with_reducible rfl
              rotate_left
              ·simp only [Act.put, sA, s0, sS, i64_w, i32_w]
               rfl
              refine one_ (i := 20) (N := some 98) #[true, true, true, true, true, true, true, true, true, true, true, true, true, true, true, true, true, true, true, true, true, false, false, false, false, false, false, false, false, false, false, false, false, false, false, false, false, false] rfl rfl (one_of HT_.out (by kernel_rfl)) (by decide) (fun K hK => ?_)
              refine goes_ Try.func15 (by kernel_rfl) rfl #[.agg #[.slice Ao12 t370.length co12, .slice Ao14 t373.length co14, .int .i64 t376], .int .i64 0] (by rfl) rfl rfl (by (try simp only [mA, mC, mN]); first | done | rfl | (simp only [ld, lt]; rfl)) ?_
              with_reducible refine (impl_FrmTimes.calls _ _ t370 _ _ t373 t376 0 t440 t443 t446 _ ?side1 ?side2 ?side3 ?side4 A61.out).mono ?_
              (case side1 => exact lC <| (Kd.R_reads' HO_379000.out).2.2)
              (case side2 => exact (Kd.R_reads' HO_379000.out).2.1)
              (case side3 => exact lC <| (Kd.R_reads' HO_379001.out).2.2)
              (case side4 => exact (Kd.R_reads' HO_379001.out).2.1)
              rintro e w100 ⟨v441, v444, rfl, ho0, ho1, hb⟩
              refine ⟨_, rfl, ?_⟩
              have HO442 := Aside0.mk (Kd.R_lower (Kd.R_new' (Kd.R_new' (Kd.R_new' (Kd.R_new' (Kd.R_new' (Kd.R_new' (Kd.R_new' (Kd.R_new' (Kd.R_new' (Kd.R_new' (Kd.R_new' (Kd.R_new' ho0 (rl HO_8.out)) (rl HO_9.out)) (rl HO_379000.out)) (rl HO_379001.out)) (rl HO_401000.out)) (rl HO_401001.out)) (rl HO419.out)) (rl HO422.out)) (rl HO426.out)) (rl HO429.out)) (rl HO434.out)) (rl HO437.out)) (below_size (by exact jB HB.out)))
              have HO445 := Aside0.mk (Kd.R_lower (Kd.R_new' (Kd.R_new' (Kd.R_new' (Kd.R_new' (Kd.R_new' (Kd.R_new' (Kd.R_new' (Kd.R_new' (Kd.R_new' (Kd.R_new' (Kd.R_new' (Kd.R_new' ho1 (rl HO_8.out)) (rl HO_9.out)) (rl HO_379000.out)) (rl HO_379001.out)) (rl HO_401000.out)) (rl HO_401001.out)) (rl HO419.out)) (rl HO422.out)) (rl HO426.out)) (rl HO429.out)) (rl HO434.out)) (rl HO437.out)) (below_size (by exact jB HB.out)))
              replace HO_8 := Aside0.mk (o2 HO_8.out hb ho0 ho1)
              replace HO_9 := Aside0.mk (o2 HO_9.out hb ho0 ho1)
              replace HO_379000 := Aside0.mk (o2 HO_379000.out hb ho0 ho1)
              replace HO_379001 := Aside0.mk (o2 HO_379001.out hb ho0 ho1)
              replace HO_401000 := Aside0.mk (o2 HO_401000.out hb ho0 ho1)
              replace HO_401001 := Aside0.mk (o2 HO_401001.out hb ho0 ho1)
              replace HO419 := Aside0.mk (o2 HO419.out hb ho0 ho1)
              replace HO422 := Aside0.mk (o2 HO422.out hb ho0 ho1)
              replace HO426 := Aside0.mk (o2 HO426.out hb ho0 ho1)
              replace HO429 := Aside0.mk (o2 HO429.out hb ho0 ho1)
              replace HO434 := Aside0.mk (o2 HO434.out hb ho0 ho1)
              replace HO437 := Aside0.mk (o2 HO437.out hb ho0 ho1)
              replace BK378 := Aside0.mk (bb BK378.out hb)
              replace BK392 := Aside0.mk (bb BK392.out hb)
              replace BK400 := Aside0.mk (bb BK400.out hb)
              replace BK431 := Aside0.mk (bb BK431.out hb)
              replace HB := Aside0.mk (below_step (by exact jB HB.out) hb)
              (try clear hb)
              (try clear hb2)
              (try clear hk)
              (try clear hi)
              (try clear ho0)
              (try clear ho1)
              refine hK.out _ _ ⟨(blk_cell BK378.out 0).trans rfl, (blk_cell BK378.out 1).trans rfl, (blk_cell BK378.out 2).trans rfl, (blk_cell BK431.out 0).trans rfl, (blk_cell BK431.out 1).trans rfl, (blk_cell BK431.out 2).trans rfl⟩ (fun hHeld => ?_)
              clear hK K
              refine norm_ (a' := ?_) ?_ ?_
              rotate_left
              ·show Act.put _ (some 98) _ = _
               simp only [Act.put, sA, s0, sS, i64_w, i32_w]
               rfl
              refine one_ (i := 21) (N := some 99) #[true, true, true, true, true, true, true, true, true, true, true, true, true, true, true, true, true, true, true, true, true, true, false, false, false, false, false, false, false, false, false, false, false, false, false, false, false, false] rfl rfl (one_of HT_.out (by kernel_rfl)) (by decide) (fun K hK => ?_)
              refine goes_ Try.func18 (by kernel_rfl) rfl #[] (by rfl) rfl rfl (by (try simp only [mA, mC, mN]); first | done | rfl | (simp only [ld, lt]; rfl)) ?_
              with_reducible refine (impl_FrmZero.calls  t447 t450 t453 _ A62.out).mono ?_
              rintro e w101 ⟨v448, v451, rfl, ho0, ho1, hb⟩
              refine ⟨_, rfl, ?_⟩
              have HO449 := Aside0.mk (Kd.R_lower (Kd.R_new' (Kd.R_new' (Kd.R_new' (Kd.R_new' (Kd.R_new' (Kd.R_new' (Kd.R_new' (Kd.R_new' (Kd.R_new' (Kd.R_new' (Kd.R_new' (Kd.R_new' (Kd.R_new' (Kd.R_new' ho0 (rl HO_8.out)) (rl HO_9.out)) (rl HO_379000.out)) (rl HO_379001.out)) (rl HO_401000.out)) (rl HO_401001.out)) (rl HO419.out)) (rl HO422.out)) (rl HO426.out)) (rl HO429.out)) (rl HO434.out)) (rl HO437.out)) (rl HO442.out)) (rl HO445.out)) (below_size (by exact jB HB.out)))
              have HO452 := Aside0.mk (Kd.R_lower (Kd.R_new' (Kd.R_new' (Kd.R_new' (Kd.R_new' (Kd.R_new' (Kd.R_new' (Kd.R_new' (Kd.R_new' (Kd.R_new' (Kd.R_new' (Kd.R_new' (Kd.R_new' (Kd.R_new' (Kd.R_new' ho1 (rl HO_8.out)) (rl HO_9.out)) (rl HO_379000.out)) (rl HO_379001.out)) (rl HO_401000.out)) (rl HO_401001.out)) (rl HO419.out)) (rl HO422.out)) (rl HO426.out)) (rl HO429.out)) (rl HO434.out)) (rl HO437.out)) (rl HO442.out)) (rl HO445.out)) (below_size (by exact jB HB.out)))
              replace HO_8 := Aside0.mk (o2 HO_8.out hb ho0 ho1)
              replace HO_9 := Aside0.mk (o2 HO_9.out hb ho0 ho1)
              replace HO_379000 := Aside0.mk (o2 HO_379000.out hb ho0 ho1)
              replace HO_379001 := Aside0.mk (o2 HO_379001.out hb ho0 ho1)
              replace HO_401000 := Aside0.mk (o2 HO_401000.out hb ho0 ho1)
              replace HO_401001 := Aside0.mk (o2 HO_401001.out hb ho0 ho1)
              replace HO419 := Aside0.mk (o2 HO419.out hb ho0 ho1)
              replace HO422 := Aside0.mk (o2 HO422.out hb ho0 ho1)
              replace HO426 := Aside0.mk (o2 HO426.out hb ho0 ho1)
              replace HO429 := Aside0.mk (o2 HO429.out hb ho0 ho1)
              replace HO434 := Aside0.mk (o2 HO434.out hb ho0 ho1)
              replace HO437 := Aside0.mk (o2 HO437.out hb ho0 ho1)
              replace HO442 := Aside0.mk (o2 HO442.out hb ho0 ho1)
              replace HO445 := Aside0.mk (o2 HO445.out hb ho0 ho1)
              replace BK378 := Aside0.mk (bb BK378.out hb)
              replace BK392 := Aside0.mk (bb BK392.out hb)
              replace BK400 := Aside0.mk (bb BK400.out hb)
              replace BK431 := Aside0.mk (bb BK431.out hb)
              replace HB := Aside0.mk (below_step (by exact jB HB.out) hb)
              (try clear hb)
              (try clear hb2)
              (try clear hk)
              (try clear hi)
              (try clear ho0)
              (try clear ho1)
              obtain ⟨Ao102, co102, eo102⟩ := Kd.R_slice HO442.out
              (first | subst eo102 | (injection eo102 with f1_ f2_ f3_; have f4_ := f1_.symm; have f5_ := f3_.symm; clear f1_ f2_ f3_; subst f4_; subst f5_))
              obtain ⟨Ao103, co103, eo103⟩ := Kd.R_slice HO445.out
              (first | subst eo103 | (injection eo103 with f1_ f2_ f3_; have f4_ := f1_.symm; have f5_ := f3_.symm; clear f1_ f2_ f3_; subst f4_; subst f5_))
              obtain ⟨Ao104, co104, eo104⟩ := Kd.R_slice HO449.out
              (first | subst eo104 | (injection eo104 with f1_ f2_ f3_; have f4_ := f1_.symm; have f5_ := f3_.symm; clear f1_ f2_ f3_; subst f4_; subst f5_))
              obtain ⟨Ao105, co105, eo105⟩ := Kd.R_slice HO452.out
              (first | subst eo105 | (injection eo105 with f1_ f2_ f3_; have f4_ := f1_.symm; have f5_ := f3_.symm; clear f1_ f2_ f3_; subst f4_; subst f5_))
              refine hK.out _ _ ⟨(blk_cell BK378.out 0).trans rfl, (blk_cell BK378.out 1).trans rfl, (blk_cell BK378.out 2).trans rfl, (blk_cell BK431.out 0).trans rfl, (blk_cell BK431.out 1).trans rfl, (blk_cell BK431.out 2).trans rfl⟩ (fun hHeld => ?_)
              clear hK K
              refine norm_ (a' := ?_) ?_ ?_
              rotate_left
              ·show Act.put _ (some 99) _ = _
               simp only [Act.put, sA, s0, sS, i64_w, i32_w]
               rfl
              refine one_ (i := 22) (N := some 100) #[true, true, true, true, true, true, true, true, true, true, true, true, true, true, true, true, true, true, true, true, true, true, true, false, false, false, false, false, false, false, false, false, false, false, false, false, false, false] rfl rfl (one_of HT_.out (by kernel_rfl)) (by decide) (fun K hK => ?_)
              refine goes_ Try.func8 (by kernel_rfl) rfl #[.agg #[.slice Ao102 t440.length co102, .slice Ao103 t443.length co103, .int .i64 t446], .agg #[.slice Ao104 t447.length co104, .slice Ao105 t450.length co105, .int .i64 t453]] (by rfl) rfl rfl (by (try simp only [mA, mC, mN]); first | done | rfl | (simp only [ld, lt]; rfl)) ?_
              with_reducible refine (laws_coForm.calls kj8 _ _ t440 _ _ t443 t446 _ _ t447 _ _ t450 t453 true _ ?side1 ?side2 ?side3 ?side4 ?side5 ?side6 ?side7 ?side8 A63.out).mono ?_
              (case side1 => exact lC <| (Kd.R_reads' HO442.out).2.2)
              (case side2 => exact (Kd.R_reads' HO442.out).2.1)
              (case side3 => exact lC <| (Kd.R_reads' HO445.out).2.2)
              (case side4 => exact (Kd.R_reads' HO445.out).2.1)
              (case side5 => exact lC <| (Kd.R_reads' HO449.out).2.2)
              (case side6 => exact (Kd.R_reads' HO449.out).2.1)
              (case side7 => exact lC <| (Kd.R_reads' HO452.out).2.2)
              (case side8 => exact (Kd.R_reads' HO452.out).2.1)
              rintro e w106 ⟨rfl, hb⟩
              refine ⟨_, rfl, ?_⟩
              replace HO_8 := Aside0.mk (rb HO_8.out hb)
              replace HO_9 := Aside0.mk (rb HO_9.out hb)
              replace HO_379000 := Aside0.mk (rb HO_379000.out hb)
              replace HO_379001 := Aside0.mk (rb HO_379001.out hb)
              replace HO_401000 := Aside0.mk (rb HO_401000.out hb)
              replace HO_401001 := Aside0.mk (rb HO_401001.out hb)
              replace HO419 := Aside0.mk (rb HO419.out hb)
              replace HO422 := Aside0.mk (rb HO422.out hb)
              replace HO426 := Aside0.mk (rb HO426.out hb)
              replace HO429 := Aside0.mk (rb HO429.out hb)
              replace HO434 := Aside0.mk (rb HO434.out hb)
              replace HO437 := Aside0.mk (rb HO437.out hb)
              replace HO442 := Aside0.mk (rb HO442.out hb)
              replace HO445 := Aside0.mk (rb HO445.out hb)
              replace HO449 := Aside0.mk (rb HO449.out hb)
              replace HO452 := Aside0.mk (rb HO452.out hb)
              replace BK378 := Aside0.mk (bb BK378.out hb)
              replace BK392 := Aside0.mk (bb BK392.out hb)
              replace BK400 := Aside0.mk (bb BK400.out hb)
              replace BK431 := Aside0.mk (bb BK431.out hb)
              replace HB := Aside0.mk (below_step (by exact jB HB.out) hb)
              (try clear hb)
              (try clear hb2)
              (try clear hk)
              (try clear hi)
              refine hK.out _ _ ⟨(blk_cell BK378.out 0).trans rfl, (blk_cell BK378.out 1).trans rfl, (blk_cell BK378.out 2).trans rfl, (blk_cell BK431.out 0).trans rfl, (blk_cell BK431.out 1).trans rfl, (blk_cell BK431.out 2).trans rfl⟩ (fun hHeld => ?_)
              clear hK K
              refine norm_ (a' := ?_) ?_ ?_
              rotate_left
              ·show Act.put _ (some 100) _ = _
               simp only [Act.put, sA, s0, sS, i64_w, i32_w]
               rfl
              refine pure_ (i := 23) (N := some 101) (v := ?_) (a' := ?_) #[true, true, true, true, true, true, true, true, true, true, true, true, true, true, true, true, true, true, true, true, true, true, true, true, false, false, false, false, false, false, false, false, false, false, false, false, false, false] rfl rfl (any_of HT_.out (by kernel_rfl)) (fun _ _ _ h => h) (Or.inl ⟨by rfl, ?_⟩) ?_ ?_
              rotate_left
              ·intro w'
               go_simp
               with_reducible rfl
              rotate_left
              ·simp only [Act.put, sA, s0, sS, i64_w, i32_w]
               rfl
              refine pure_ (i := 24) (N := some 102) (v := ?_) (a' := ?_) #[true, true, true, true, true, true, true, true, true, true, true, true, true, true, true, true, true, true, true, true, true, true, true, true, true, false, false, false, false, false, false, false, false, false, false, false, false, false] rfl rfl (any_of HT_.out (by kernel_rfl)) (fun _ _ _ h => h) (Or.inl ⟨by rfl, ?_⟩) ?_ ?_
              rotate_left
              ·intro w'
               go_simp
               with_reducible rfl
              rotate_left
              ·simp only [Act.put, sA, s0, sS, i64_w, i32_w]
               rfl
              refine take_ (i := 25) (N := some 103) (v := ?_) (a' := ?_) #[true, true, true, true, true, true, true, true, true, true, true, true, true, true, true, true, true, true, true, true, true, true, true, true, true, true, false, false, false, false, false, false, false, false, false, false, false, false] rfl rfl (take_ofW HT_.out HW_.out (by kernel_rfl)) (fun _ _ _ h => h) (Or.inl ⟨by rfl, ?_⟩) hHeld ?_ ?_
              rotate_left
              ·rintro w' ⟨s0, s1, s2, s3, s4, s5⟩
               go_simp
               with_reducible rfl
              rotate_left
              ·simp only [Act.put, sA, s0, sS, i64_w, i32_w]
               rfl
              refine take_ (i := 26) (N := some 104) (v := ?_) (a' := ?_) #[true, true, true, true, true, true, true, true, true, true, true, true, true, true, true, true, true, true, true, true, true, true, true, true, true, true, true, false, false, false, false, false, false, false, false, false, false, false] rfl rfl (take_ofW HT_.out HW_.out (by kernel_rfl)) (fun _ _ _ h => h) (Or.inl ⟨by rfl, ?_⟩) hHeld ?_ ?_
              rotate_left
              ·rintro w' ⟨s0, s1, s2, s3, s4, s5⟩
               go_simp
               with_reducible rfl
              rotate_left
              ·simp only [Act.put, sA, s0, sS, i64_w, i32_w]
               rfl
              refine one_ (i := 27) (N := some 105) #[true, true, true, true, true, true, true, true, true, true, true, true, true, true, true, true, true, true, true, true, true, true, true, true, true, true, true, true, false, false, false, false, false, false, false, false, false, false] rfl rfl (one_of HT_.out (by kernel_rfl)) (by decide) (fun K hK => ?_)
              refine goes_ Try.func8 (by kernel_rfl) rfl #[.agg #[.slice Ao88 t424.length co88, .slice Ao93 t427.length co93, .int .i64 t430], .agg #[.slice Ao12 t370.length co12, .slice Ao14 t373.length co14, .int .i64 t376]] (by rfl) rfl rfl (by (try simp only [mA, mC, mN]); first | done | rfl | (simp only [ld, lt]; rfl)) ?_
              with_reducible refine (laws_coForm.calls kj8 _ _ t424 _ _ t427 t430 _ _ t370 _ _ t373 t376 true _ ?side1 ?side2 ?side3 ?side4 ?side5 ?side6 ?side7 ?side8 A65.out).mono ?_
              (case side1 => exact lC <| (Kd.R_reads' HO426.out).2.2)
              (case side2 => exact (Kd.R_reads' HO426.out).2.1)
              (case side3 => exact lC <| (Kd.R_reads' HO429.out).2.2)
              (case side4 => exact (Kd.R_reads' HO429.out).2.1)
              (case side5 => exact lC <| (Kd.R_reads' HO_379000.out).2.2)
              (case side6 => exact (Kd.R_reads' HO_379000.out).2.1)
              (case side7 => exact lC <| (Kd.R_reads' HO_379001.out).2.2)
              (case side8 => exact (Kd.R_reads' HO_379001.out).2.1)
              rintro e w107 ⟨rfl, hb⟩
              refine ⟨_, rfl, ?_⟩
              replace HO_8 := Aside0.mk (rb HO_8.out hb)
              replace HO_9 := Aside0.mk (rb HO_9.out hb)
              replace HO_379000 := Aside0.mk (rb HO_379000.out hb)
              replace HO_379001 := Aside0.mk (rb HO_379001.out hb)
              replace HO_401000 := Aside0.mk (rb HO_401000.out hb)
              replace HO_401001 := Aside0.mk (rb HO_401001.out hb)
              replace HO419 := Aside0.mk (rb HO419.out hb)
              replace HO422 := Aside0.mk (rb HO422.out hb)
              replace HO426 := Aside0.mk (rb HO426.out hb)
              replace HO429 := Aside0.mk (rb HO429.out hb)
              replace HO434 := Aside0.mk (rb HO434.out hb)
              replace HO437 := Aside0.mk (rb HO437.out hb)
              replace HO442 := Aside0.mk (rb HO442.out hb)
              replace HO445 := Aside0.mk (rb HO445.out hb)
              replace HO449 := Aside0.mk (rb HO449.out hb)
              replace HO452 := Aside0.mk (rb HO452.out hb)
              replace BK378 := Aside0.mk (bb BK378.out hb)
              replace BK392 := Aside0.mk (bb BK392.out hb)
              replace BK400 := Aside0.mk (bb BK400.out hb)
              replace BK431 := Aside0.mk (bb BK431.out hb)
              replace HB := Aside0.mk (below_step (by exact jB HB.out) hb)
              (try clear hb)
              (try clear hb2)
              (try clear hk)
              (try clear hi)
              refine hK.out _ _ ⟨(blk_cell BK378.out 0).trans rfl, (blk_cell BK378.out 1).trans rfl, (blk_cell BK378.out 2).trans rfl, (blk_cell BK431.out 0).trans rfl, (blk_cell BK431.out 1).trans rfl, (blk_cell BK431.out 2).trans rfl⟩ (fun hHeld => ?_)
              clear hK K
              refine norm_ (a' := ?_) ?_ ?_
              rotate_left
              ·show Act.put _ (some 105) _ = _
               simp only [Act.put, sA, s0, sS, i64_w, i32_w]
               rfl
              refine pure_ (i := 28) (N := some 106) (v := ?_) (a' := ?_) #[true, true, true, true, true, true, true, true, true, true, true, true, true, true, true, true, true, true, true, true, true, true, true, true, true, true, true, true, true, false, false, false, false, false, false, false, false, false] rfl rfl (any_of HT_.out (by kernel_rfl)) (fun _ _ _ h => h) (Or.inl ⟨by rfl, ?_⟩) ?_ ?_
              rotate_left
              ·intro w'
               go_simp
               with_reducible rfl
              rotate_left
              ·simp only [Act.put, sA, s0, sS, i64_w, i32_w]
               rfl
              refine pure_ (i := 29) (N := some 107) (v := ?_) (a' := ?_) #[true, true, true, true, true, true, true, true, true, true, true, true, true, true, true, true, true, true, true, true, true, true, true, true, true, true, true, true, true, true, false, false, false, false, false, false, false, false] rfl rfl (any_of HT_.out (by kernel_rfl)) (fun _ _ _ h => h) (Or.inl ⟨by rfl, ?_⟩) ?_ ?_
              rotate_left
              ·intro w'
               go_simp
               with_reducible rfl
              rotate_left
              ·simp only [Act.put, sA, s0, sS, i64_w, i32_w]
               rfl
              refine take_ (i := 30) (N := some 108) (v := ?_) (a' := ?_) #[true, true, true, true, true, true, true, true, true, true, true, true, true, true, true, true, true, true, true, true, true, true, true, true, true, true, true, true, true, true, true, false, false, false, false, false, false, false] rfl rfl (take_ofW HT_.out HW_.out (by kernel_rfl)) (fun _ _ _ h => h) (Or.inl ⟨by rfl, ?_⟩) hHeld ?_ ?_
              rotate_left
              ·rintro w' ⟨s0, s1, s2, s3, s4, s5⟩
               go_simp
               with_reducible rfl
              rotate_left
              ·simp only [Act.put, sA, s0, sS, i64_w, i32_w]
               rfl
              refine take_ (i := 31) (N := some 109) (v := ?_) (a' := ?_) #[true, true, true, true, true, true, true, true, true, true, true, true, true, true, true, true, true, true, true, true, true, true, true, true, true, true, true, true, true, true, true, true, false, false, false, false, false, false] rfl rfl (take_ofW HT_.out HW_.out (by kernel_rfl)) (fun _ _ _ h => h) (Or.inl ⟨by rfl, ?_⟩) hHeld ?_ ?_
              rotate_left
              ·rintro w' ⟨s0, s1, s2, s3, s4, s5⟩
               go_simp
               with_reducible rfl
              rotate_left
              ·simp only [Act.put, sA, s0, sS, i64_w, i32_w]
               rfl
              refine one_ (i := 32) (N := some 110) #[true, true, true, true, true, true, true, true, true, true, true, true, true, true, true, true, true, true, true, true, true, true, true, true, true, true, true, true, true, true, true, true, true, false, false, false, false, false] rfl rfl (one_of HT_.out (by kernel_rfl)) (by decide) (fun K hK => ?_)
              refine goes_ Try.func15 (by kernel_rfl) rfl #[.agg #[.slice Ao12 t370.length co12, .slice Ao14 t373.length co14, .int .i64 t376], .int .i64 (-1)] (by rfl) rfl rfl (by (try simp only [mA, mC, mN]); first | done | rfl | (simp only [ld, lt]; rfl)) ?_
              with_reducible refine (impl_FrmTimes.calls _ _ t370 _ _ t373 t376 (-1) t456 t459 t462 _ ?side1 ?side2 ?side3 ?side4 A67.out).mono ?_
              (case side1 => exact lC <| (Kd.R_reads' HO_379000.out).2.2)
              (case side2 => exact (Kd.R_reads' HO_379000.out).2.1)
              (case side3 => exact lC <| (Kd.R_reads' HO_379001.out).2.2)
              (case side4 => exact (Kd.R_reads' HO_379001.out).2.1)
              rintro e w108 ⟨v457, v460, rfl, ho0, ho1, hb⟩
              refine ⟨_, rfl, ?_⟩
              have HO458 := Aside0.mk (Kd.R_lower (Kd.R_new' (Kd.R_new' (Kd.R_new' (Kd.R_new' (Kd.R_new' (Kd.R_new' (Kd.R_new' (Kd.R_new' (Kd.R_new' (Kd.R_new' (Kd.R_new' (Kd.R_new' (Kd.R_new' (Kd.R_new' (Kd.R_new' (Kd.R_new' ho0 (rl HO_8.out)) (rl HO_9.out)) (rl HO_379000.out)) (rl HO_379001.out)) (rl HO_401000.out)) (rl HO_401001.out)) (rl HO419.out)) (rl HO422.out)) (rl HO426.out)) (rl HO429.out)) (rl HO434.out)) (rl HO437.out)) (rl HO442.out)) (rl HO445.out)) (rl HO449.out)) (rl HO452.out)) (below_size (by exact jB HB.out)))
              have HO461 := Aside0.mk (Kd.R_lower (Kd.R_new' (Kd.R_new' (Kd.R_new' (Kd.R_new' (Kd.R_new' (Kd.R_new' (Kd.R_new' (Kd.R_new' (Kd.R_new' (Kd.R_new' (Kd.R_new' (Kd.R_new' (Kd.R_new' (Kd.R_new' (Kd.R_new' (Kd.R_new' ho1 (rl HO_8.out)) (rl HO_9.out)) (rl HO_379000.out)) (rl HO_379001.out)) (rl HO_401000.out)) (rl HO_401001.out)) (rl HO419.out)) (rl HO422.out)) (rl HO426.out)) (rl HO429.out)) (rl HO434.out)) (rl HO437.out)) (rl HO442.out)) (rl HO445.out)) (rl HO449.out)) (rl HO452.out)) (below_size (by exact jB HB.out)))
              replace HO_8 := Aside0.mk (o2 HO_8.out hb ho0 ho1)
              replace HO_9 := Aside0.mk (o2 HO_9.out hb ho0 ho1)
              replace HO_379000 := Aside0.mk (o2 HO_379000.out hb ho0 ho1)
              replace HO_379001 := Aside0.mk (o2 HO_379001.out hb ho0 ho1)
              replace HO_401000 := Aside0.mk (o2 HO_401000.out hb ho0 ho1)
              replace HO_401001 := Aside0.mk (o2 HO_401001.out hb ho0 ho1)
              replace HO419 := Aside0.mk (o2 HO419.out hb ho0 ho1)
              replace HO422 := Aside0.mk (o2 HO422.out hb ho0 ho1)
              replace HO426 := Aside0.mk (o2 HO426.out hb ho0 ho1)
              replace HO429 := Aside0.mk (o2 HO429.out hb ho0 ho1)
              replace HO434 := Aside0.mk (o2 HO434.out hb ho0 ho1)
              replace HO437 := Aside0.mk (o2 HO437.out hb ho0 ho1)
              replace HO442 := Aside0.mk (o2 HO442.out hb ho0 ho1)
              replace HO445 := Aside0.mk (o2 HO445.out hb ho0 ho1)
              replace HO449 := Aside0.mk (o2 HO449.out hb ho0 ho1)
              replace HO452 := Aside0.mk (o2 HO452.out hb ho0 ho1)
              replace BK378 := Aside0.mk (bb BK378.out hb)
              replace BK392 := Aside0.mk (bb BK392.out hb)
              replace BK400 := Aside0.mk (bb BK400.out hb)
              replace BK431 := Aside0.mk (bb BK431.out hb)
              replace HB := Aside0.mk (below_step (by exact jB HB.out) hb)
              (try clear hb)
              (try clear hb2)
              (try clear hk)
              (try clear hi)
              (try clear ho0)
              (try clear ho1)
              obtain ⟨Ao109, co109, eo109⟩ := Kd.R_slice HO458.out
              (first | subst eo109 | (injection eo109 with f1_ f2_ f3_; have f4_ := f1_.symm; have f5_ := f3_.symm; clear f1_ f2_ f3_; subst f4_; subst f5_))
              obtain ⟨Ao110, co110, eo110⟩ := Kd.R_slice HO461.out
              (first | subst eo110 | (injection eo110 with f1_ f2_ f3_; have f4_ := f1_.symm; have f5_ := f3_.symm; clear f1_ f2_ f3_; subst f4_; subst f5_))
              refine hK.out _ _ ⟨(blk_cell BK378.out 0).trans rfl, (blk_cell BK378.out 1).trans rfl, (blk_cell BK378.out 2).trans rfl, (blk_cell BK431.out 0).trans rfl, (blk_cell BK431.out 1).trans rfl, (blk_cell BK431.out 2).trans rfl⟩ (fun hHeld => ?_)
              clear hK K
              refine norm_ (a' := ?_) ?_ ?_
              rotate_left
              ·show Act.put _ (some 110) _ = _
               simp only [Act.put, sA, s0, sS, i64_w, i32_w]
               rfl
              refine one_ (i := 33) (N := some 111) #[true, true, true, true, true, true, true, true, true, true, true, true, true, true, true, true, true, true, true, true, true, true, true, true, true, true, true, true, true, true, true, true, true, true, false, false, false, false] rfl rfl (one_of HT_.out (by kernel_rfl)) (by decide) (fun K hK => ?_)
              refine goes_ Try.func19 (by kernel_rfl) rfl #[.agg #[.slice Ao12 t370.length co12, .slice Ao14 t373.length co14, .int .i64 t376], .agg #[.slice Ao109 t456.length co109, .slice Ao110 t459.length co110, .int .i64 t462]] (by rfl) rfl rfl (by (try simp only [mA, mC, mN]); first | done | rfl | (simp only [ld, lt]; rfl)) ?_
              with_reducible refine (impl_FrmAdd.calls _ _ t370 _ _ t373 t376 _ _ t456 _ _ t459 t462 t463 t466 t469 _ ?side1 ?side2 ?side3 ?side4 ?side5 ?side6 ?side7 ?side8 A68.out).mono ?_
              (case side1 => exact lC <| (Kd.R_reads' HO_379000.out).2.2)
              (case side2 => exact (Kd.R_reads' HO_379000.out).2.1)
              (case side3 => exact lC <| (Kd.R_reads' HO_379001.out).2.2)
              (case side4 => exact (Kd.R_reads' HO_379001.out).2.1)
              (case side5 => exact lC <| (Kd.R_reads' HO458.out).2.2)
              (case side6 => exact (Kd.R_reads' HO458.out).2.1)
              (case side7 => exact lC <| (Kd.R_reads' HO461.out).2.2)
              (case side8 => exact (Kd.R_reads' HO461.out).2.1)
              rintro e w111 ⟨v464, v467, rfl, ho0, ho1, hb⟩
              refine ⟨_, rfl, ?_⟩
              have HO465 := Aside0.mk (Kd.R_lower (Kd.R_new' (Kd.R_new' (Kd.R_new' (Kd.R_new' (Kd.R_new' (Kd.R_new' (Kd.R_new' (Kd.R_new' (Kd.R_new' (Kd.R_new' (Kd.R_new' (Kd.R_new' (Kd.R_new' (Kd.R_new' (Kd.R_new' (Kd.R_new' (Kd.R_new' (Kd.R_new' ho0 (rl HO_8.out)) (rl HO_9.out)) (rl HO_379000.out)) (rl HO_379001.out)) (rl HO_401000.out)) (rl HO_401001.out)) (rl HO419.out)) (rl HO422.out)) (rl HO426.out)) (rl HO429.out)) (rl HO434.out)) (rl HO437.out)) (rl HO442.out)) (rl HO445.out)) (rl HO449.out)) (rl HO452.out)) (rl HO458.out)) (rl HO461.out)) (below_size (by exact jB HB.out)))
              have HO468 := Aside0.mk (Kd.R_lower (Kd.R_new' (Kd.R_new' (Kd.R_new' (Kd.R_new' (Kd.R_new' (Kd.R_new' (Kd.R_new' (Kd.R_new' (Kd.R_new' (Kd.R_new' (Kd.R_new' (Kd.R_new' (Kd.R_new' (Kd.R_new' (Kd.R_new' (Kd.R_new' (Kd.R_new' (Kd.R_new' ho1 (rl HO_8.out)) (rl HO_9.out)) (rl HO_379000.out)) (rl HO_379001.out)) (rl HO_401000.out)) (rl HO_401001.out)) (rl HO419.out)) (rl HO422.out)) (rl HO426.out)) (rl HO429.out)) (rl HO434.out)) (rl HO437.out)) (rl HO442.out)) (rl HO445.out)) (rl HO449.out)) (rl HO452.out)) (rl HO458.out)) (rl HO461.out)) (below_size (by exact jB HB.out)))
              replace HO_8 := Aside0.mk (o2 HO_8.out hb ho0 ho1)
              replace HO_9 := Aside0.mk (o2 HO_9.out hb ho0 ho1)
              replace HO_379000 := Aside0.mk (o2 HO_379000.out hb ho0 ho1)
              replace HO_379001 := Aside0.mk (o2 HO_379001.out hb ho0 ho1)
              replace HO_401000 := Aside0.mk (o2 HO_401000.out hb ho0 ho1)
              replace HO_401001 := Aside0.mk (o2 HO_401001.out hb ho0 ho1)
              replace HO419 := Aside0.mk (o2 HO419.out hb ho0 ho1)
              replace HO422 := Aside0.mk (o2 HO422.out hb ho0 ho1)
              replace HO426 := Aside0.mk (o2 HO426.out hb ho0 ho1)
              replace HO429 := Aside0.mk (o2 HO429.out hb ho0 ho1)
              replace HO434 := Aside0.mk (o2 HO434.out hb ho0 ho1)
              replace HO437 := Aside0.mk (o2 HO437.out hb ho0 ho1)
              replace HO442 := Aside0.mk (o2 HO442.out hb ho0 ho1)
              replace HO445 := Aside0.mk (o2 HO445.out hb ho0 ho1)
              replace HO449 := Aside0.mk (o2 HO449.out hb ho0 ho1)
              replace HO452 := Aside0.mk (o2 HO452.out hb ho0 ho1)
              replace HO458 := Aside0.mk (o2 HO458.out hb ho0 ho1)
              replace HO461 := Aside0.mk (o2 HO461.out hb ho0 ho1)
              replace BK378 := Aside0.mk (bb BK378.out hb)
              replace BK392 := Aside0.mk (bb BK392.out hb)
              replace BK400 := Aside0.mk (bb BK400.out hb)
              replace BK431 := Aside0.mk (bb BK431.out hb)
              replace HB := Aside0.mk (below_step (by exact jB HB.out) hb)
              (try clear hb)
              (try clear hb2)
              (try clear hk)
              (try clear hi)
              (try clear ho0)
              (try clear ho1)
              refine hK.out _ _ ⟨(blk_cell BK378.out 0).trans rfl, (blk_cell BK378.out 1).trans rfl, (blk_cell BK378.out 2).trans rfl, (blk_cell BK431.out 0).trans rfl, (blk_cell BK431.out 1).trans rfl, (blk_cell BK431.out 2).trans rfl⟩ (fun hHeld => ?_)
              clear hK K
              refine norm_ (a' := ?_) ?_ ?_
              rotate_left
              ·show Act.put _ (some 111) _ = _
               simp only [Act.put, sA, s0, sS, i64_w, i32_w]
               rfl
              refine one_ (i := 34) (N := some 112) #[true, true, true, true, true, true, true, true, true, true, true, true, true, true, true, true, true, true, true, true, true, true, true, true, true, true, true, true, true, true, true, true, true, true, true, false, false, false] rfl rfl (one_of HT_.out (by kernel_rfl)) (by decide) (fun K hK => ?_)
              refine goes_ Try.func18 (by kernel_rfl) rfl #[] (by rfl) rfl rfl (by (try simp only [mA, mC, mN]); first | done | rfl | (simp only [ld, lt]; rfl)) ?_
              with_reducible refine (impl_FrmZero.calls  t470 t473 t476 _ A69.out).mono ?_
              rintro e w112 ⟨v471, v474, rfl, ho0, ho1, hb⟩
              refine ⟨_, rfl, ?_⟩
              have HO472 := Aside0.mk (Kd.R_lower (Kd.R_new' (Kd.R_new' (Kd.R_new' (Kd.R_new' (Kd.R_new' (Kd.R_new' (Kd.R_new' (Kd.R_new' (Kd.R_new' (Kd.R_new' (Kd.R_new' (Kd.R_new' (Kd.R_new' (Kd.R_new' (Kd.R_new' (Kd.R_new' (Kd.R_new' (Kd.R_new' (Kd.R_new' (Kd.R_new' ho0 (rl HO_8.out)) (rl HO_9.out)) (rl HO_379000.out)) (rl HO_379001.out)) (rl HO_401000.out)) (rl HO_401001.out)) (rl HO419.out)) (rl HO422.out)) (rl HO426.out)) (rl HO429.out)) (rl HO434.out)) (rl HO437.out)) (rl HO442.out)) (rl HO445.out)) (rl HO449.out)) (rl HO452.out)) (rl HO458.out)) (rl HO461.out)) (rl HO465.out)) (rl HO468.out)) (below_size (by exact jB HB.out)))
              have HO475 := Aside0.mk (Kd.R_lower (Kd.R_new' (Kd.R_new' (Kd.R_new' (Kd.R_new' (Kd.R_new' (Kd.R_new' (Kd.R_new' (Kd.R_new' (Kd.R_new' (Kd.R_new' (Kd.R_new' (Kd.R_new' (Kd.R_new' (Kd.R_new' (Kd.R_new' (Kd.R_new' (Kd.R_new' (Kd.R_new' (Kd.R_new' (Kd.R_new' ho1 (rl HO_8.out)) (rl HO_9.out)) (rl HO_379000.out)) (rl HO_379001.out)) (rl HO_401000.out)) (rl HO_401001.out)) (rl HO419.out)) (rl HO422.out)) (rl HO426.out)) (rl HO429.out)) (rl HO434.out)) (rl HO437.out)) (rl HO442.out)) (rl HO445.out)) (rl HO449.out)) (rl HO452.out)) (rl HO458.out)) (rl HO461.out)) (rl HO465.out)) (rl HO468.out)) (below_size (by exact jB HB.out)))
              replace HO_8 := Aside0.mk (o2 HO_8.out hb ho0 ho1)
              replace HO_9 := Aside0.mk (o2 HO_9.out hb ho0 ho1)
              replace HO_379000 := Aside0.mk (o2 HO_379000.out hb ho0 ho1)
              replace HO_379001 := Aside0.mk (o2 HO_379001.out hb ho0 ho1)
              replace HO_401000 := Aside0.mk (o2 HO_401000.out hb ho0 ho1)
              replace HO_401001 := Aside0.mk (o2 HO_401001.out hb ho0 ho1)
              replace HO419 := Aside0.mk (o2 HO419.out hb ho0 ho1)
              replace HO422 := Aside0.mk (o2 HO422.out hb ho0 ho1)
              replace HO426 := Aside0.mk (o2 HO426.out hb ho0 ho1)
              replace HO429 := Aside0.mk (o2 HO429.out hb ho0 ho1)
              replace HO434 := Aside0.mk (o2 HO434.out hb ho0 ho1)
              replace HO437 := Aside0.mk (o2 HO437.out hb ho0 ho1)
              replace HO442 := Aside0.mk (o2 HO442.out hb ho0 ho1)
              replace HO445 := Aside0.mk (o2 HO445.out hb ho0 ho1)
              replace HO449 := Aside0.mk (o2 HO449.out hb ho0 ho1)
              replace HO452 := Aside0.mk (o2 HO452.out hb ho0 ho1)
              replace HO458 := Aside0.mk (o2 HO458.out hb ho0 ho1)
              replace HO461 := Aside0.mk (o2 HO461.out hb ho0 ho1)
              replace HO465 := Aside0.mk (o2 HO465.out hb ho0 ho1)
              replace HO468 := Aside0.mk (o2 HO468.out hb ho0 ho1)
              replace BK378 := Aside0.mk (bb BK378.out hb)
              replace BK392 := Aside0.mk (bb BK392.out hb)
              replace BK400 := Aside0.mk (bb BK400.out hb)
              replace BK431 := Aside0.mk (bb BK431.out hb)
              replace HB := Aside0.mk (below_step (by exact jB HB.out) hb)
              (try clear hb)
              (try clear hb2)
              (try clear hk)
              (try clear hi)
              (try clear ho0)
              (try clear ho1)
              obtain ⟨Ao113, co113, eo113⟩ := Kd.R_slice HO465.out
              (first | subst eo113 | (injection eo113 with f1_ f2_ f3_; have f4_ := f1_.symm; have f5_ := f3_.symm; clear f1_ f2_ f3_; subst f4_; subst f5_))
              obtain ⟨Ao114, co114, eo114⟩ := Kd.R_slice HO468.out
              (first | subst eo114 | (injection eo114 with f1_ f2_ f3_; have f4_ := f1_.symm; have f5_ := f3_.symm; clear f1_ f2_ f3_; subst f4_; subst f5_))
              obtain ⟨Ao115, co115, eo115⟩ := Kd.R_slice HO472.out
              (first | subst eo115 | (injection eo115 with f1_ f2_ f3_; have f4_ := f1_.symm; have f5_ := f3_.symm; clear f1_ f2_ f3_; subst f4_; subst f5_))
              obtain ⟨Ao116, co116, eo116⟩ := Kd.R_slice HO475.out
              (first | subst eo116 | (injection eo116 with f1_ f2_ f3_; have f4_ := f1_.symm; have f5_ := f3_.symm; clear f1_ f2_ f3_; subst f4_; subst f5_))
              refine hK.out _ _ ⟨(blk_cell BK378.out 0).trans rfl, (blk_cell BK378.out 1).trans rfl, (blk_cell BK378.out 2).trans rfl, (blk_cell BK431.out 0).trans rfl, (blk_cell BK431.out 1).trans rfl, (blk_cell BK431.out 2).trans rfl⟩ (fun hHeld => ?_)
              clear hK K
              refine norm_ (a' := ?_) ?_ ?_
              rotate_left
              ·show Act.put _ (some 112) _ = _
               simp only [Act.put, sA, s0, sS, i64_w, i32_w]
               rfl
              refine one_ (i := 35) (N := some 113) #[true, true, true, true, true, true, true, true, true, true, true, true, true, true, true, true, true, true, true, true, true, true, true, true, true, true, true, true, true, true, true, true, true, true, true, true, false, false] rfl rfl (one_of HT_.out (by kernel_rfl)) (by decide) (fun K hK => ?_)
              refine goes_ Try.func8 (by kernel_rfl) rfl #[.agg #[.slice Ao113 t463.length co113, .slice Ao114 t466.length co114, .int .i64 t469], .agg #[.slice Ao115 t470.length co115, .slice Ao116 t473.length co116, .int .i64 t476]] (by rfl) rfl rfl (by (try simp only [mA, mC, mN]); first | done | rfl | (simp only [ld, lt]; rfl)) ?_
              with_reducible refine (laws_coForm.calls kj8 _ _ t463 _ _ t466 t469 _ _ t470 _ _ t473 t476 t477 _ ?side1 ?side2 ?side3 ?side4 ?side5 ?side6 ?side7 ?side8 A70.out).mono ?_
              (case side1 => exact lC <| (Kd.R_reads' HO465.out).2.2)
              (case side2 => exact (Kd.R_reads' HO465.out).2.1)
              (case side3 => exact lC <| (Kd.R_reads' HO468.out).2.2)
              (case side4 => exact (Kd.R_reads' HO468.out).2.1)
              (case side5 => exact lC <| (Kd.R_reads' HO472.out).2.2)
              (case side6 => exact (Kd.R_reads' HO472.out).2.1)
              (case side7 => exact lC <| (Kd.R_reads' HO475.out).2.2)
              (case side8 => exact (Kd.R_reads' HO475.out).2.1)
              rintro e w117 ⟨rfl, hb⟩
              refine ⟨_, rfl, ?_⟩
              replace HO_8 := Aside0.mk (rb HO_8.out hb)
              replace HO_9 := Aside0.mk (rb HO_9.out hb)
              replace HO_379000 := Aside0.mk (rb HO_379000.out hb)
              replace HO_379001 := Aside0.mk (rb HO_379001.out hb)
              replace HO_401000 := Aside0.mk (rb HO_401000.out hb)
              replace HO_401001 := Aside0.mk (rb HO_401001.out hb)
              replace HO419 := Aside0.mk (rb HO419.out hb)
              replace HO422 := Aside0.mk (rb HO422.out hb)
              replace HO426 := Aside0.mk (rb HO426.out hb)
              replace HO429 := Aside0.mk (rb HO429.out hb)
              replace HO434 := Aside0.mk (rb HO434.out hb)
              replace HO437 := Aside0.mk (rb HO437.out hb)
              replace HO442 := Aside0.mk (rb HO442.out hb)
              replace HO445 := Aside0.mk (rb HO445.out hb)
              replace HO449 := Aside0.mk (rb HO449.out hb)
              replace HO452 := Aside0.mk (rb HO452.out hb)
              replace HO458 := Aside0.mk (rb HO458.out hb)
              replace HO461 := Aside0.mk (rb HO461.out hb)
              replace HO465 := Aside0.mk (rb HO465.out hb)
              replace HO468 := Aside0.mk (rb HO468.out hb)
              replace HO472 := Aside0.mk (rb HO472.out hb)
              replace HO475 := Aside0.mk (rb HO475.out hb)
              replace BK378 := Aside0.mk (bb BK378.out hb)
              replace BK392 := Aside0.mk (bb BK392.out hb)
              replace BK400 := Aside0.mk (bb BK400.out hb)
              replace BK431 := Aside0.mk (bb BK431.out hb)
              replace HB := Aside0.mk (below_step (by exact jB HB.out) hb)
              (try clear hb)
              (try clear hb2)
              (try clear hk)
              (try clear hi)
              refine hK.out _ _ ⟨(blk_cell BK378.out 0).trans rfl, (blk_cell BK378.out 1).trans rfl, (blk_cell BK378.out 2).trans rfl, (blk_cell BK431.out 0).trans rfl, (blk_cell BK431.out 1).trans rfl, (blk_cell BK431.out 2).trans rfl⟩ (fun hHeld => ?_)
              clear hK K
              refine norm_ (a' := ?_) ?_ ?_
              rotate_left
              ·show Act.put _ (some 113) _ = _
               simp only [Act.put, sA, s0, sS, i64_w, i32_w]
               rfl
              refine pure_ (i := 36) (N := some 114) (v := ?_) (a' := ?_) #[true, true, true, true, true, true, true, true, true, true, true, true, true, true, true, true, true, true, true, true, true, true, true, true, true, true, true, true, true, true, true, true, true, true, true, true, true, false] rfl rfl (any_of HT_.out (by kernel_rfl)) (fun _ _ _ h => h) (Or.inl ⟨by rfl, ?_⟩) ?_ ?_
              rotate_left
              ·intro w'
               go_simp
               with_reducible rfl
              rotate_left
              ·simp only [Act.put, sA, s0, sS, i64_w, i32_w]
               rfl
              refine pure_ (i := 37) (N := some 4) (v := ?_) (a' := ?_) #[true, true, true, true, true, true, true, true, true, true, true, true, true, true, true, true, true, true, true, true, true, true, true, true, true, true, true, true, true, true, true, true, true, true, true, true, true, true] rfl rfl (any_of HT_.out (by kernel_rfl)) (fun _ _ _ h => h) (Or.inl ⟨by rfl, ?_⟩) ?_ ?_
              rotate_left
              ·intro w'
               go_simp
               with_reducible rfl
              rotate_left
              ·simp only [Act.put, sA, s0, sS, i64_w, i32_w]
               rfl
              refine done_ (done_of HT_.out (by kernel_rfl)) ?_
              try go_wp2
              go_ret
              exact ⟨by first | rfl | (simp [errW_none, errW_some] <;> rfl) | (simp [*, errW_none, errW_some] <;> rfl), by exact jB HB.out⟩
             ·replace c66 := Bool.eq_false_iff.mpr c66
              subst c66
              have H1 : (some false) = some r := by rw [if_neg (show ¬ (false = true) by decide)] at H; exact H
              clear H
              have H := H1
              clear H1
              exact absurd (Option.some.inj H) (by rw [hr.out]; decide)
            ·replace c64 := Bool.eq_false_iff.mpr c64
             subst c64
             have H1 : (some false) = some r := by rw [if_neg (show ¬ (false = true) by decide)] at H; exact H
             clear H
             have H := H1
             clear H1
             exact absurd (Option.some.inj H) (by rw [hr.out]; decide)
           ·replace c60 := Bool.eq_false_iff.mpr c60
            subst c60
            have H1 : (some false) = some r := by rw [if_neg (show ¬ (false = true) by decide)] at H; exact H
            clear H
            have H := H1
            clear H1
            exact absurd (Option.some.inj H) (by rw [hr.out]; decide)
          ·rw [if_neg c57] at H
           have c57b0 : (t413 == (wrap64 (t377 * t415))) = false := beq_eq_false_iff_ne.mpr c57
           have c57b1 : (t413 != (wrap64 (t377 * t415))) = true := bne_iff_ne.mpr c57
           exact absurd (Option.some.inj H) (by rw [hr.out]; decide)
         ·replace c56 := Bool.eq_false_iff.mpr c56
          subst c56
          have H1 : (some false) = some r := by rw [if_neg (show ¬ (false = true) by decide)] at H; exact H
          clear H
          have H := H1
          clear H1
          exact absurd (Option.some.inj H) (by rw [hr.out]; decide)
        ·replace c55 := Bool.eq_false_iff.mpr c55
         subst c55
         have H1 : ((impl_FrmTimes.f t370 t373 t376 1).bind fun bt478 => ((laws_coForm.f kj8 bt478.1 bt478.2.1 bt478.2.2 t370 t373 t376).bind fun t485 => (if t485 = true then ((impl_FrmTimes.f t370 t373 t376 0).bind fun bt486 => ((impl_FrmZero.f).bind fun bt493 => ((laws_coForm.f kj8 bt486.1 bt486.2.1 bt486.2.2 bt493.1 bt493.2.1 bt493.2.2).bind fun t500 => (if t500 = true then ((laws_coForm.f kj8 t424 t427 t430 t370 t373 t376).bind fun t501 => (if t501 = true then ((impl_FrmTimes.f t370 t373 t376 (-1)).bind fun bt502 => ((impl_FrmAdd.f t370 t373 t376 bt502.1 bt502.2.1 bt502.2.2).bind fun bt509 => ((impl_FrmZero.f).bind fun bt516 => ((laws_coForm.f kj8 bt509.1 bt509.2.1 bt509.2.2 bt516.1 bt516.2.1 bt516.2.2).bind fun t523 => (some t523))))) else (some false))) else (some false))))) else (some false)))) = some r := by rw [if_neg (show ¬ (false = true) by decide)] at H; exact H
         clear H
         have H := H1
         clear H1
         replace H := Option.bind_eq_some_iff.mp H
         obtain ⟨⟨t478, t481, t484⟩, A1180, H⟩ := H
         replace H : ((laws_coForm.f kj8 t478 t481 t484 t370 t373 t376).bind fun t485 => (if t485 = true then ((impl_FrmTimes.f t370 t373 t376 0).bind fun bt486 => ((impl_FrmZero.f).bind fun bt493 => ((laws_coForm.f kj8 bt486.1 bt486.2.1 bt486.2.2 bt493.1 bt493.2.1 bt493.2.2).bind fun t500 => (if t500 = true then ((laws_coForm.f kj8 t424 t427 t430 t370 t373 t376).bind fun t501 => (if t501 = true then ((impl_FrmTimes.f t370 t373 t376 (-1)).bind fun bt502 => ((impl_FrmAdd.f t370 t373 t376 bt502.1 bt502.2.1 bt502.2.2).bind fun bt509 => ((impl_FrmZero.f).bind fun bt516 => ((laws_coForm.f kj8 bt509.1 bt509.2.1 bt509.2.2 bt516.1 bt516.2.1 bt516.2.2).bind fun t523 => (some t523))))) else (some false))) else (some false))))) else (some false))) = some r := H
         have A118 := Aside0.mk A1180
         clear A1180
         replace H := Option.bind_eq_some_iff.mp H
         obtain ⟨t485, A1190, H⟩ := H
         replace H : (if t485 = true then ((impl_FrmTimes.f t370 t373 t376 0).bind fun bt486 => ((impl_FrmZero.f).bind fun bt493 => ((laws_coForm.f kj8 bt486.1 bt486.2.1 bt486.2.2 bt493.1 bt493.2.1 bt493.2.2).bind fun t500 => (if t500 = true then ((laws_coForm.f kj8 t424 t427 t430 t370 t373 t376).bind fun t501 => (if t501 = true then ((impl_FrmTimes.f t370 t373 t376 (-1)).bind fun bt502 => ((impl_FrmAdd.f t370 t373 t376 bt502.1 bt502.2.1 bt502.2.2).bind fun bt509 => ((impl_FrmZero.f).bind fun bt516 => ((laws_coForm.f kj8 bt509.1 bt509.2.1 bt509.2.2 bt516.1 bt516.2.1 bt516.2.2).bind fun t523 => (some t523))))) else (some false))) else (some false))))) else (some false)) = some r := H
         have A119 := Aside0.mk A1190
         clear A1190
         by_cases c120 : t485 = true
         ·subst c120
          have H1 : ((impl_FrmTimes.f t370 t373 t376 0).bind fun bt486 => ((impl_FrmZero.f).bind fun bt493 => ((laws_coForm.f kj8 bt486.1 bt486.2.1 bt486.2.2 bt493.1 bt493.2.1 bt493.2.2).bind fun t500 => (if t500 = true then ((laws_coForm.f kj8 t424 t427 t430 t370 t373 t376).bind fun t501 => (if t501 = true then ((impl_FrmTimes.f t370 t373 t376 (-1)).bind fun bt502 => ((impl_FrmAdd.f t370 t373 t376 bt502.1 bt502.2.1 bt502.2.2).bind fun bt509 => ((impl_FrmZero.f).bind fun bt516 => ((laws_coForm.f kj8 bt509.1 bt509.2.1 bt509.2.2 bt516.1 bt516.2.1 bt516.2.2).bind fun t523 => (some t523))))) else (some false))) else (some false))))) = some r := by rw [if_pos rfl] at H; exact H
          clear H
          have H := H1
          clear H1
          replace H := Option.bind_eq_some_iff.mp H
          obtain ⟨⟨t486, t489, t492⟩, A1210, H⟩ := H
          replace H : ((impl_FrmZero.f).bind fun bt493 => ((laws_coForm.f kj8 t486 t489 t492 bt493.1 bt493.2.1 bt493.2.2).bind fun t500 => (if t500 = true then ((laws_coForm.f kj8 t424 t427 t430 t370 t373 t376).bind fun t501 => (if t501 = true then ((impl_FrmTimes.f t370 t373 t376 (-1)).bind fun bt502 => ((impl_FrmAdd.f t370 t373 t376 bt502.1 bt502.2.1 bt502.2.2).bind fun bt509 => ((impl_FrmZero.f).bind fun bt516 => ((laws_coForm.f kj8 bt509.1 bt509.2.1 bt509.2.2 bt516.1 bt516.2.1 bt516.2.2).bind fun t523 => (some t523))))) else (some false))) else (some false)))) = some r := H
          have A121 := Aside0.mk A1210
          clear A1210
          replace H := Option.bind_eq_some_iff.mp H
          obtain ⟨⟨t493, t496, t499⟩, A1220, H⟩ := H
          replace H : ((laws_coForm.f kj8 t486 t489 t492 t493 t496 t499).bind fun t500 => (if t500 = true then ((laws_coForm.f kj8 t424 t427 t430 t370 t373 t376).bind fun t501 => (if t501 = true then ((impl_FrmTimes.f t370 t373 t376 (-1)).bind fun bt502 => ((impl_FrmAdd.f t370 t373 t376 bt502.1 bt502.2.1 bt502.2.2).bind fun bt509 => ((impl_FrmZero.f).bind fun bt516 => ((laws_coForm.f kj8 bt509.1 bt509.2.1 bt509.2.2 bt516.1 bt516.2.1 bt516.2.2).bind fun t523 => (some t523))))) else (some false))) else (some false))) = some r := H
          have A122 := Aside0.mk A1220
          clear A1220
          replace H := Option.bind_eq_some_iff.mp H
          obtain ⟨t500, A1230, H⟩ := H
          replace H : (if t500 = true then ((laws_coForm.f kj8 t424 t427 t430 t370 t373 t376).bind fun t501 => (if t501 = true then ((impl_FrmTimes.f t370 t373 t376 (-1)).bind fun bt502 => ((impl_FrmAdd.f t370 t373 t376 bt502.1 bt502.2.1 bt502.2.2).bind fun bt509 => ((impl_FrmZero.f).bind fun bt516 => ((laws_coForm.f kj8 bt509.1 bt509.2.1 bt509.2.2 bt516.1 bt516.2.1 bt516.2.2).bind fun t523 => (some t523))))) else (some false))) else (some false)) = some r := H
          have A123 := Aside0.mk A1230
          clear A1230
          by_cases c124 : t500 = true
          ·subst c124
           have H1 : ((laws_coForm.f kj8 t424 t427 t430 t370 t373 t376).bind fun t501 => (if t501 = true then ((impl_FrmTimes.f t370 t373 t376 (-1)).bind fun bt502 => ((impl_FrmAdd.f t370 t373 t376 bt502.1 bt502.2.1 bt502.2.2).bind fun bt509 => ((impl_FrmZero.f).bind fun bt516 => ((laws_coForm.f kj8 bt509.1 bt509.2.1 bt509.2.2 bt516.1 bt516.2.1 bt516.2.2).bind fun t523 => (some t523))))) else (some false))) = some r := by rw [if_pos rfl] at H; exact H
           clear H
           have H := H1
           clear H1
           replace H := Option.bind_eq_some_iff.mp H
           obtain ⟨t501, A1250, H⟩ := H
           replace H : (if t501 = true then ((impl_FrmTimes.f t370 t373 t376 (-1)).bind fun bt502 => ((impl_FrmAdd.f t370 t373 t376 bt502.1 bt502.2.1 bt502.2.2).bind fun bt509 => ((impl_FrmZero.f).bind fun bt516 => ((laws_coForm.f kj8 bt509.1 bt509.2.1 bt509.2.2 bt516.1 bt516.2.1 bt516.2.2).bind fun t523 => (some t523))))) else (some false)) = some r := H
           have A125 := Aside0.mk A1250
           clear A1250
           by_cases c126 : t501 = true
           ·subst c126
            have H1 : ((impl_FrmTimes.f t370 t373 t376 (-1)).bind fun bt502 => ((impl_FrmAdd.f t370 t373 t376 bt502.1 bt502.2.1 bt502.2.2).bind fun bt509 => ((impl_FrmZero.f).bind fun bt516 => ((laws_coForm.f kj8 bt509.1 bt509.2.1 bt509.2.2 bt516.1 bt516.2.1 bt516.2.2).bind fun t523 => (some t523))))) = some r := by rw [if_pos rfl] at H; exact H
            clear H
            have H := H1
            clear H1
            replace H := Option.bind_eq_some_iff.mp H
            obtain ⟨⟨t502, t505, t508⟩, A1270, H⟩ := H
            replace H : ((impl_FrmAdd.f t370 t373 t376 t502 t505 t508).bind fun bt509 => ((impl_FrmZero.f).bind fun bt516 => ((laws_coForm.f kj8 bt509.1 bt509.2.1 bt509.2.2 bt516.1 bt516.2.1 bt516.2.2).bind fun t523 => (some t523)))) = some r := H
            have A127 := Aside0.mk A1270
            clear A1270
            replace H := Option.bind_eq_some_iff.mp H
            obtain ⟨⟨t509, t512, t515⟩, A1280, H⟩ := H
            replace H : ((impl_FrmZero.f).bind fun bt516 => ((laws_coForm.f kj8 t509 t512 t515 bt516.1 bt516.2.1 bt516.2.2).bind fun t523 => (some t523))) = some r := H
            have A128 := Aside0.mk A1280
            clear A1280
            replace H := Option.bind_eq_some_iff.mp H
            obtain ⟨⟨t516, t519, t522⟩, A1290, H⟩ := H
            replace H : ((laws_coForm.f kj8 t509 t512 t515 t516 t519 t522).bind fun t523 => (some t523)) = some r := H
            have A129 := Aside0.mk A1290
            clear A1290
            replace H := Option.bind_eq_some_iff.mp H
            obtain ⟨t523, A1300, H⟩ := H
            replace H : (some t523) = some r := H
            have A130 := Aside0.mk A1300
            clear A1300
            obtain rfl := Option.some.inj H
            have n_ := Aside0.mk (Kd.R_mono (ok' := fun k_ => (some k_ ≠ (v390 : Value).ownBlock ∧ (some k_ ≠ (.slice Ao12 t370.length co12 : Value).ownBlock ∧ (some k_ ≠ (.slice Ao14 t373.length co14 : Value).ownBlock ∧ (some k_ ≠ (.slice Ao24 t393.length co24 : Value).ownBlock ∧ some k_ ≠ (.slice Ao28 t396.length co28 : Value).ownBlock))))) HO_8.out (fun _ hk => ⟨hk.1, ⟨hk.2.1, ⟨hk.2.2.1, ⟨hk.2.2.2.2.2.1, hk.2.2.2.2.2.2⟩⟩⟩⟩))
            clear HO_8
            have HO_8 := n_
            clear n_
            have n_ := Aside0.mk (Kd.R_mono (ok' := fun k_ => (some k_ ≠ (v387 : Value).ownBlock ∧ (some k_ ≠ (.slice Ao12 t370.length co12 : Value).ownBlock ∧ (some k_ ≠ (.slice Ao14 t373.length co14 : Value).ownBlock ∧ (some k_ ≠ (.slice Ao24 t393.length co24 : Value).ownBlock ∧ some k_ ≠ (.slice Ao28 t396.length co28 : Value).ownBlock))))) HO_9.out (fun _ hk => ⟨hk.1, ⟨hk.2.1, ⟨hk.2.2.1, ⟨hk.2.2.2.2.2.1, hk.2.2.2.2.2.2⟩⟩⟩⟩))
            clear HO_9
            have HO_9 := n_
            clear n_
            have n_ := Aside0.mk (Kd.R_mono (ok' := fun k_ => (some k_ ≠ (v387 : Value).ownBlock ∧ (some k_ ≠ (v390 : Value).ownBlock ∧ (some k_ ≠ (.slice Ao14 t373.length co14 : Value).ownBlock ∧ (some k_ ≠ (.slice Ao24 t393.length co24 : Value).ownBlock ∧ some k_ ≠ (.slice Ao28 t396.length co28 : Value).ownBlock))))) HO_379000.out (fun _ hk => ⟨hk.1, ⟨hk.2.1, ⟨hk.2.2.1, ⟨hk.2.2.2.2.2.1, hk.2.2.2.2.2.2⟩⟩⟩⟩))
            clear HO_379000
            have HO_379000 := n_
            clear n_
            have n_ := Aside0.mk (Kd.R_mono (ok' := fun k_ => (some k_ ≠ (v387 : Value).ownBlock ∧ (some k_ ≠ (v390 : Value).ownBlock ∧ (some k_ ≠ (.slice Ao12 t370.length co12 : Value).ownBlock ∧ (some k_ ≠ (.slice Ao24 t393.length co24 : Value).ownBlock ∧ some k_ ≠ (.slice Ao28 t396.length co28 : Value).ownBlock))))) HO_379001.out (fun _ hk => ⟨hk.1, ⟨hk.2.1, ⟨hk.2.2.1, ⟨hk.2.2.2.2.2.1, hk.2.2.2.2.2.2⟩⟩⟩⟩))
            clear HO_379001
            have HO_379001 := n_
            clear n_
            have n_ := Aside0.mk (Kd.R_mono (ok' := fun k_ => (some k_ ≠ (v387 : Value).ownBlock ∧ (some k_ ≠ (v390 : Value).ownBlock ∧ (some k_ ≠ (.slice Ao12 t370.length co12 : Value).ownBlock ∧ (some k_ ≠ (.slice Ao14 t373.length co14 : Value).ownBlock ∧ some k_ ≠ (.slice Ao28 t396.length co28 : Value).ownBlock))))) HO_401000.out (fun _ hk => ⟨hk.1, ⟨hk.2.1, ⟨hk.2.2.1, ⟨hk.2.2.2.1, hk.2.2.2.2.2.2⟩⟩⟩⟩))
            clear HO_401000
            have HO_401000 := n_
            clear n_
            have n_ := Aside0.mk (Kd.R_mono (ok' := fun k_ => (some k_ ≠ (v387 : Value).ownBlock ∧ (some k_ ≠ (v390 : Value).ownBlock ∧ (some k_ ≠ (.slice Ao12 t370.length co12 : Value).ownBlock ∧ (some k_ ≠ (.slice Ao14 t373.length co14 : Value).ownBlock ∧ some k_ ≠ (.slice Ao24 t393.length co24 : Value).ownBlock))))) HO_401001.out (fun _ hk => ⟨hk.1, ⟨hk.2.1, ⟨hk.2.2.1, ⟨hk.2.2.2.1, hk.2.2.2.2.2.2⟩⟩⟩⟩))
            clear HO_401001
            have HO_401001 := n_
            clear n_
            have hnb131 := NB378_392.out
            have hnc131 := NB392_378.out
            have hnb132 := NB378_400.out
            have hnc132 := NB400_378.out
            obtain ⟨hcz133_0, hcz133_1, hcz133_2, hfz133_0, hfz133_1, hfz133_2⟩ := cf3 BK378.out
            try go_wp2_with (first | ((with_reducible refine gate_callee (f := 11) rfl ?_); refine goesL_ (some 52) rfl rfl Try.func11 (by kernel_rfl) rfl #[.agg #[.slice Ao12 t370.length co12, .slice Ao14 t373.length co14, .int .i64 t376]] rfl (by (try simp only [mA, mC, mN]); first | done | rfl | (simp only [ld, lt]; rfl)) ?_; (with_reducible refine (impl_FrmOk.calls _ _ t370 _ _ t373 t376 true _ ?side1 ?side2 ?side3 ?side4 A49.out).mono ?_); (case side1 => exact lC <| (Kd.R_reads' HO_379000.out).2.2); (case side2 => exact (Kd.R_reads' HO_379000.out).2.1); (case side3 => exact lC <| (Kd.R_reads' HO_379001.out).2.2); (case side4 => exact (Kd.R_reads' HO_379001.out).2.1); rintro e w134 ⟨rfl, hb⟩; refine ⟨_, rfl, ?_⟩; replace HO_8 := Aside0.mk (rb HO_8.out hb); replace HO_9 := Aside0.mk (rb HO_9.out hb); replace HO_379000 := Aside0.mk (rb HO_379000.out hb); replace HO_379001 := Aside0.mk (rb HO_379001.out hb); replace HO_401000 := Aside0.mk (rb HO_401000.out hb); replace HO_401001 := Aside0.mk (rb HO_401001.out hb); replace BK378 := Aside0.mk (bb BK378.out hb); replace BK392 := Aside0.mk (bb BK392.out hb); replace BK400 := Aside0.mk (bb BK400.out hb); replace HB := Aside0.mk (below_step (by exact jB HB.out) hb); (try clear hb); (try clear hb2); (try clear hk); (try clear hi); have hnb135 := NB400_392.out; have hnc135 := NB392_400.out; obtain ⟨hcz136_0, hcz136_1, hcz136_2, hfz136_0, hfz136_1, hfz136_2⟩ := cf3 BK400.out; obtain ⟨Ao137, co137, eo137⟩ := Kd.R_slice HO_8.out; subst eo137; obtain ⟨Ao138, co138, eo138⟩ := Kd.R_slice HO_9.out; subst eo138) | ((with_reducible refine gate_callee (f := 12) rfl ?_); refine goesL_ (some 65) rfl rfl Try.func12 (by kernel_rfl) rfl #[.agg #[.slice Ao24 t393.length co24, .slice Ao28 t396.length co28, .int .i64 t399], .slice Ao137 t386.length co137, .slice Ao138 t389.length co138] rfl (by (try simp only [mA, mC, mN]); first | done | rfl | (simp only [ld, lt]; rfl)) ?_; (with_reducible refine (impl_FrmAt.calls kj8 _ _ t393 _ _ t396 t399 _ _ t386 _ _ t389 t413 false _ ?side1 ?side2 ?side3 ?side4 ?side5 ?side6 ?side7 ?side8 A51.out).mono ?_); (case side1 => exact lC <| (Kd.R_reads' HO_401000.out).2.2); (case side2 => exact (Kd.R_reads' HO_401000.out).2.1); (case side3 => exact lC <| (Kd.R_reads' HO_401001.out).2.2); (case side4 => exact (Kd.R_reads' HO_401001.out).2.1); (case side5 => exact lC <| (Kd.R_reads' HO_8.out).2.2); (case side6 => exact (Kd.R_reads' HO_8.out).2.1); (case side7 => exact lC <| (Kd.R_reads' HO_9.out).2.2); (case side8 => exact (Kd.R_reads' HO_9.out).2.1); rintro e w139 ⟨rfl, hb⟩; refine ⟨_, rfl, ?_⟩; replace HO_8 := Aside0.mk (rb HO_8.out hb); replace HO_9 := Aside0.mk (rb HO_9.out hb); replace HO_379000 := Aside0.mk (rb HO_379000.out hb); replace HO_379001 := Aside0.mk (rb HO_379001.out hb); replace HO_401000 := Aside0.mk (rb HO_401000.out hb); replace HO_401001 := Aside0.mk (rb HO_401001.out hb); replace BK378 := Aside0.mk (bb BK378.out hb); replace BK392 := Aside0.mk (bb BK392.out hb); replace BK400 := Aside0.mk (bb BK400.out hb); replace HB := Aside0.mk (below_step (by exact jB HB.out) hb); (try clear hb); (try clear hb2); (try clear hk); (try clear hi); obtain ⟨hcz140_0, hcz140_1, hcz140_2, hfz140_0, hfz140_1, hfz140_2⟩ := cf3 BK378.out) | ((with_reducible refine gate_callee (f := 12) rfl ?_); refine goesL_ (some 72) rfl rfl Try.func12 (by kernel_rfl) rfl #[.agg #[.slice Ao12 t370.length co12, .slice Ao14 t373.length co14, .int .i64 t376], .slice Ao137 t386.length co137, .slice Ao138 t389.length co138] rfl (by (try simp only [mA, mC, mN]); first | done | rfl | (simp only [ld, lt]; rfl)) ?_; (with_reducible refine (impl_FrmAt.calls kj8 _ _ t370 _ _ t373 t376 _ _ t386 _ _ t389 t415 t416 _ ?side1 ?side2 ?side3 ?side4 ?side5 ?side6 ?side7 ?side8 A52.out).mono ?_); (case side1 => exact lC <| (Kd.R_reads' HO_379000.out).2.2); (case side2 => exact (Kd.R_reads' HO_379000.out).2.1); (case side3 => exact lC <| (Kd.R_reads' HO_379001.out).2.2); (case side4 => exact (Kd.R_reads' HO_379001.out).2.1); (case side5 => exact lC <| (Kd.R_reads' HO_8.out).2.2); (case side6 => exact (Kd.R_reads' HO_8.out).2.1); (case side7 => exact lC <| (Kd.R_reads' HO_9.out).2.2); (case side8 => exact (Kd.R_reads' HO_9.out).2.1); rintro e w141 ⟨rfl, hb⟩; refine ⟨_, rfl, ?_⟩; replace HO_8 := Aside0.mk (rb HO_8.out hb); replace HO_9 := Aside0.mk (rb HO_9.out hb); replace HO_379000 := Aside0.mk (rb HO_379000.out hb); replace HO_379001 := Aside0.mk (rb HO_379001.out hb); replace HO_401000 := Aside0.mk (rb HO_401000.out hb); replace HO_401001 := Aside0.mk (rb HO_401001.out hb); replace BK378 := Aside0.mk (bb BK378.out hb); replace BK392 := Aside0.mk (bb BK392.out hb); replace BK400 := Aside0.mk (bb BK400.out hb); replace HB := Aside0.mk (below_step (by exact jB HB.out) hb); (try clear hb); (try clear hb2); (try clear hk); (try clear hi); obtain ⟨hcz142_0, hcz142_1, hcz142_2, hfz142_0, hfz142_1, hfz142_2⟩ := cf3 BK378.out) | ((with_reducible refine gate_callee (f := 15) rfl ?_); refine goesL_ (some 76) rfl rfl Try.func15 (by kernel_rfl) rfl #[.agg #[.slice Ao12 t370.length co12, .slice Ao14 t373.length co14, .int .i64 t376], .int .i64 (-1)] rfl (by (try simp only [mA, mC, mN]); first | done | rfl | (simp only [ld, lt]; rfl)) ?_; (with_reducible refine (impl_FrmTimes.calls _ _ t370 _ _ t373 t376 (-1) t417 t420 t423 _ ?side1 ?side2 ?side3 ?side4 A53.out).mono ?_); (case side1 => exact lC <| (Kd.R_reads' HO_379000.out).2.2); (case side2 => exact (Kd.R_reads' HO_379000.out).2.1); (case side3 => exact lC <| (Kd.R_reads' HO_379001.out).2.2); (case side4 => exact (Kd.R_reads' HO_379001.out).2.1); rintro e w143 ⟨v418, v421, rfl, ho0, ho1, hb⟩; refine ⟨_, rfl, ?_⟩; have HO419 := Aside0.mk (Kd.R_lower (Kd.R_new' (Kd.R_new' (Kd.R_new' (Kd.R_new' (Kd.R_new' (Kd.R_new' ho0 (rl HO_8.out)) (rl HO_9.out)) (rl HO_379000.out)) (rl HO_379001.out)) (rl HO_401000.out)) (rl HO_401001.out)) (below_size (by exact jB HB.out))); have HO422 := Aside0.mk (Kd.R_lower (Kd.R_new' (Kd.R_new' (Kd.R_new' (Kd.R_new' (Kd.R_new' (Kd.R_new' ho1 (rl HO_8.out)) (rl HO_9.out)) (rl HO_379000.out)) (rl HO_379001.out)) (rl HO_401000.out)) (rl HO_401001.out)) (below_size (by exact jB HB.out))); replace HO_8 := Aside0.mk (o2 HO_8.out hb ho0 ho1); replace HO_9 := Aside0.mk (o2 HO_9.out hb ho0 ho1); replace HO_379000 := Aside0.mk (o2 HO_379000.out hb ho0 ho1); replace HO_379001 := Aside0.mk (o2 HO_379001.out hb ho0 ho1); replace HO_401000 := Aside0.mk (o2 HO_401000.out hb ho0 ho1); replace HO_401001 := Aside0.mk (o2 HO_401001.out hb ho0 ho1); replace BK378 := Aside0.mk (bb BK378.out hb); replace BK392 := Aside0.mk (bb BK392.out hb); replace BK400 := Aside0.mk (bb BK400.out hb); replace HB := Aside0.mk (below_step (by exact jB HB.out) hb); (try clear hb); (try clear hb2); (try clear hk); (try clear hi); (try clear ho0); (try clear ho1); obtain ⟨Ao144, co144, eo144⟩ := Kd.R_slice HO419.out; subst eo144; obtain ⟨Ao145, co145, eo145⟩ := Kd.R_slice HO422.out; subst eo145) | ((with_reducible refine gate_callee (f := 15) rfl ?_); refine goesL_ (some 77) rfl rfl Try.func15 (by kernel_rfl) rfl #[.agg #[.slice Ao144 t417.length co144, .slice Ao145 t420.length co145, .int .i64 t423], .int .i64 (-1)] rfl (by (try simp only [mA, mC, mN]); first | done | rfl | (simp only [ld, lt]; rfl)) ?_; (with_reducible refine (impl_FrmTimes.calls _ _ t417 _ _ t420 t423 (-1) t424 t427 t430 _ ?side1 ?side2 ?side3 ?side4 A54.out).mono ?_); (case side1 => exact lC <| (Kd.R_reads' HO419.out).2.2); (case side2 => exact (Kd.R_reads' HO419.out).2.1); (case side3 => exact lC <| (Kd.R_reads' HO422.out).2.2); (case side4 => exact (Kd.R_reads' HO422.out).2.1); rintro e w146 ⟨v425, v428, rfl, ho0, ho1, hb⟩; refine ⟨_, rfl, ?_⟩; have HO426 := Aside0.mk (Kd.R_lower (Kd.R_new' (Kd.R_new' (Kd.R_new' (Kd.R_new' (Kd.R_new' (Kd.R_new' (Kd.R_new' (Kd.R_new' ho0 (rl HO_8.out)) (rl HO_9.out)) (rl HO_379000.out)) (rl HO_379001.out)) (rl HO_401000.out)) (rl HO_401001.out)) (rl HO419.out)) (rl HO422.out)) (below_size (by exact jB HB.out))); have HO429 := Aside0.mk (Kd.R_lower (Kd.R_new' (Kd.R_new' (Kd.R_new' (Kd.R_new' (Kd.R_new' (Kd.R_new' (Kd.R_new' (Kd.R_new' ho1 (rl HO_8.out)) (rl HO_9.out)) (rl HO_379000.out)) (rl HO_379001.out)) (rl HO_401000.out)) (rl HO_401001.out)) (rl HO419.out)) (rl HO422.out)) (below_size (by exact jB HB.out))); replace HO_8 := Aside0.mk (o2 HO_8.out hb ho0 ho1); replace HO_9 := Aside0.mk (o2 HO_9.out hb ho0 ho1); replace HO_379000 := Aside0.mk (o2 HO_379000.out hb ho0 ho1); replace HO_379001 := Aside0.mk (o2 HO_379001.out hb ho0 ho1); replace HO_401000 := Aside0.mk (o2 HO_401000.out hb ho0 ho1); replace HO_401001 := Aside0.mk (o2 HO_401001.out hb ho0 ho1); replace HO419 := Aside0.mk (o2 HO419.out hb ho0 ho1); replace HO422 := Aside0.mk (o2 HO422.out hb ho0 ho1); replace BK378 := Aside0.mk (bb BK378.out hb); replace BK392 := Aside0.mk (bb BK392.out hb); replace BK400 := Aside0.mk (bb BK400.out hb); replace HB := Aside0.mk (below_step (by exact jB HB.out) hb); (try clear hb); (try clear hb2); (try clear hk); (try clear hi); (try clear ho0); (try clear ho1)) | ((with_reducible refine gate_dst (N := 15) rfl ?_); (try (refine gate_guard (by rfl) ?_; dsimp only)); refine box_event ?hg (N := 15) ?hd (cs := #[.slice none 0 0, .slice none 0 0, .int .i64 0]) (t := 25) ?hr ?_; (case hd => rfl); (case hg => rfl); (case hr => first | (go_simp; done) | (go_simp; rfl)); intro gb431 hg w147 hbox hb; replace HO_8 := Aside0.mk (rb HO_8.out hb); replace HO_9 := Aside0.mk (rb HO_9.out hb); replace HO_379000 := Aside0.mk (rb HO_379000.out hb); replace HO_379001 := Aside0.mk (rb HO_379001.out hb); replace HO_401000 := Aside0.mk (rb HO_401000.out hb); replace HO_401001 := Aside0.mk (rb HO_401001.out hb); replace HO419 := Aside0.mk (rb HO419.out hb); replace HO422 := Aside0.mk (rb HO422.out hb); replace HO426 := Aside0.mk (rb HO426.out hb); replace HO429 := Aside0.mk (rb HO429.out hb); have BK431 := Aside0.mk (hbox); have GW431 := Aside0.mk ((by rw [hg]; exact (below_size (by exact jB HB.out)) : w.heap.size ≤ gb431)); have IGW431 : Nonempty _ := ⟨GW431.out⟩; have GE431 := Aside0.mk ((by rw [hg]; exact (below_size (by exact jB HB.out)) : w.heap.size ≤ gb431)); have IGE431 : Nonempty _ := ⟨GE431.out⟩; replace HB := Aside0.mk (below_step (by exact jB HB.out) hb); have NB378_431 := Aside0.mk ((neL hg (lK BK378.out) : gb378 ≠ gb431)); have INB378_431 : Nonempty _ := ⟨NB378_431.out⟩; have NB431_378 := Aside0.mk ((neG hg (lK BK378.out) : gb431 ≠ gb378)); have INB431_378 : Nonempty _ := ⟨NB431_378.out⟩; replace BK378 := Aside0.mk (bb BK378.out hb); have NB392_431 := Aside0.mk ((neL hg (lK BK392.out) : gb392 ≠ gb431)); have INB392_431 : Nonempty _ := ⟨NB392_431.out⟩; have NB431_392 := Aside0.mk ((neG hg (lK BK392.out) : gb431 ≠ gb392)); have INB431_392 : Nonempty _ := ⟨NB431_392.out⟩; replace BK392 := Aside0.mk (bb BK392.out hb); have NB400_431 := Aside0.mk ((neL hg (lK BK400.out) : gb400 ≠ gb431)); have INB400_431 : Nonempty _ := ⟨NB400_431.out⟩; have NB431_400 := Aside0.mk ((neG hg (lK BK400.out) : gb431 ≠ gb400)); have INB431_400 : Nonempty _ := ⟨NB431_400.out⟩; replace BK400 := Aside0.mk (bb BK400.out hb); clear hb hbox hg; obtain ⟨Ao148, co148, eo148⟩ := Kd.R_slice HO426.out; subst eo148; have hnb149 := NB431_378.out; have hnc149 := NB378_431.out; have hnb150 := NB431_392.out; have hnc150 := NB392_431.out; have hnb151 := NB431_400.out; have hnc151 := NB400_431.out; obtain ⟨hcz152_0, hcz152_1, hcz152_2, hfz152_0, hfz152_1, hfz152_2⟩ := cf3 BK431.out; obtain ⟨Ao153, co153, eo153⟩ := Kd.R_slice HO429.out; subst eo153))
            have n0_ := Aside0.mk (Kd.R_mono (ok' := (fun k_ => some k_ ≠ (.slice Ao138 t389.length co138 : Value).ownBlock ∧ some k_ ≠ (.slice Ao12 t370.length co12 : Value).ownBlock ∧ some k_ ≠ (.slice Ao14 t373.length co14 : Value).ownBlock ∧ some k_ ≠ (.slice Ao24 t393.length co24 : Value).ownBlock ∧ some k_ ≠ (.slice Ao28 t396.length co28 : Value).ownBlock ∧ some k_ ≠ (.slice Ao144 t417.length co144 : Value).ownBlock ∧ some k_ ≠ (.slice Ao145 t420.length co145 : Value).ownBlock ∧ some k_ ≠ (.slice Ao148 t424.length co148 : Value).ownBlock ∧ some k_ ≠ (.slice Ao153 t427.length co153 : Value).ownBlock)) (R3 (w := w147) (x := (.slice Ao148 t424.length co148)) (y := (.slice Ao153 t427.length co153)) (z := (.int .i64 t430)) (lR HO_8.out) (lK BK431.out)) (fun _ hk => ⟨hk.1.1.1.1.1, ⟨hk.1.1.1.1.2.1, ⟨hk.1.1.1.1.2.2.1, ⟨hk.1.1.1.1.2.2.2.1, ⟨hk.1.1.1.1.2.2.2.2, ⟨hk.1.1.1.2, ⟨hk.1.1.2, ⟨hk.1.2, hk.2⟩⟩⟩⟩⟩⟩⟩⟩))
            have n1_ := Aside0.mk (Kd.R_mono (ok' := (fun k_ => some k_ ≠ (.slice Ao137 t386.length co137 : Value).ownBlock ∧ some k_ ≠ (.slice Ao12 t370.length co12 : Value).ownBlock ∧ some k_ ≠ (.slice Ao14 t373.length co14 : Value).ownBlock ∧ some k_ ≠ (.slice Ao24 t393.length co24 : Value).ownBlock ∧ some k_ ≠ (.slice Ao28 t396.length co28 : Value).ownBlock ∧ some k_ ≠ (.slice Ao144 t417.length co144 : Value).ownBlock ∧ some k_ ≠ (.slice Ao145 t420.length co145 : Value).ownBlock ∧ some k_ ≠ (.slice Ao148 t424.length co148 : Value).ownBlock ∧ some k_ ≠ (.slice Ao153 t427.length co153 : Value).ownBlock)) (R3 (w := w147) (x := (.slice Ao148 t424.length co148)) (y := (.slice Ao153 t427.length co153)) (z := (.int .i64 t430)) (lR HO_9.out) (lK BK431.out)) (fun _ hk => ⟨hk.1.1.1.1.1, ⟨hk.1.1.1.1.2.1, ⟨hk.1.1.1.1.2.2.1, ⟨hk.1.1.1.1.2.2.2.1, ⟨hk.1.1.1.1.2.2.2.2, ⟨hk.1.1.1.2, ⟨hk.1.1.2, ⟨hk.1.2, hk.2⟩⟩⟩⟩⟩⟩⟩⟩))
            have n2_ := Aside0.mk (Kd.R_mono (ok' := (fun k_ => some k_ ≠ (.slice Ao137 t386.length co137 : Value).ownBlock ∧ some k_ ≠ (.slice Ao138 t389.length co138 : Value).ownBlock ∧ some k_ ≠ (.slice Ao14 t373.length co14 : Value).ownBlock ∧ some k_ ≠ (.slice Ao24 t393.length co24 : Value).ownBlock ∧ some k_ ≠ (.slice Ao28 t396.length co28 : Value).ownBlock ∧ some k_ ≠ (.slice Ao144 t417.length co144 : Value).ownBlock ∧ some k_ ≠ (.slice Ao145 t420.length co145 : Value).ownBlock ∧ some k_ ≠ (.slice Ao148 t424.length co148 : Value).ownBlock ∧ some k_ ≠ (.slice Ao153 t427.length co153 : Value).ownBlock)) (R3 (w := w147) (x := (.slice Ao148 t424.length co148)) (y := (.slice Ao153 t427.length co153)) (z := (.int .i64 t430)) (lR HO_379000.out) (lK BK431.out)) (fun _ hk => ⟨hk.1.1.1.1.1, ⟨hk.1.1.1.1.2.1, ⟨hk.1.1.1.1.2.2.1, ⟨hk.1.1.1.1.2.2.2.1, ⟨hk.1.1.1.1.2.2.2.2, ⟨hk.1.1.1.2, ⟨hk.1.1.2, ⟨hk.1.2, hk.2⟩⟩⟩⟩⟩⟩⟩⟩))
            have n3_ := Aside0.mk (Kd.R_mono (ok' := (fun k_ => some k_ ≠ (.slice Ao137 t386.length co137 : Value).ownBlock ∧ some k_ ≠ (.slice Ao138 t389.length co138 : Value).ownBlock ∧ some k_ ≠ (.slice Ao12 t370.length co12 : Value).ownBlock ∧ some k_ ≠ (.slice Ao24 t393.length co24 : Value).ownBlock ∧ some k_ ≠ (.slice Ao28 t396.length co28 : Value).ownBlock ∧ some k_ ≠ (.slice Ao144 t417.length co144 : Value).ownBlock ∧ some k_ ≠ (.slice Ao145 t420.length co145 : Value).ownBlock ∧ some k_ ≠ (.slice Ao148 t424.length co148 : Value).ownBlock ∧ some k_ ≠ (.slice Ao153 t427.length co153 : Value).ownBlock)) (R3 (w := w147) (x := (.slice Ao148 t424.length co148)) (y := (.slice Ao153 t427.length co153)) (z := (.int .i64 t430)) (lR HO_379001.out) (lK BK431.out)) (fun _ hk => ⟨hk.1.1.1.1.1, ⟨hk.1.1.1.1.2.1, ⟨hk.1.1.1.1.2.2.1, ⟨hk.1.1.1.1.2.2.2.1, ⟨hk.1.1.1.1.2.2.2.2, ⟨hk.1.1.1.2, ⟨hk.1.1.2, ⟨hk.1.2, hk.2⟩⟩⟩⟩⟩⟩⟩⟩))
            have n4_ := Aside0.mk (Kd.R_mono (ok' := (fun k_ => some k_ ≠ (.slice Ao137 t386.length co137 : Value).ownBlock ∧ some k_ ≠ (.slice Ao138 t389.length co138 : Value).ownBlock ∧ some k_ ≠ (.slice Ao12 t370.length co12 : Value).ownBlock ∧ some k_ ≠ (.slice Ao14 t373.length co14 : Value).ownBlock ∧ some k_ ≠ (.slice Ao28 t396.length co28 : Value).ownBlock ∧ some k_ ≠ (.slice Ao144 t417.length co144 : Value).ownBlock ∧ some k_ ≠ (.slice Ao145 t420.length co145 : Value).ownBlock ∧ some k_ ≠ (.slice Ao148 t424.length co148 : Value).ownBlock ∧ some k_ ≠ (.slice Ao153 t427.length co153 : Value).ownBlock)) (R3 (w := w147) (x := (.slice Ao148 t424.length co148)) (y := (.slice Ao153 t427.length co153)) (z := (.int .i64 t430)) (lR HO_401000.out) (lK BK431.out)) (fun _ hk => ⟨hk.1.1.1.1.1, ⟨hk.1.1.1.1.2.1, ⟨hk.1.1.1.1.2.2.1, ⟨hk.1.1.1.1.2.2.2.1, ⟨hk.1.1.1.1.2.2.2.2, ⟨hk.1.1.1.2, ⟨hk.1.1.2, ⟨hk.1.2, hk.2⟩⟩⟩⟩⟩⟩⟩⟩))
            have n5_ := Aside0.mk (Kd.R_mono (ok' := (fun k_ => some k_ ≠ (.slice Ao137 t386.length co137 : Value).ownBlock ∧ some k_ ≠ (.slice Ao138 t389.length co138 : Value).ownBlock ∧ some k_ ≠ (.slice Ao12 t370.length co12 : Value).ownBlock ∧ some k_ ≠ (.slice Ao14 t373.length co14 : Value).ownBlock ∧ some k_ ≠ (.slice Ao24 t393.length co24 : Value).ownBlock ∧ some k_ ≠ (.slice Ao144 t417.length co144 : Value).ownBlock ∧ some k_ ≠ (.slice Ao145 t420.length co145 : Value).ownBlock ∧ some k_ ≠ (.slice Ao148 t424.length co148 : Value).ownBlock ∧ some k_ ≠ (.slice Ao153 t427.length co153 : Value).ownBlock)) (R3 (w := w147) (x := (.slice Ao148 t424.length co148)) (y := (.slice Ao153 t427.length co153)) (z := (.int .i64 t430)) (lR HO_401001.out) (lK BK431.out)) (fun _ hk => ⟨hk.1.1.1.1.1, ⟨hk.1.1.1.1.2.1, ⟨hk.1.1.1.1.2.2.1, ⟨hk.1.1.1.1.2.2.2.1, ⟨hk.1.1.1.1.2.2.2.2, ⟨hk.1.1.1.2, ⟨hk.1.1.2, ⟨hk.1.2, hk.2⟩⟩⟩⟩⟩⟩⟩⟩))
            have n6_ := Aside0.mk (Kd.R_mono (ok' := (fun k_ => some k_ ≠ (.slice Ao137 t386.length co137 : Value).ownBlock ∧ some k_ ≠ (.slice Ao138 t389.length co138 : Value).ownBlock ∧ some k_ ≠ (.slice Ao12 t370.length co12 : Value).ownBlock ∧ some k_ ≠ (.slice Ao14 t373.length co14 : Value).ownBlock ∧ some k_ ≠ (.slice Ao24 t393.length co24 : Value).ownBlock ∧ some k_ ≠ (.slice Ao28 t396.length co28 : Value).ownBlock ∧ some k_ ≠ (.slice Ao145 t420.length co145 : Value).ownBlock ∧ some k_ ≠ (.slice Ao148 t424.length co148 : Value).ownBlock ∧ some k_ ≠ (.slice Ao153 t427.length co153 : Value).ownBlock)) (R3 (w := w147) (x := (.slice Ao148 t424.length co148)) (y := (.slice Ao153 t427.length co153)) (z := (.int .i64 t430)) (lR HO419.out) (lK BK431.out)) (fun _ hk => ⟨hk.1.1.1.1.1.1.1.2, ⟨hk.1.1.1.1.1.1.2, ⟨hk.1.1.1.1.1.2, ⟨hk.1.1.1.1.2, ⟨hk.1.1.1.2, ⟨hk.1.1.2, ⟨hk.1.1.1.1.1.1.1.1, ⟨hk.1.2, hk.2⟩⟩⟩⟩⟩⟩⟩⟩))
            have n7_ := Aside0.mk (Kd.R_mono (ok' := (fun k_ => some k_ ≠ (.slice Ao137 t386.length co137 : Value).ownBlock ∧ some k_ ≠ (.slice Ao138 t389.length co138 : Value).ownBlock ∧ some k_ ≠ (.slice Ao12 t370.length co12 : Value).ownBlock ∧ some k_ ≠ (.slice Ao14 t373.length co14 : Value).ownBlock ∧ some k_ ≠ (.slice Ao24 t393.length co24 : Value).ownBlock ∧ some k_ ≠ (.slice Ao28 t396.length co28 : Value).ownBlock ∧ some k_ ≠ (.slice Ao144 t417.length co144 : Value).ownBlock ∧ some k_ ≠ (.slice Ao148 t424.length co148 : Value).ownBlock ∧ some k_ ≠ (.slice Ao153 t427.length co153 : Value).ownBlock)) (R3 (w := w147) (x := (.slice Ao148 t424.length co148)) (y := (.slice Ao153 t427.length co153)) (z := (.int .i64 t430)) (lR HO422.out) (lK BK431.out)) (fun _ hk => ⟨hk.1.1.1.1.1.1.1.2, ⟨hk.1.1.1.1.1.1.2, ⟨hk.1.1.1.1.1.2, ⟨hk.1.1.1.1.2, ⟨hk.1.1.1.2, ⟨hk.1.1.2, ⟨hk.1.1.1.1.1.1.1.1, ⟨hk.1.2, hk.2⟩⟩⟩⟩⟩⟩⟩⟩))
            have n8_ := Aside0.mk (Kd.R_mono (ok' := (fun k_ => some k_ ≠ (.slice Ao137 t386.length co137 : Value).ownBlock ∧ some k_ ≠ (.slice Ao138 t389.length co138 : Value).ownBlock ∧ some k_ ≠ (.slice Ao12 t370.length co12 : Value).ownBlock ∧ some k_ ≠ (.slice Ao14 t373.length co14 : Value).ownBlock ∧ some k_ ≠ (.slice Ao24 t393.length co24 : Value).ownBlock ∧ some k_ ≠ (.slice Ao28 t396.length co28 : Value).ownBlock ∧ some k_ ≠ (.slice Ao144 t417.length co144 : Value).ownBlock ∧ some k_ ≠ (.slice Ao145 t420.length co145 : Value).ownBlock ∧ some k_ ≠ (.slice Ao153 t427.length co153 : Value).ownBlock)) (R3 (w := w147) (x := (.slice Ao148 t424.length co148)) (y := (.slice Ao153 t427.length co153)) (z := (.int .i64 t430)) (lR HO426.out) (lK BK431.out)) (fun _ hk => ⟨hk.1.1.1.1.1.1.1.2, ⟨hk.1.1.1.1.1.1.2, ⟨hk.1.1.1.1.1.2, ⟨hk.1.1.1.1.2, ⟨hk.1.1.1.2, ⟨hk.1.1.2, ⟨hk.1.2, ⟨hk.2, hk.1.1.1.1.1.1.1.1⟩⟩⟩⟩⟩⟩⟩⟩))
            have n9_ := Aside0.mk (Kd.R_mono (ok' := (fun k_ => some k_ ≠ (.slice Ao137 t386.length co137 : Value).ownBlock ∧ some k_ ≠ (.slice Ao138 t389.length co138 : Value).ownBlock ∧ some k_ ≠ (.slice Ao12 t370.length co12 : Value).ownBlock ∧ some k_ ≠ (.slice Ao14 t373.length co14 : Value).ownBlock ∧ some k_ ≠ (.slice Ao24 t393.length co24 : Value).ownBlock ∧ some k_ ≠ (.slice Ao28 t396.length co28 : Value).ownBlock ∧ some k_ ≠ (.slice Ao144 t417.length co144 : Value).ownBlock ∧ some k_ ≠ (.slice Ao145 t420.length co145 : Value).ownBlock ∧ some k_ ≠ (.slice Ao148 t424.length co148 : Value).ownBlock)) (R3 (w := w147) (x := (.slice Ao148 t424.length co148)) (y := (.slice Ao153 t427.length co153)) (z := (.int .i64 t430)) (lR HO429.out) (lK BK431.out)) (fun _ hk => ⟨hk.1.1.1.1.1.1.1.2, ⟨hk.1.1.1.1.1.1.2, ⟨hk.1.1.1.1.1.2, ⟨hk.1.1.1.1.2, ⟨hk.1.1.1.2, ⟨hk.1.1.2, ⟨hk.1.2, ⟨hk.2, hk.1.1.1.1.1.1.1.1⟩⟩⟩⟩⟩⟩⟩⟩))
            have n10_ : Aside0 ((((w147.setCell ⟨gb431, 0, none⟩ (.slice Ao148 t424.length co148)).setCell ⟨gb431, 1, none⟩ (.slice Ao153 t427.length co153)).setCell ⟨gb431, 2, none⟩ (.int .i64 t430)).heap[gb378]? = some (.cells #[.slice Ao12 t370.length co12, .slice Ao14 t373.length co14, .int .i64 t376] 25 (0, 0))) := ⟨by (with_reducible repeat first | refine kN ?_ _ | refine kD ?_ | refine kA ?_ _); refine blk_far ?_ NB378_431.out _; (with_reducible repeat first | refine kN ?_ _ | refine kD ?_ | refine kA ?_ _); refine blk_far ?_ NB378_431.out _; (with_reducible repeat first | refine kN ?_ _ | refine kD ?_ | refine kA ?_ _); refine blk_far ?_ NB378_431.out _; exact lK <| BK378.out⟩
            have n11_ : Aside0 ((((w147.setCell ⟨gb431, 0, none⟩ (.slice Ao148 t424.length co148)).setCell ⟨gb431, 1, none⟩ (.slice Ao153 t427.length co153)).setCell ⟨gb431, 2, none⟩ (.int .i64 t430)).heap[gb392]? = some (.cells #[.slice Ao17 t379.length co17, .slice Ao20 t382.length co20, .int .i64 t385] 25 (0, 0))) := ⟨by (with_reducible repeat first | refine kN ?_ _ | refine kD ?_ | refine kA ?_ _); refine blk_far ?_ NB392_431.out _; (with_reducible repeat first | refine kN ?_ _ | refine kD ?_ | refine kA ?_ _); refine blk_far ?_ NB392_431.out _; (with_reducible repeat first | refine kN ?_ _ | refine kD ?_ | refine kA ?_ _); refine blk_far ?_ NB392_431.out _; exact lK <| BK392.out⟩
            have n12_ : Aside0 ((((w147.setCell ⟨gb431, 0, none⟩ (.slice Ao148 t424.length co148)).setCell ⟨gb431, 1, none⟩ (.slice Ao153 t427.length co153)).setCell ⟨gb431, 2, none⟩ (.int .i64 t430)).heap[gb400]? = some (.cells #[.slice Ao24 t393.length co24, .slice Ao28 t396.length co28, .int .i64 t399] 25 (0, 0))) := ⟨by (with_reducible repeat first | refine kN ?_ _ | refine kD ?_ | refine kA ?_ _); refine blk_far ?_ NB400_431.out _; (with_reducible repeat first | refine kN ?_ _ | refine kD ?_ | refine kA ?_ _); refine blk_far ?_ NB400_431.out _; (with_reducible repeat first | refine kN ?_ _ | refine kD ?_ | refine kA ?_ _); refine blk_far ?_ NB400_431.out _; exact lK <| BK400.out⟩
            have n13_ := Aside0.mk (p3 (w := w147) (x := (.slice Ao148 t424.length co148)) (y := (.slice Ao153 t427.length co153)) (z := (.int .i64 t430)) (lK BK431.out))
            have n14_ : Aside0 (Below w.heap.size w (((w147.setCell ⟨gb431, 0, none⟩ (.slice Ao148 t424.length co148)).setCell ⟨gb431, 1, none⟩ (.slice Ao153 t427.length co153)).setCell ⟨gb431, 2, none⟩ (.int .i64 t430))) := ⟨by exact jB HB.out⟩
            (try clear HO_8)
            (try clear HO_9)
            (try clear HO_379000)
            (try clear HO_379001)
            (try clear HO_401000)
            (try clear HO_401001)
            (try clear HO419)
            (try clear HO422)
            (try clear HO426)
            (try clear HO429)
            (try clear BK378)
            (try clear BK392)
            (try clear BK400)
            (try clear BK431)
            (try clear HB)
            generalize (((w147.setCell ⟨gb431, 0, none⟩ (.slice Ao148 t424.length co148)).setCell ⟨gb431, 1, none⟩ (.slice Ao153 t427.length co153)).setCell ⟨gb431, 2, none⟩ (.int .i64 t430)) = w154 at n0_ n1_ n2_ n3_ n4_ n5_ n6_ n7_ n8_ n9_ n10_ n11_ n12_ n13_ n14_ ⊢
            have HO_8 := n0_
            have HO_9 := n1_
            have HO_379000 := n2_
            have HO_379001 := n3_
            have HO_401000 := n4_
            have HO_401001 := n5_
            have HO419 := n6_
            have HO422 := n7_
            have HO426 := n8_
            have HO429 := n9_
            have BK378 := n10_
            have BK392 := n11_
            have BK400 := n12_
            have BK431 := n13_
            have HB := n14_
            clear n0_ n1_ n2_ n3_ n4_ n5_ n6_ n7_ n8_ n9_ n10_ n11_ n12_ n13_ n14_
            replace HO_8 := Aside0.mk (Kd.R_drew HO_8.out)
            replace HO_9 := Aside0.mk (Kd.R_drew HO_9.out)
            replace HO_379000 := Aside0.mk (Kd.R_drew HO_379000.out)
            replace HO_379001 := Aside0.mk (Kd.R_drew HO_379001.out)
            replace HO_401000 := Aside0.mk (Kd.R_drew HO_401000.out)
            replace HO_401001 := Aside0.mk (Kd.R_drew HO_401001.out)
            replace HO419 := Aside0.mk (Kd.R_drew HO419.out)
            replace HO422 := Aside0.mk (Kd.R_drew HO422.out)
            replace HO426 := Aside0.mk (Kd.R_drew HO426.out)
            replace HO429 := Aside0.mk (Kd.R_drew HO429.out)
            replace BK378 := Aside0.mk (blk_drew BK378.out)
            replace BK392 := Aside0.mk (blk_drew BK392.out)
            replace BK400 := Aside0.mk (blk_drew BK400.out)
            replace BK431 := Aside0.mk (blk_drew BK431.out)
            replace HB := Aside0.mk (below_drew1 HB.out)
            refine start_ (n := 38) (S := fun w' => w'.cell? ⟨gb378, 0, none⟩ = some (.slice Ao12 t370.length co12) ∧ w'.cell? ⟨gb378, 1, none⟩ = some (.slice Ao14 t373.length co14) ∧ w'.cell? ⟨gb378, 2, none⟩ = some (.int .i64 t376) ∧ w'.cell? ⟨gb431, 0, none⟩ = some (.slice Ao148 t424.length co148) ∧ w'.cell? ⟨gb431, 1, none⟩ = some (.slice Ao153 t427.length co153) ∧ w'.cell? ⟨gb431, 2, none⟩ = some (.int .i64 t430)) (ds := []) #[false, false, false, false, false, false, false, false, false, false, false, false, false, false, false, false, false, false, false, false, false, false, false, false, false, false, false, false, false, false, false, false, false, false, false, false, false, false] (by kernel_rfl) rfl rfl ⟨(blk_cell BK378.out 0).trans rfl, (blk_cell BK378.out 1).trans rfl, (blk_cell BK378.out 2).trans rfl, (blk_cell BK431.out 0).trans rfl, (blk_cell BK431.out 1).trans rfl, (blk_cell BK431.out 2).trans rfl⟩ (fun hHeld => ?_); refine with_tabW laws_FnFrmTimes.tab13 laws_FnFrmTimes.bits13 (fun HT_ HW_ => ?_)
            generalize w154.drew = w155 at HO_8 HO_9 HO_379000 HO_379001 HO_401000 HO_401001 HO419 HO422 HO426 HO429 BK378 BK392 BK400 BK431 HB hHeld ⊢
            refine pure_ (i := 0) (N := some 78) (v := ?_) (a' := ?_) #[true, false, false, false, false, false, false, false, false, false, false, false, false, false, false, false, false, false, false, false, false, false, false, false, false, false, false, false, false, false, false, false, false, false, false, false, false, false] rfl rfl (any_of HT_.out (by kernel_rfl)) (fun _ _ _ h => h) (Or.inl ⟨by rfl, ?_⟩) ?_ ?_
            rotate_left
            ·intro w'
             go_simp
             with_reducible rfl
            rotate_left
            ·simp only [Act.put, sA, s0, sS, i64_w, i32_w]
             rfl
            refine pure_ (i := 1) (N := some 79) (v := ?_) (a' := ?_) #[true, true, false, false, false, false, false, false, false, false, false, false, false, false, false, false, false, false, false, false, false, false, false, false, false, false, false, false, false, false, false, false, false, false, false, false, false, false] rfl rfl (any_of HT_.out (by kernel_rfl)) (fun _ _ _ h => h) (Or.inl ⟨by rfl, ?_⟩) ?_ ?_
            rotate_left
            ·intro w'
             go_simp
             with_reducible rfl
            rotate_left
            ·simp only [Act.put, sA, s0, sS, i64_w, i32_w]
             rfl
            refine pure_ (i := 2) (N := some 80) (v := ?_) (a' := ?_) #[true, true, true, false, false, false, false, false, false, false, false, false, false, false, false, false, false, false, false, false, false, false, false, false, false, false, false, false, false, false, false, false, false, false, false, false, false, false] rfl rfl (any_of HT_.out (by kernel_rfl)) (fun _ _ _ h => h) (Or.inl ⟨by rfl, ?_⟩) ?_ ?_
            rotate_left
            ·intro w'
             go_simp
             with_reducible rfl
            rotate_left
            ·simp only [Act.put, sA, s0, sS, i64_w, i32_w]
             rfl
            refine pure_ (i := 3) (N := some 81) (v := undef) (a' := ?_) #[true, true, true, true, false, false, false, false, false, false, false, false, false, false, false, false, false, false, false, false, false, false, false, false, false, false, false, false, false, false, false, false, false, false, false, false, false, false] rfl rfl (any_of HT_.out (by kernel_rfl)) (fun _ _ _ h => h) (Or.inr ⟨by rfl, rfl⟩) ?_ ?_
            rotate_left
            ·simp only [Act.put, sA, s0, sS, i64_w, i32_w]
             rfl
            refine pure_ (i := 4) (N := some 82) (v := undef) (a' := ?_) #[true, true, true, true, true, false, false, false, false, false, false, false, false, false, false, false, false, false, false, false, false, false, false, false, false, false, false, false, false, false, false, false, false, false, false, false, false, false] rfl rfl (any_of HT_.out (by kernel_rfl)) (fun _ _ _ h => h) (Or.inr ⟨by rfl, rfl⟩) ?_ ?_
            rotate_left
            ·simp only [Act.put, sA, s0, sS, i64_w, i32_w]
             rfl
            refine pure_ (i := 5) (N := some 83) (v := undef) (a' := ?_) #[true, true, true, true, true, true, false, false, false, false, false, false, false, false, false, false, false, false, false, false, false, false, false, false, false, false, false, false, false, false, false, false, false, false, false, false, false, false] rfl rfl (any_of HT_.out (by kernel_rfl)) (fun _ _ _ h => h) (Or.inr ⟨by rfl, rfl⟩) ?_ ?_
            rotate_left
            ·simp only [Act.put, sA, s0, sS, i64_w, i32_w]
             rfl
            refine pure_ (i := 6) (N := some 84) (v := undef) (a' := ?_) #[true, true, true, true, true, true, true, false, false, false, false, false, false, false, false, false, false, false, false, false, false, false, false, false, false, false, false, false, false, false, false, false, false, false, false, false, false, false] rfl rfl (any_of HT_.out (by kernel_rfl)) (fun _ _ _ h => h) (Or.inr ⟨by rfl, rfl⟩) ?_ ?_
            rotate_left
            ·simp only [Act.put, sA, s0, sS, i64_w, i32_w]
             rfl
            refine pure_ (i := 7) (N := some 85) (v := undef) (a' := ?_) #[true, true, true, true, true, true, true, true, false, false, false, false, false, false, false, false, false, false, false, false, false, false, false, false, false, false, false, false, false, false, false, false, false, false, false, false, false, false] rfl rfl (any_of HT_.out (by kernel_rfl)) (fun _ _ _ h => h) (Or.inr ⟨by rfl, rfl⟩) ?_ ?_
            rotate_left
            ·simp only [Act.put, sA, s0, sS, i64_w, i32_w]
             rfl
            refine pure_ (i := 8) (N := some 86) (v := undef) (a' := ?_) #[true, true, true, true, true, true, true, true, true, false, false, false, false, false, false, false, false, false, false, false, false, false, false, false, false, false, false, false, false, false, false, false, false, false, false, false, false, false] rfl rfl (any_of HT_.out (by kernel_rfl)) (fun _ _ _ h => h) (Or.inr ⟨by rfl, rfl⟩) ?_ ?_
            rotate_left
            ·simp only [Act.put, sA, s0, sS, i64_w, i32_w]
             rfl
            refine pure_ (i := 9) (N := some 87) (v := undef) (a' := ?_) #[true, true, true, true, true, true, true, true, true, true, false, false, false, false, false, false, false, false, false, false, false, false, false, false, false, false, false, false, false, false, false, false, false, false, false, false, false, false] rfl rfl (any_of HT_.out (by kernel_rfl)) (fun _ _ _ h => h) (Or.inr ⟨by rfl, rfl⟩) ?_ ?_
            rotate_left
            ·simp only [Act.put, sA, s0, sS, i64_w, i32_w]
             rfl
            refine pure_ (i := 10) (N := some 88) (v := undef) (a' := ?_) #[true, true, true, true, true, true, true, true, true, true, true, false, false, false, false, false, false, false, false, false, false, false, false, false, false, false, false, false, false, false, false, false, false, false, false, false, false, false] rfl rfl (any_of HT_.out (by kernel_rfl)) (fun _ _ _ h => h) (Or.inr ⟨by rfl, rfl⟩) ?_ ?_
            rotate_left
            ·simp only [Act.put, sA, s0, sS, i64_w, i32_w]
             rfl
            refine pure_ (i := 11) (N := some 89) (v := ?_) (a' := ?_) #[true, true, true, true, true, true, true, true, true, true, true, true, false, false, false, false, false, false, false, false, false, false, false, false, false, false, false, false, false, false, false, false, false, false, false, false, false, false] rfl rfl (any_of HT_.out (by kernel_rfl)) (fun _ _ _ h => h) (Or.inl ⟨by rfl, ?_⟩) ?_ ?_
            rotate_left
            ·intro w'
             go_simp
             with_reducible rfl
            rotate_left
            ·simp only [Act.put, sA, s0, sS, i64_w, i32_w]
             rfl
            refine pure_ (i := 12) (N := some 90) (v := ?_) (a' := ?_) #[true, true, true, true, true, true, true, true, true, true, true, true, true, false, false, false, false, false, false, false, false, false, false, false, false, false, false, false, false, false, false, false, false, false, false, false, false, false] rfl rfl (any_of HT_.out (by kernel_rfl)) (fun _ _ _ h => h) (Or.inl ⟨by rfl, ?_⟩) ?_ ?_
            rotate_left
            ·intro w'
             go_simp
             with_reducible rfl
            rotate_left
            ·simp only [Act.put, sA, s0, sS, i64_w, i32_w]
             rfl
            refine take_ (i := 13) (N := some 91) (v := ?_) (a' := ?_) #[true, true, true, true, true, true, true, true, true, true, true, true, true, true, false, false, false, false, false, false, false, false, false, false, false, false, false, false, false, false, false, false, false, false, false, false, false, false] rfl rfl (take_ofW HT_.out HW_.out (by kernel_rfl)) (fun _ _ _ h => h) (Or.inl ⟨by rfl, ?_⟩) hHeld ?_ ?_
            rotate_left
            ·rintro w' ⟨s0, s1, s2, s3, s4, s5⟩
             go_simp
             with_reducible rfl
            rotate_left
            ·simp only [Act.put, sA, s0, sS, i64_w, i32_w]
             rfl
            refine take_ (i := 15) (N := some 93) (v := ?_) (a' := ?_) #[true, true, true, true, true, true, true, true, true, true, true, true, true, true, false, true, false, false, false, false, false, false, false, false, false, false, false, false, false, false, false, false, false, false, false, false, false, false] rfl rfl (take_ofW HT_.out HW_.out (by kernel_rfl)) (fun _ _ _ h => h) (Or.inl ⟨by rfl, ?_⟩) hHeld ?_ ?_
            rotate_left
            ·rintro w' ⟨s0, s1, s2, s3, s4, s5⟩
             go_simp
             with_reducible rfl
            rotate_left
            ·simp only [Act.put, sA, s0, sS, i64_w, i32_w]
             rfl
            refine one_ (i := 14) (N := some 92) #[true, true, true, true, true, true, true, true, true, true, true, true, true, true, true, true, false, false, false, false, false, false, false, false, false, false, false, false, false, false, false, false, false, false, false, false, false, false] rfl rfl (one_of HT_.out (by kernel_rfl)) (by decide) (fun K hK => ?_)
            refine goes_ Try.func15 (by kernel_rfl) rfl #[.agg #[.slice Ao12 t370.length co12, .slice Ao14 t373.length co14, .int .i64 t376], .int .i64 1] (by rfl) rfl rfl (by (try simp only [mA, mC, mN]); first | done | rfl | (simp only [ld, lt]; rfl)) ?_
            with_reducible refine (impl_FrmTimes.calls _ _ t370 _ _ t373 t376 1 t478 t481 t484 _ ?side1 ?side2 ?side3 ?side4 A118.out).mono ?_
            (case side1 => exact lC <| (Kd.R_reads' HO_379000.out).2.2)
            (case side2 => exact (Kd.R_reads' HO_379000.out).2.1)
            (case side3 => exact lC <| (Kd.R_reads' HO_379001.out).2.2)
            (case side4 => exact (Kd.R_reads' HO_379001.out).2.1)
            rintro e w156 ⟨v479, v482, rfl, ho0, ho1, hb⟩
            refine ⟨_, rfl, ?_⟩
            have HO480 := Aside0.mk (Kd.R_lower (Kd.R_new' (Kd.R_new' (Kd.R_new' (Kd.R_new' (Kd.R_new' (Kd.R_new' (Kd.R_new' (Kd.R_new' (Kd.R_new' (Kd.R_new' ho0 (rl HO_8.out)) (rl HO_9.out)) (rl HO_379000.out)) (rl HO_379001.out)) (rl HO_401000.out)) (rl HO_401001.out)) (rl HO419.out)) (rl HO422.out)) (rl HO426.out)) (rl HO429.out)) (below_size (by exact jB HB.out)))
            have HO483 := Aside0.mk (Kd.R_lower (Kd.R_new' (Kd.R_new' (Kd.R_new' (Kd.R_new' (Kd.R_new' (Kd.R_new' (Kd.R_new' (Kd.R_new' (Kd.R_new' (Kd.R_new' ho1 (rl HO_8.out)) (rl HO_9.out)) (rl HO_379000.out)) (rl HO_379001.out)) (rl HO_401000.out)) (rl HO_401001.out)) (rl HO419.out)) (rl HO422.out)) (rl HO426.out)) (rl HO429.out)) (below_size (by exact jB HB.out)))
            replace HO_8 := Aside0.mk (o2 HO_8.out hb ho0 ho1)
            replace HO_9 := Aside0.mk (o2 HO_9.out hb ho0 ho1)
            replace HO_379000 := Aside0.mk (o2 HO_379000.out hb ho0 ho1)
            replace HO_379001 := Aside0.mk (o2 HO_379001.out hb ho0 ho1)
            replace HO_401000 := Aside0.mk (o2 HO_401000.out hb ho0 ho1)
            replace HO_401001 := Aside0.mk (o2 HO_401001.out hb ho0 ho1)
            replace HO419 := Aside0.mk (o2 HO419.out hb ho0 ho1)
            replace HO422 := Aside0.mk (o2 HO422.out hb ho0 ho1)
            replace HO426 := Aside0.mk (o2 HO426.out hb ho0 ho1)
            replace HO429 := Aside0.mk (o2 HO429.out hb ho0 ho1)
            replace BK378 := Aside0.mk (bb BK378.out hb)
            replace BK392 := Aside0.mk (bb BK392.out hb)
            replace BK400 := Aside0.mk (bb BK400.out hb)
            replace BK431 := Aside0.mk (bb BK431.out hb)
            replace HB := Aside0.mk (below_step (by exact jB HB.out) hb)
            (try clear hb)
            (try clear hb2)
            (try clear hk)
            (try clear hi)
            (try clear ho0)
            (try clear ho1)
            obtain ⟨Ao157, co157, eo157⟩ := Kd.R_slice HO480.out
            (first | subst eo157 | (injection eo157 with f1_ f2_ f3_; have f4_ := f1_.symm; have f5_ := f3_.symm; clear f1_ f2_ f3_; subst f4_; subst f5_))
            obtain ⟨Ao158, co158, eo158⟩ := Kd.R_slice HO483.out
            (first | subst eo158 | (injection eo158 with f1_ f2_ f3_; have f4_ := f1_.symm; have f5_ := f3_.symm; clear f1_ f2_ f3_; subst f4_; subst f5_))
            refine hK.out _ _ ⟨(blk_cell BK378.out 0).trans rfl, (blk_cell BK378.out 1).trans rfl, (blk_cell BK378.out 2).trans rfl, (blk_cell BK431.out 0).trans rfl, (blk_cell BK431.out 1).trans rfl, (blk_cell BK431.out 2).trans rfl⟩ (fun hHeld => ?_)
            clear hK K
            refine norm_ (a' := ?_) ?_ ?_
            rotate_left
            ·show Act.put _ (some 92) _ = _
             simp only [Act.put, sA, s0, sS, i64_w, i32_w]
             rfl
            refine one_ (i := 16) (N := some 94) #[true, true, true, true, true, true, true, true, true, true, true, true, true, true, true, true, true, false, false, false, false, false, false, false, false, false, false, false, false, false, false, false, false, false, false, false, false, false] rfl rfl (one_of HT_.out (by kernel_rfl)) (by decide) (fun K hK => ?_)
            refine goes_ Try.func8 (by kernel_rfl) rfl #[.agg #[.slice Ao157 t478.length co157, .slice Ao158 t481.length co158, .int .i64 t484], .agg #[.slice Ao12 t370.length co12, .slice Ao14 t373.length co14, .int .i64 t376]] (by rfl) rfl rfl (by (try simp only [mA, mC, mN]); first | done | rfl | (simp only [ld, lt]; rfl)) ?_
            with_reducible refine (laws_coForm.calls kj8 _ _ t478 _ _ t481 t484 _ _ t370 _ _ t373 t376 true _ ?side1 ?side2 ?side3 ?side4 ?side5 ?side6 ?side7 ?side8 A119.out).mono ?_
            (case side1 => exact lC <| (Kd.R_reads' HO480.out).2.2)
            (case side2 => exact (Kd.R_reads' HO480.out).2.1)
            (case side3 => exact lC <| (Kd.R_reads' HO483.out).2.2)
            (case side4 => exact (Kd.R_reads' HO483.out).2.1)
            (case side5 => exact lC <| (Kd.R_reads' HO_379000.out).2.2)
            (case side6 => exact (Kd.R_reads' HO_379000.out).2.1)
            (case side7 => exact lC <| (Kd.R_reads' HO_379001.out).2.2)
            (case side8 => exact (Kd.R_reads' HO_379001.out).2.1)
            rintro e w159 ⟨rfl, hb⟩
            refine ⟨_, rfl, ?_⟩
            replace HO_8 := Aside0.mk (rb HO_8.out hb)
            replace HO_9 := Aside0.mk (rb HO_9.out hb)
            replace HO_379000 := Aside0.mk (rb HO_379000.out hb)
            replace HO_379001 := Aside0.mk (rb HO_379001.out hb)
            replace HO_401000 := Aside0.mk (rb HO_401000.out hb)
            replace HO_401001 := Aside0.mk (rb HO_401001.out hb)
            replace HO419 := Aside0.mk (rb HO419.out hb)
            replace HO422 := Aside0.mk (rb HO422.out hb)
            replace HO426 := Aside0.mk (rb HO426.out hb)
            replace HO429 := Aside0.mk (rb HO429.out hb)
            replace HO480 := Aside0.mk (rb HO480.out hb)
            replace HO483 := Aside0.mk (rb HO483.out hb)
            replace BK378 := Aside0.mk (bb BK378.out hb)
            replace BK392 := Aside0.mk (bb BK392.out hb)
            replace BK400 := Aside0.mk (bb BK400.out hb)
            replace BK431 := Aside0.mk (bb BK431.out hb)
            replace HB := Aside0.mk (below_step (by exact jB HB.out) hb)
            (try clear hb)
            (try clear hb2)
            (try clear hk)
            (try clear hi)
            refine hK.out _ _ ⟨(blk_cell BK378.out 0).trans rfl, (blk_cell BK378.out 1).trans rfl, (blk_cell BK378.out 2).trans rfl, (blk_cell BK431.out 0).trans rfl, (blk_cell BK431.out 1).trans rfl, (blk_cell BK431.out 2).trans rfl⟩ (fun hHeld => ?_)
            clear hK K
            refine norm_ (a' := ?_) ?_ ?_
            rotate_left
            ·show Act.put _ (some 94) _ = _
             simp only [Act.put, sA, s0, sS, i64_w, i32_w]
             rfl
            refine pure_ (i := 17) (N := some 95) (v := ?_) (a' := ?_) #[true, true, true, true, true, true, true, true, true, true, true, true, true, true, true, true, true, true, false, false, false, false, false, false, false, false, false, false, false, false, false, false, false, false, false, false, false, false] rfl rfl (any_of HT_.out (by kernel_rfl)) (fun _ _ _ h => h) (Or.inl ⟨by rfl, ?_⟩) ?_ ?_
            rotate_left
            ·intro w'
             go_simp
             with_reducible rfl
            rotate_left
            ·simp only [Act.put, sA, s0, sS, i64_w, i32_w]
             rfl
            refine pure_ (i := 18) (N := some 96) (v := ?_) (a' := ?_) #[true, true, true, true, true, true, true, true, true, true, true, true, true, true, true, true, true, true, true, false, false, false, false, false, false, false, false, false, false, false, false, false, false, false, false, false, false, false] rfl rfl (any_of HT_.out (by kernel_rfl)) (fun _ _ _ h => h) (Or.inl ⟨by rfl, ?_⟩) ?_ ?_
            rotate_left
            ·intro w'
             go_simp
             with_reducible rfl
            rotate_left
            ·simp only [Act.put, sA, s0, sS, i64_w, i32_w]
             rfl
            refine take_ (i := 19) (N := some 97) (v := ?_) (a' := ?_) #[true, true, true, true, true, true, true, true, true, true, true, true, true, true, true, true, true, true, true, true, false, false, false, false, false, false, false, false, false, false, false, false, false, false, false, false, false, false] rfl rfl (take_ofW HT_.out HW_.out (by kernel_rfl)) (fun _ _ _ h => h) (Or.inl ⟨by rfl, ?_⟩) hHeld ?_ ?_
            rotate_left
            ·rintro w' ⟨s0, s1, s2, s3, s4, s5⟩
             go_simp
             with_reducible rfl
            rotate_left
            ·simp only [Act.put, sA, s0, sS, i64_w, i32_w]
             rfl
            refine one_ (i := 20) (N := some 98) #[true, true, true, true, true, true, true, true, true, true, true, true, true, true, true, true, true, true, true, true, true, false, false, false, false, false, false, false, false, false, false, false, false, false, false, false, false, false] rfl rfl (one_of HT_.out (by kernel_rfl)) (by decide) (fun K hK => ?_)
            refine goes_ Try.func15 (by kernel_rfl) rfl #[.agg #[.slice Ao12 t370.length co12, .slice Ao14 t373.length co14, .int .i64 t376], .int .i64 0] (by rfl) rfl rfl (by (try simp only [mA, mC, mN]); first | done | rfl | (simp only [ld, lt]; rfl)) ?_
            with_reducible refine (impl_FrmTimes.calls _ _ t370 _ _ t373 t376 0 t486 t489 t492 _ ?side1 ?side2 ?side3 ?side4 A121.out).mono ?_
            (case side1 => exact lC <| (Kd.R_reads' HO_379000.out).2.2)
            (case side2 => exact (Kd.R_reads' HO_379000.out).2.1)
            (case side3 => exact lC <| (Kd.R_reads' HO_379001.out).2.2)
            (case side4 => exact (Kd.R_reads' HO_379001.out).2.1)
            rintro e w160 ⟨v487, v490, rfl, ho0, ho1, hb⟩
            refine ⟨_, rfl, ?_⟩
            have HO488 := Aside0.mk (Kd.R_lower (Kd.R_new' (Kd.R_new' (Kd.R_new' (Kd.R_new' (Kd.R_new' (Kd.R_new' (Kd.R_new' (Kd.R_new' (Kd.R_new' (Kd.R_new' (Kd.R_new' (Kd.R_new' ho0 (rl HO_8.out)) (rl HO_9.out)) (rl HO_379000.out)) (rl HO_379001.out)) (rl HO_401000.out)) (rl HO_401001.out)) (rl HO419.out)) (rl HO422.out)) (rl HO426.out)) (rl HO429.out)) (rl HO480.out)) (rl HO483.out)) (below_size (by exact jB HB.out)))
            have HO491 := Aside0.mk (Kd.R_lower (Kd.R_new' (Kd.R_new' (Kd.R_new' (Kd.R_new' (Kd.R_new' (Kd.R_new' (Kd.R_new' (Kd.R_new' (Kd.R_new' (Kd.R_new' (Kd.R_new' (Kd.R_new' ho1 (rl HO_8.out)) (rl HO_9.out)) (rl HO_379000.out)) (rl HO_379001.out)) (rl HO_401000.out)) (rl HO_401001.out)) (rl HO419.out)) (rl HO422.out)) (rl HO426.out)) (rl HO429.out)) (rl HO480.out)) (rl HO483.out)) (below_size (by exact jB HB.out)))
            replace HO_8 := Aside0.mk (o2 HO_8.out hb ho0 ho1)
            replace HO_9 := Aside0.mk (o2 HO_9.out hb ho0 ho1)
            replace HO_379000 := Aside0.mk (o2 HO_379000.out hb ho0 ho1)
            replace HO_379001 := Aside0.mk (o2 HO_379001.out hb ho0 ho1)
            replace HO_401000 := Aside0.mk (o2 HO_401000.out hb ho0 ho1)
            replace HO_401001 := Aside0.mk (o2 HO_401001.out hb ho0 ho1)
            replace HO419 := Aside0.mk (o2 HO419.out hb ho0 ho1)
            replace HO422 := Aside0.mk (o2 HO422.out hb ho0 ho1)
            replace HO426 := Aside0.mk (o2 HO426.out hb ho0 ho1)
            replace HO429 := Aside0.mk (o2 HO429.out hb ho0 ho1)
            replace HO480 := Aside0.mk (o2 HO480.out hb ho0 ho1)
            replace HO483 := Aside0.mk (o2 HO483.out hb ho0 ho1)
            replace BK378 := Aside0.mk (bb BK378.out hb)
            replace BK392 := Aside0.mk (bb BK392.out hb)
            replace BK400 := Aside0.mk (bb BK400.out hb)
            replace BK431 := Aside0.mk (bb BK431.out hb)
            replace HB := Aside0.mk (below_step (by exact jB HB.out) hb)
            (try clear hb)
            (try clear hb2)
            (try clear hk)
            (try clear hi)
            (try clear ho0)
            (try clear ho1)
            refine hK.out _ _ ⟨(blk_cell BK378.out 0).trans rfl, (blk_cell BK378.out 1).trans rfl, (blk_cell BK378.out 2).trans rfl, (blk_cell BK431.out 0).trans rfl, (blk_cell BK431.out 1).trans rfl, (blk_cell BK431.out 2).trans rfl⟩ (fun hHeld => ?_)
            clear hK K
            refine norm_ (a' := ?_) ?_ ?_
            rotate_left
            ·show Act.put _ (some 98) _ = _
             simp only [Act.put, sA, s0, sS, i64_w, i32_w]
             rfl
            refine one_ (i := 21) (N := some 99) #[true, true, true, true, true, true, true, true, true, true, true, true, true, true, true, true, true, true, true, true, true, true, false, false, false, false, false, false, false, false, false, false, false, false, false, false, false, false] rfl rfl (one_of HT_.out (by kernel_rfl)) (by decide) (fun K hK => ?_)
            refine goes_ Try.func18 (by kernel_rfl) rfl #[] (by rfl) rfl rfl (by (try simp only [mA, mC, mN]); first | done | rfl | (simp only [ld, lt]; rfl)) ?_
            with_reducible refine (impl_FrmZero.calls  t493 t496 t499 _ A122.out).mono ?_
            rintro e w161 ⟨v494, v497, rfl, ho0, ho1, hb⟩
            refine ⟨_, rfl, ?_⟩
            have HO495 := Aside0.mk (Kd.R_lower (Kd.R_new' (Kd.R_new' (Kd.R_new' (Kd.R_new' (Kd.R_new' (Kd.R_new' (Kd.R_new' (Kd.R_new' (Kd.R_new' (Kd.R_new' (Kd.R_new' (Kd.R_new' (Kd.R_new' (Kd.R_new' ho0 (rl HO_8.out)) (rl HO_9.out)) (rl HO_379000.out)) (rl HO_379001.out)) (rl HO_401000.out)) (rl HO_401001.out)) (rl HO419.out)) (rl HO422.out)) (rl HO426.out)) (rl HO429.out)) (rl HO480.out)) (rl HO483.out)) (rl HO488.out)) (rl HO491.out)) (below_size (by exact jB HB.out)))
            have HO498 := Aside0.mk (Kd.R_lower (Kd.R_new' (Kd.R_new' (Kd.R_new' (Kd.R_new' (Kd.R_new' (Kd.R_new' (Kd.R_new' (Kd.R_new' (Kd.R_new' (Kd.R_new' (Kd.R_new' (Kd.R_new' (Kd.R_new' (Kd.R_new' ho1 (rl HO_8.out)) (rl HO_9.out)) (rl HO_379000.out)) (rl HO_379001.out)) (rl HO_401000.out)) (rl HO_401001.out)) (rl HO419.out)) (rl HO422.out)) (rl HO426.out)) (rl HO429.out)) (rl HO480.out)) (rl HO483.out)) (rl HO488.out)) (rl HO491.out)) (below_size (by exact jB HB.out)))
            replace HO_8 := Aside0.mk (o2 HO_8.out hb ho0 ho1)
            replace HO_9 := Aside0.mk (o2 HO_9.out hb ho0 ho1)
            replace HO_379000 := Aside0.mk (o2 HO_379000.out hb ho0 ho1)
            replace HO_379001 := Aside0.mk (o2 HO_379001.out hb ho0 ho1)
            replace HO_401000 := Aside0.mk (o2 HO_401000.out hb ho0 ho1)
            replace HO_401001 := Aside0.mk (o2 HO_401001.out hb ho0 ho1)
            replace HO419 := Aside0.mk (o2 HO419.out hb ho0 ho1)
            replace HO422 := Aside0.mk (o2 HO422.out hb ho0 ho1)
            replace HO426 := Aside0.mk (o2 HO426.out hb ho0 ho1)
            replace HO429 := Aside0.mk (o2 HO429.out hb ho0 ho1)
            replace HO480 := Aside0.mk (o2 HO480.out hb ho0 ho1)
            replace HO483 := Aside0.mk (o2 HO483.out hb ho0 ho1)
            replace HO488 := Aside0.mk (o2 HO488.out hb ho0 ho1)
            replace HO491 := Aside0.mk (o2 HO491.out hb ho0 ho1)
            replace BK378 := Aside0.mk (bb BK378.out hb)
            replace BK392 := Aside0.mk (bb BK392.out hb)
            replace BK400 := Aside0.mk (bb BK400.out hb)
            replace BK431 := Aside0.mk (bb BK431.out hb)
            replace HB := Aside0.mk (below_step (by exact jB HB.out) hb)
            (try clear hb)
            (try clear hb2)
            (try clear hk)
            (try clear hi)
            (try clear ho0)
            (try clear ho1)
            obtain ⟨Ao162, co162, eo162⟩ := Kd.R_slice HO488.out
            (first | subst eo162 | (injection eo162 with f1_ f2_ f3_; have f4_ := f1_.symm; have f5_ := f3_.symm; clear f1_ f2_ f3_; subst f4_; subst f5_))
            obtain ⟨Ao163, co163, eo163⟩ := Kd.R_slice HO491.out
            (first | subst eo163 | (injection eo163 with f1_ f2_ f3_; have f4_ := f1_.symm; have f5_ := f3_.symm; clear f1_ f2_ f3_; subst f4_; subst f5_))
            obtain ⟨Ao164, co164, eo164⟩ := Kd.R_slice HO495.out
            (first | subst eo164 | (injection eo164 with f1_ f2_ f3_; have f4_ := f1_.symm; have f5_ := f3_.symm; clear f1_ f2_ f3_; subst f4_; subst f5_))
            obtain ⟨Ao165, co165, eo165⟩ := Kd.R_slice HO498.out
            (first | subst eo165 | (injection eo165 with f1_ f2_ f3_; have f4_ := f1_.symm; have f5_ := f3_.symm; clear f1_ f2_ f3_; subst f4_; subst f5_))
            refine hK.out _ _ ⟨(blk_cell BK378.out 0).trans rfl, (blk_cell BK378.out 1).trans rfl, (blk_cell BK378.out 2).trans rfl, (blk_cell BK431.out 0).trans rfl, (blk_cell BK431.out 1).trans rfl, (blk_cell BK431.out 2).trans rfl⟩ (fun hHeld => ?_)
            clear hK K
            refine norm_ (a' := ?_) ?_ ?_
            rotate_left
            ·show Act.put _ (some 99) _ = _
             simp only [Act.put, sA, s0, sS, i64_w, i32_w]
             rfl
            refine one_ (i := 22) (N := some 100) #[true, true, true, true, true, true, true, true, true, true, true, true, true, true, true, true, true, true, true, true, true, true, true, false, false, false, false, false, false, false, false, false, false, false, false, false, false, false] rfl rfl (one_of HT_.out (by kernel_rfl)) (by decide) (fun K hK => ?_)
            refine goes_ Try.func8 (by kernel_rfl) rfl #[.agg #[.slice Ao162 t486.length co162, .slice Ao163 t489.length co163, .int .i64 t492], .agg #[.slice Ao164 t493.length co164, .slice Ao165 t496.length co165, .int .i64 t499]] (by rfl) rfl rfl (by (try simp only [mA, mC, mN]); first | done | rfl | (simp only [ld, lt]; rfl)) ?_
            with_reducible refine (laws_coForm.calls kj8 _ _ t486 _ _ t489 t492 _ _ t493 _ _ t496 t499 true _ ?side1 ?side2 ?side3 ?side4 ?side5 ?side6 ?side7 ?side8 A123.out).mono ?_
            (case side1 => exact lC <| (Kd.R_reads' HO488.out).2.2)
            (case side2 => exact (Kd.R_reads' HO488.out).2.1)
            (case side3 => exact lC <| (Kd.R_reads' HO491.out).2.2)
            (case side4 => exact (Kd.R_reads' HO491.out).2.1)
            (case side5 => exact lC <| (Kd.R_reads' HO495.out).2.2)
            (case side6 => exact (Kd.R_reads' HO495.out).2.1)
            (case side7 => exact lC <| (Kd.R_reads' HO498.out).2.2)
            (case side8 => exact (Kd.R_reads' HO498.out).2.1)
            rintro e w166 ⟨rfl, hb⟩
            refine ⟨_, rfl, ?_⟩
            replace HO_8 := Aside0.mk (rb HO_8.out hb)
            replace HO_9 := Aside0.mk (rb HO_9.out hb)
            replace HO_379000 := Aside0.mk (rb HO_379000.out hb)
            replace HO_379001 := Aside0.mk (rb HO_379001.out hb)
            replace HO_401000 := Aside0.mk (rb HO_401000.out hb)
            replace HO_401001 := Aside0.mk (rb HO_401001.out hb)
            replace HO419 := Aside0.mk (rb HO419.out hb)
            replace HO422 := Aside0.mk (rb HO422.out hb)
            replace HO426 := Aside0.mk (rb HO426.out hb)
            replace HO429 := Aside0.mk (rb HO429.out hb)
            replace HO480 := Aside0.mk (rb HO480.out hb)
            replace HO483 := Aside0.mk (rb HO483.out hb)
            replace HO488 := Aside0.mk (rb HO488.out hb)
            replace HO491 := Aside0.mk (rb HO491.out hb)
            replace HO495 := Aside0.mk (rb HO495.out hb)
            replace HO498 := Aside0.mk (rb HO498.out hb)
            replace BK378 := Aside0.mk (bb BK378.out hb)
            replace BK392 := Aside0.mk (bb BK392.out hb)
            replace BK400 := Aside0.mk (bb BK400.out hb)
            replace BK431 := Aside0.mk (bb BK431.out hb)
            replace HB := Aside0.mk (below_step (by exact jB HB.out) hb)
            (try clear hb)
            (try clear hb2)
            (try clear hk)
            (try clear hi)
            refine hK.out _ _ ⟨(blk_cell BK378.out 0).trans rfl, (blk_cell BK378.out 1).trans rfl, (blk_cell BK378.out 2).trans rfl, (blk_cell BK431.out 0).trans rfl, (blk_cell BK431.out 1).trans rfl, (blk_cell BK431.out 2).trans rfl⟩ (fun hHeld => ?_)
            clear hK K
            refine norm_ (a' := ?_) ?_ ?_
            rotate_left
            ·show Act.put _ (some 100) _ = _
             simp only [Act.put, sA, s0, sS, i64_w, i32_w]
             rfl
            refine pure_ (i := 23) (N := some 101) (v := ?_) (a' := ?_) #[true, true, true, true, true, true, true, true, true, true, true, true, true, true, true, true, true, true, true, true, true, true, true, true, false, false, false, false, false, false, false, false, false, false, false, false, false, false] rfl rfl (any_of HT_.out (by kernel_rfl)) (fun _ _ _ h => h) (Or.inl ⟨by rfl, ?_⟩) ?_ ?_
            rotate_left
            ·intro w'
             go_simp
             with_reducible rfl
            rotate_left
            ·simp only [Act.put, sA, s0, sS, i64_w, i32_w]
             rfl
            refine pure_ (i := 24) (N := some 102) (v := ?_) (a' := ?_) #[true, true, true, true, true, true, true, true, true, true, true, true, true, true, true, true, true, true, true, true, true, true, true, true, true, false, false, false, false, false, false, false, false, false, false, false, false, false] rfl rfl (any_of HT_.out (by kernel_rfl)) (fun _ _ _ h => h) (Or.inl ⟨by rfl, ?_⟩) ?_ ?_
            rotate_left
            ·intro w'
             go_simp
             with_reducible rfl
            rotate_left
            ·simp only [Act.put, sA, s0, sS, i64_w, i32_w]
             rfl
            refine take_ (i := 25) (N := some 103) (v := ?_) (a' := ?_) #[true, true, true, true, true, true, true, true, true, true, true, true, true, true, true, true, true, true, true, true, true, true, true, true, true, true, false, false, false, false, false, false, false, false, false, false, false, false] rfl rfl (take_ofW HT_.out HW_.out (by kernel_rfl)) (fun _ _ _ h => h) (Or.inl ⟨by rfl, ?_⟩) hHeld ?_ ?_
            rotate_left
            ·rintro w' ⟨s0, s1, s2, s3, s4, s5⟩
             go_simp
             with_reducible rfl
            rotate_left
            ·simp only [Act.put, sA, s0, sS, i64_w, i32_w]
             rfl
            refine take_ (i := 26) (N := some 104) (v := ?_) (a' := ?_) #[true, true, true, true, true, true, true, true, true, true, true, true, true, true, true, true, true, true, true, true, true, true, true, true, true, true, true, false, false, false, false, false, false, false, false, false, false, false] rfl rfl (take_ofW HT_.out HW_.out (by kernel_rfl)) (fun _ _ _ h => h) (Or.inl ⟨by rfl, ?_⟩) hHeld ?_ ?_
            rotate_left
            ·rintro w' ⟨s0, s1, s2, s3, s4, s5⟩
             go_simp
             with_reducible rfl
            rotate_left
            ·simp only [Act.put, sA, s0, sS, i64_w, i32_w]
             rfl
            refine one_ (i := 27) (N := some 105) #[true, true, true, true, true, true, true, true, true, true, true, true, true, true, true, true, true, true, true, true, true, true, true, true, true, true, true, true, false, false, false, false, false, false, false, false, false, false] rfl rfl (one_of HT_.out (by kernel_rfl)) (by decide) (fun K hK => ?_)
            refine goes_ Try.func8 (by kernel_rfl) rfl #[.agg #[.slice Ao148 t424.length co148, .slice Ao153 t427.length co153, .int .i64 t430], .agg #[.slice Ao12 t370.length co12, .slice Ao14 t373.length co14, .int .i64 t376]] (by rfl) rfl rfl (by (try simp only [mA, mC, mN]); first | done | rfl | (simp only [ld, lt]; rfl)) ?_
            with_reducible refine (laws_coForm.calls kj8 _ _ t424 _ _ t427 t430 _ _ t370 _ _ t373 t376 true _ ?side1 ?side2 ?side3 ?side4 ?side5 ?side6 ?side7 ?side8 A125.out).mono ?_
            (case side1 => exact lC <| (Kd.R_reads' HO426.out).2.2)
            (case side2 => exact (Kd.R_reads' HO426.out).2.1)
            (case side3 => exact lC <| (Kd.R_reads' HO429.out).2.2)
            (case side4 => exact (Kd.R_reads' HO429.out).2.1)
            (case side5 => exact lC <| (Kd.R_reads' HO_379000.out).2.2)
            (case side6 => exact (Kd.R_reads' HO_379000.out).2.1)
            (case side7 => exact lC <| (Kd.R_reads' HO_379001.out).2.2)
            (case side8 => exact (Kd.R_reads' HO_379001.out).2.1)
            rintro e w167 ⟨rfl, hb⟩
            refine ⟨_, rfl, ?_⟩
            replace HO_8 := Aside0.mk (rb HO_8.out hb)
            replace HO_9 := Aside0.mk (rb HO_9.out hb)
            replace HO_379000 := Aside0.mk (rb HO_379000.out hb)
            replace HO_379001 := Aside0.mk (rb HO_379001.out hb)
            replace HO_401000 := Aside0.mk (rb HO_401000.out hb)
            replace HO_401001 := Aside0.mk (rb HO_401001.out hb)
            replace HO419 := Aside0.mk (rb HO419.out hb)
            replace HO422 := Aside0.mk (rb HO422.out hb)
            replace HO426 := Aside0.mk (rb HO426.out hb)
            replace HO429 := Aside0.mk (rb HO429.out hb)
            replace HO480 := Aside0.mk (rb HO480.out hb)
            replace HO483 := Aside0.mk (rb HO483.out hb)
            replace HO488 := Aside0.mk (rb HO488.out hb)
            replace HO491 := Aside0.mk (rb HO491.out hb)
            replace HO495 := Aside0.mk (rb HO495.out hb)
            replace HO498 := Aside0.mk (rb HO498.out hb)
            replace BK378 := Aside0.mk (bb BK378.out hb)
            replace BK392 := Aside0.mk (bb BK392.out hb)
            replace BK400 := Aside0.mk (bb BK400.out hb)
            replace BK431 := Aside0.mk (bb BK431.out hb)
            replace HB := Aside0.mk (below_step (by exact jB HB.out) hb)
            (try clear hb)
            (try clear hb2)
            (try clear hk)
            (try clear hi)
            refine hK.out _ _ ⟨(blk_cell BK378.out 0).trans rfl, (blk_cell BK378.out 1).trans rfl, (blk_cell BK378.out 2).trans rfl, (blk_cell BK431.out 0).trans rfl, (blk_cell BK431.out 1).trans rfl, (blk_cell BK431.out 2).trans rfl⟩ (fun hHeld => ?_)
            clear hK K
            refine norm_ (a' := ?_) ?_ ?_
            rotate_left
            ·show Act.put _ (some 105) _ = _
             simp only [Act.put, sA, s0, sS, i64_w, i32_w]
             rfl
            refine pure_ (i := 28) (N := some 106) (v := ?_) (a' := ?_) #[true, true, true, true, true, true, true, true, true, true, true, true, true, true, true, true, true, true, true, true, true, true, true, true, true, true, true, true, true, false, false, false, false, false, false, false, false, false] rfl rfl (any_of HT_.out (by kernel_rfl)) (fun _ _ _ h => h) (Or.inl ⟨by rfl, ?_⟩) ?_ ?_
            rotate_left
            ·intro w'
             go_simp
             with_reducible rfl
            rotate_left
            ·simp only [Act.put, sA, s0, sS, i64_w, i32_w]
             rfl
            refine pure_ (i := 29) (N := some 107) (v := ?_) (a' := ?_) #[true, true, true, true, true, true, true, true, true, true, true, true, true, true, true, true, true, true, true, true, true, true, true, true, true, true, true, true, true, true, false, false, false, false, false, false, false, false] rfl rfl (any_of HT_.out (by kernel_rfl)) (fun _ _ _ h => h) (Or.inl ⟨by rfl, ?_⟩) ?_ ?_
            rotate_left
            ·intro w'
             go_simp
             with_reducible rfl
            rotate_left
            ·simp only [Act.put, sA, s0, sS, i64_w, i32_w]
             rfl
            refine take_ (i := 30) (N := some 108) (v := ?_) (a' := ?_) #[true, true, true, true, true, true, true, true, true, true, true, true, true, true, true, true, true, true, true, true, true, true, true, true, true, true, true, true, true, true, true, false, false, false, false, false, false, false] rfl rfl (take_ofW HT_.out HW_.out (by kernel_rfl)) (fun _ _ _ h => h) (Or.inl ⟨by rfl, ?_⟩) hHeld ?_ ?_
            rotate_left
            ·rintro w' ⟨s0, s1, s2, s3, s4, s5⟩
             go_simp
             with_reducible rfl
            rotate_left
            ·simp only [Act.put, sA, s0, sS, i64_w, i32_w]
             rfl
            refine take_ (i := 31) (N := some 109) (v := ?_) (a' := ?_) #[true, true, true, true, true, true, true, true, true, true, true, true, true, true, true, true, true, true, true, true, true, true, true, true, true, true, true, true, true, true, true, true, false, false, false, false, false, false] rfl rfl (take_ofW HT_.out HW_.out (by kernel_rfl)) (fun _ _ _ h => h) (Or.inl ⟨by rfl, ?_⟩) hHeld ?_ ?_
            rotate_left
            ·rintro w' ⟨s0, s1, s2, s3, s4, s5⟩
             go_simp
             with_reducible rfl
            rotate_left
            ·simp only [Act.put, sA, s0, sS, i64_w, i32_w]
             rfl
            refine one_ (i := 32) (N := some 110) #[true, true, true, true, true, true, true, true, true, true, true, true, true, true, true, true, true, true, true, true, true, true, true, true, true, true, true, true, true, true, true, true, true, false, false, false, false, false] rfl rfl (one_of HT_.out (by kernel_rfl)) (by decide) (fun K hK => ?_)
            refine goes_ Try.func15 (by kernel_rfl) rfl #[.agg #[.slice Ao12 t370.length co12, .slice Ao14 t373.length co14, .int .i64 t376], .int .i64 (-1)] (by rfl) rfl rfl (by (try simp only [mA, mC, mN]); first | done | rfl | (simp only [ld, lt]; rfl)) ?_
            with_reducible refine (impl_FrmTimes.calls _ _ t370 _ _ t373 t376 (-1) t502 t505 t508 _ ?side1 ?side2 ?side3 ?side4 A127.out).mono ?_
            (case side1 => exact lC <| (Kd.R_reads' HO_379000.out).2.2)
            (case side2 => exact (Kd.R_reads' HO_379000.out).2.1)
            (case side3 => exact lC <| (Kd.R_reads' HO_379001.out).2.2)
            (case side4 => exact (Kd.R_reads' HO_379001.out).2.1)
            rintro e w168 ⟨v503, v506, rfl, ho0, ho1, hb⟩
            refine ⟨_, rfl, ?_⟩
            have HO504 := Aside0.mk (Kd.R_lower (Kd.R_new' (Kd.R_new' (Kd.R_new' (Kd.R_new' (Kd.R_new' (Kd.R_new' (Kd.R_new' (Kd.R_new' (Kd.R_new' (Kd.R_new' (Kd.R_new' (Kd.R_new' (Kd.R_new' (Kd.R_new' (Kd.R_new' (Kd.R_new' ho0 (rl HO_8.out)) (rl HO_9.out)) (rl HO_379000.out)) (rl HO_379001.out)) (rl HO_401000.out)) (rl HO_401001.out)) (rl HO419.out)) (rl HO422.out)) (rl HO426.out)) (rl HO429.out)) (rl HO480.out)) (rl HO483.out)) (rl HO488.out)) (rl HO491.out)) (rl HO495.out)) (rl HO498.out)) (below_size (by exact jB HB.out)))
            have HO507 := Aside0.mk (Kd.R_lower (Kd.R_new' (Kd.R_new' (Kd.R_new' (Kd.R_new' (Kd.R_new' (Kd.R_new' (Kd.R_new' (Kd.R_new' (Kd.R_new' (Kd.R_new' (Kd.R_new' (Kd.R_new' (Kd.R_new' (Kd.R_new' (Kd.R_new' (Kd.R_new' ho1 (rl HO_8.out)) (rl HO_9.out)) (rl HO_379000.out)) (rl HO_379001.out)) (rl HO_401000.out)) (rl HO_401001.out)) (rl HO419.out)) (rl HO422.out)) (rl HO426.out)) (rl HO429.out)) (rl HO480.out)) (rl HO483.out)) (rl HO488.out)) (rl HO491.out)) (rl HO495.out)) (rl HO498.out)) (below_size (by exact jB HB.out)))
            replace HO_8 := Aside0.mk (o2 HO_8.out hb ho0 ho1)
            replace HO_9 := Aside0.mk (o2 HO_9.out hb ho0 ho1)
            replace HO_379000 := Aside0.mk (o2 HO_379000.out hb ho0 ho1)
            replace HO_379001 := Aside0.mk (o2 HO_379001.out hb ho0 ho1)
            replace HO_401000 := Aside0.mk (o2 HO_401000.out hb ho0 ho1)
            replace HO_401001 := Aside0.mk (o2 HO_401001.out hb ho0 ho1)
            replace HO419 := Aside0.mk (o2 HO419.out hb ho0 ho1)
            replace HO422 := Aside0.mk (o2 HO422.out hb ho0 ho1)
            replace HO426 := Aside0.mk (o2 HO426.out hb ho0 ho1)
            replace HO429 := Aside0.mk (o2 HO429.out hb ho0 ho1)
            replace HO480 := Aside0.mk (o2 HO480.out hb ho0 ho1)
            replace HO483 := Aside0.mk (o2 HO483.out hb ho0 ho1)
            replace HO488 := Aside0.mk (o2 HO488.out hb ho0 ho1)
            replace HO491 := Aside0.mk (o2 HO491.out hb ho0 ho1)
            replace HO495 := Aside0.mk (o2 HO495.out hb ho0 ho1)
            replace HO498 := Aside0.mk (o2 HO498.out hb ho0 ho1)
            replace BK378 := Aside0.mk (bb BK378.out hb)
            replace BK392 := Aside0.mk (bb BK392.out hb)
            replace BK400 := Aside0.mk (bb BK400.out hb)
            replace BK431 := Aside0.mk (bb BK431.out hb)
            replace HB := Aside0.mk (below_step (by exact jB HB.out) hb)
            (try clear hb)
            (try clear hb2)
            (try clear hk)
            (try clear hi)
            (try clear ho0)
            (try clear ho1)
            obtain ⟨Ao169, co169, eo169⟩ := Kd.R_slice HO504.out
            (first | subst eo169 | (injection eo169 with f1_ f2_ f3_; have f4_ := f1_.symm; have f5_ := f3_.symm; clear f1_ f2_ f3_; subst f4_; subst f5_))
            obtain ⟨Ao170, co170, eo170⟩ := Kd.R_slice HO507.out
            (first | subst eo170 | (injection eo170 with f1_ f2_ f3_; have f4_ := f1_.symm; have f5_ := f3_.symm; clear f1_ f2_ f3_; subst f4_; subst f5_))
            refine hK.out _ _ ⟨(blk_cell BK378.out 0).trans rfl, (blk_cell BK378.out 1).trans rfl, (blk_cell BK378.out 2).trans rfl, (blk_cell BK431.out 0).trans rfl, (blk_cell BK431.out 1).trans rfl, (blk_cell BK431.out 2).trans rfl⟩ (fun hHeld => ?_)
            clear hK K
            refine norm_ (a' := ?_) ?_ ?_
            rotate_left
            ·show Act.put _ (some 110) _ = _
             simp only [Act.put, sA, s0, sS, i64_w, i32_w]
             rfl
            refine one_ (i := 33) (N := some 111) #[true, true, true, true, true, true, true, true, true, true, true, true, true, true, true, true, true, true, true, true, true, true, true, true, true, true, true, true, true, true, true, true, true, true, false, false, false, false] rfl rfl (one_of HT_.out (by kernel_rfl)) (by decide) (fun K hK => ?_)
            refine goes_ Try.func19 (by kernel_rfl) rfl #[.agg #[.slice Ao12 t370.length co12, .slice Ao14 t373.length co14, .int .i64 t376], .agg #[.slice Ao169 t502.length co169, .slice Ao170 t505.length co170, .int .i64 t508]] (by rfl) rfl rfl (by (try simp only [mA, mC, mN]); first | done | rfl | (simp only [ld, lt]; rfl)) ?_
            with_reducible refine (impl_FrmAdd.calls _ _ t370 _ _ t373 t376 _ _ t502 _ _ t505 t508 t509 t512 t515 _ ?side1 ?side2 ?side3 ?side4 ?side5 ?side6 ?side7 ?side8 A128.out).mono ?_
            (case side1 => exact lC <| (Kd.R_reads' HO_379000.out).2.2)
            (case side2 => exact (Kd.R_reads' HO_379000.out).2.1)
            (case side3 => exact lC <| (Kd.R_reads' HO_379001.out).2.2)
            (case side4 => exact (Kd.R_reads' HO_379001.out).2.1)
            (case side5 => exact lC <| (Kd.R_reads' HO504.out).2.2)
            (case side6 => exact (Kd.R_reads' HO504.out).2.1)
            (case side7 => exact lC <| (Kd.R_reads' HO507.out).2.2)
            (case side8 => exact (Kd.R_reads' HO507.out).2.1)
            rintro e w171 ⟨v510, v513, rfl, ho0, ho1, hb⟩
            refine ⟨_, rfl, ?_⟩
            have HO511 := Aside0.mk (Kd.R_lower (Kd.R_new' (Kd.R_new' (Kd.R_new' (Kd.R_new' (Kd.R_new' (Kd.R_new' (Kd.R_new' (Kd.R_new' (Kd.R_new' (Kd.R_new' (Kd.R_new' (Kd.R_new' (Kd.R_new' (Kd.R_new' (Kd.R_new' (Kd.R_new' (Kd.R_new' (Kd.R_new' ho0 (rl HO_8.out)) (rl HO_9.out)) (rl HO_379000.out)) (rl HO_379001.out)) (rl HO_401000.out)) (rl HO_401001.out)) (rl HO419.out)) (rl HO422.out)) (rl HO426.out)) (rl HO429.out)) (rl HO480.out)) (rl HO483.out)) (rl HO488.out)) (rl HO491.out)) (rl HO495.out)) (rl HO498.out)) (rl HO504.out)) (rl HO507.out)) (below_size (by exact jB HB.out)))
            have HO514 := Aside0.mk (Kd.R_lower (Kd.R_new' (Kd.R_new' (Kd.R_new' (Kd.R_new' (Kd.R_new' (Kd.R_new' (Kd.R_new' (Kd.R_new' (Kd.R_new' (Kd.R_new' (Kd.R_new' (Kd.R_new' (Kd.R_new' (Kd.R_new' (Kd.R_new' (Kd.R_new' (Kd.R_new' (Kd.R_new' ho1 (rl HO_8.out)) (rl HO_9.out)) (rl HO_379000.out)) (rl HO_379001.out)) (rl HO_401000.out)) (rl HO_401001.out)) (rl HO419.out)) (rl HO422.out)) (rl HO426.out)) (rl HO429.out)) (rl HO480.out)) (rl HO483.out)) (rl HO488.out)) (rl HO491.out)) (rl HO495.out)) (rl HO498.out)) (rl HO504.out)) (rl HO507.out)) (below_size (by exact jB HB.out)))
            replace HO_8 := Aside0.mk (o2 HO_8.out hb ho0 ho1)
            replace HO_9 := Aside0.mk (o2 HO_9.out hb ho0 ho1)
            replace HO_379000 := Aside0.mk (o2 HO_379000.out hb ho0 ho1)
            replace HO_379001 := Aside0.mk (o2 HO_379001.out hb ho0 ho1)
            replace HO_401000 := Aside0.mk (o2 HO_401000.out hb ho0 ho1)
            replace HO_401001 := Aside0.mk (o2 HO_401001.out hb ho0 ho1)
            replace HO419 := Aside0.mk (o2 HO419.out hb ho0 ho1)
            replace HO422 := Aside0.mk (o2 HO422.out hb ho0 ho1)
            replace HO426 := Aside0.mk (o2 HO426.out hb ho0 ho1)
            replace HO429 := Aside0.mk (o2 HO429.out hb ho0 ho1)
            replace HO480 := Aside0.mk (o2 HO480.out hb ho0 ho1)
            replace HO483 := Aside0.mk (o2 HO483.out hb ho0 ho1)
            replace HO488 := Aside0.mk (o2 HO488.out hb ho0 ho1)
            replace HO491 := Aside0.mk (o2 HO491.out hb ho0 ho1)
            replace HO495 := Aside0.mk (o2 HO495.out hb ho0 ho1)
            replace HO498 := Aside0.mk (o2 HO498.out hb ho0 ho1)
            replace HO504 := Aside0.mk (o2 HO504.out hb ho0 ho1)
            replace HO507 := Aside0.mk (o2 HO507.out hb ho0 ho1)
            replace BK378 := Aside0.mk (bb BK378.out hb)
            replace BK392 := Aside0.mk (bb BK392.out hb)
            replace BK400 := Aside0.mk (bb BK400.out hb)
            replace BK431 := Aside0.mk (bb BK431.out hb)
            replace HB := Aside0.mk (below_step (by exact jB HB.out) hb)
            (try clear hb)
            (try clear hb2)
            (try clear hk)
            (try clear hi)
            (try clear ho0)
            (try clear ho1)
            refine hK.out _ _ ⟨(blk_cell BK378.out 0).trans rfl, (blk_cell BK378.out 1).trans rfl, (blk_cell BK378.out 2).trans rfl, (blk_cell BK431.out 0).trans rfl, (blk_cell BK431.out 1).trans rfl, (blk_cell BK431.out 2).trans rfl⟩ (fun hHeld => ?_)
            clear hK K
            refine norm_ (a' := ?_) ?_ ?_
            rotate_left
            ·show Act.put _ (some 111) _ = _
             simp only [Act.put, sA, s0, sS, i64_w, i32_w]
             rfl
            refine one_ (i := 34) (N := some 112) #[true, true, true, true, true, true, true, true, true, true, true, true, true, true, true, true, true, true, true, true, true, true, true, true, true, true, true, true, true, true, true, true, true, true, true, false, false, false] rfl rfl (one_of HT_.out (by kernel_rfl)) (by decide) (fun K hK => ?_)
            refine goes_ Try.func18 (by kernel_rfl) rfl #[] (by rfl) rfl rfl (by (try simp only [mA, mC, mN]); first | done | rfl | (simp only [ld, lt]; rfl)) ?_
            with_reducible refine (impl_FrmZero.calls  t516 t519 t522 _ A129.out).mono ?_
            rintro e w172 ⟨v517, v520, rfl, ho0, ho1, hb⟩
            refine ⟨_, rfl, ?_⟩
            have HO518 := Aside0.mk (Kd.R_lower (Kd.R_new' (Kd.R_new' (Kd.R_new' (Kd.R_new' (Kd.R_new' (Kd.R_new' (Kd.R_new' (Kd.R_new' (Kd.R_new' (Kd.R_new' (Kd.R_new' (Kd.R_new' (Kd.R_new' (Kd.R_new' (Kd.R_new' (Kd.R_new' (Kd.R_new' (Kd.R_new' (Kd.R_new' (Kd.R_new' ho0 (rl HO_8.out)) (rl HO_9.out)) (rl HO_379000.out)) (rl HO_379001.out)) (rl HO_401000.out)) (rl HO_401001.out)) (rl HO419.out)) (rl HO422.out)) (rl HO426.out)) (rl HO429.out)) (rl HO480.out)) (rl HO483.out)) (rl HO488.out)) (rl HO491.out)) (rl HO495.out)) (rl HO498.out)) (rl HO504.out)) (rl HO507.out)) (rl HO511.out)) (rl HO514.out)) (below_size (by exact jB HB.out)))
            have HO521 := Aside0.mk (Kd.R_lower (Kd.R_new' (Kd.R_new' (Kd.R_new' (Kd.R_new' (Kd.R_new' (Kd.R_new' (Kd.R_new' (Kd.R_new' (Kd.R_new' (Kd.R_new' (Kd.R_new' (Kd.R_new' (Kd.R_new' (Kd.R_new' (Kd.R_new' (Kd.R_new' (Kd.R_new' (Kd.R_new' (Kd.R_new' (Kd.R_new' ho1 (rl HO_8.out)) (rl HO_9.out)) (rl HO_379000.out)) (rl HO_379001.out)) (rl HO_401000.out)) (rl HO_401001.out)) (rl HO419.out)) (rl HO422.out)) (rl HO426.out)) (rl HO429.out)) (rl HO480.out)) (rl HO483.out)) (rl HO488.out)) (rl HO491.out)) (rl HO495.out)) (rl HO498.out)) (rl HO504.out)) (rl HO507.out)) (rl HO511.out)) (rl HO514.out)) (below_size (by exact jB HB.out)))
            replace HO_8 := Aside0.mk (o2 HO_8.out hb ho0 ho1)
            replace HO_9 := Aside0.mk (o2 HO_9.out hb ho0 ho1)
            replace HO_379000 := Aside0.mk (o2 HO_379000.out hb ho0 ho1)
            replace HO_379001 := Aside0.mk (o2 HO_379001.out hb ho0 ho1)
            replace HO_401000 := Aside0.mk (o2 HO_401000.out hb ho0 ho1)
            replace HO_401001 := Aside0.mk (o2 HO_401001.out hb ho0 ho1)
            replace HO419 := Aside0.mk (o2 HO419.out hb ho0 ho1)
            replace HO422 := Aside0.mk (o2 HO422.out hb ho0 ho1)
            replace HO426 := Aside0.mk (o2 HO426.out hb ho0 ho1)
            replace HO429 := Aside0.mk (o2 HO429.out hb ho0 ho1)
            replace HO480 := Aside0.mk (o2 HO480.out hb ho0 ho1)
            replace HO483 := Aside0.mk (o2 HO483.out hb ho0 ho1)
            replace HO488 := Aside0.mk (o2 HO488.out hb ho0 ho1)
            replace HO491 := Aside0.mk (o2 HO491.out hb ho0 ho1)
            replace HO495 := Aside0.mk (o2 HO495.out hb ho0 ho1)
            replace HO498 := Aside0.mk (o2 HO498.out hb ho0 ho1)
            replace HO504 := Aside0.mk (o2 HO504.out hb ho0 ho1)
            replace HO507 := Aside0.mk (o2 HO507.out hb ho0 ho1)
            replace HO511 := Aside0.mk (o2 HO511.out hb ho0 ho1)
            replace HO514 := Aside0.mk (o2 HO514.out hb ho0 ho1)
            replace BK378 := Aside0.mk (bb BK378.out hb)
            replace BK392 := Aside0.mk (bb BK392.out hb)
            replace BK400 := Aside0.mk (bb BK400.out hb)
            replace BK431 := Aside0.mk (bb BK431.out hb)
            replace HB := Aside0.mk (below_step (by exact jB HB.out) hb)
            (try clear hb)
            (try clear hb2)
            (try clear hk)
            (try clear hi)
            (try clear ho0)
            (try clear ho1)
            obtain ⟨Ao173, co173, eo173⟩ := Kd.R_slice HO511.out
            (first | subst eo173 | (injection eo173 with f1_ f2_ f3_; have f4_ := f1_.symm; have f5_ := f3_.symm; clear f1_ f2_ f3_; subst f4_; subst f5_))
            obtain ⟨Ao174, co174, eo174⟩ := Kd.R_slice HO514.out
            (first | subst eo174 | (injection eo174 with f1_ f2_ f3_; have f4_ := f1_.symm; have f5_ := f3_.symm; clear f1_ f2_ f3_; subst f4_; subst f5_))
            obtain ⟨Ao175, co175, eo175⟩ := Kd.R_slice HO518.out
            (first | subst eo175 | (injection eo175 with f1_ f2_ f3_; have f4_ := f1_.symm; have f5_ := f3_.symm; clear f1_ f2_ f3_; subst f4_; subst f5_))
            obtain ⟨Ao176, co176, eo176⟩ := Kd.R_slice HO521.out
            (first | subst eo176 | (injection eo176 with f1_ f2_ f3_; have f4_ := f1_.symm; have f5_ := f3_.symm; clear f1_ f2_ f3_; subst f4_; subst f5_))
            refine hK.out _ _ ⟨(blk_cell BK378.out 0).trans rfl, (blk_cell BK378.out 1).trans rfl, (blk_cell BK378.out 2).trans rfl, (blk_cell BK431.out 0).trans rfl, (blk_cell BK431.out 1).trans rfl, (blk_cell BK431.out 2).trans rfl⟩ (fun hHeld => ?_)
            clear hK K
            refine norm_ (a' := ?_) ?_ ?_
            rotate_left
            ·show Act.put _ (some 112) _ = _
             simp only [Act.put, sA, s0, sS, i64_w, i32_w]
             rfl
            refine one_ (i := 35) (N := some 113) #[true, true, true, true, true, true, true, true, true, true, true, true, true, true, true, true, true, true, true, true, true, true, true, true, true, true, true, true, true, true, true, true, true, true, true, true, false, false] rfl rfl (one_of HT_.out (by kernel_rfl)) (by decide) (fun K hK => ?_)
            refine goes_ Try.func8 (by kernel_rfl) rfl #[.agg #[.slice Ao173 t509.length co173, .slice Ao174 t512.length co174, .int .i64 t515], .agg #[.slice Ao175 t516.length co175, .slice Ao176 t519.length co176, .int .i64 t522]] (by rfl) rfl rfl (by (try simp only [mA, mC, mN]); first | done | rfl | (simp only [ld, lt]; rfl)) ?_
            with_reducible refine (laws_coForm.calls kj8 _ _ t509 _ _ t512 t515 _ _ t516 _ _ t519 t522 t523 _ ?side1 ?side2 ?side3 ?side4 ?side5 ?side6 ?side7 ?side8 A130.out).mono ?_
            (case side1 => exact lC <| (Kd.R_reads' HO511.out).2.2)
            (case side2 => exact (Kd.R_reads' HO511.out).2.1)
            (case side3 => exact lC <| (Kd.R_reads' HO514.out).2.2)
            (case side4 => exact (Kd.R_reads' HO514.out).2.1)
            (case side5 => exact lC <| (Kd.R_reads' HO518.out).2.2)
            (case side6 => exact (Kd.R_reads' HO518.out).2.1)
            (case side7 => exact lC <| (Kd.R_reads' HO521.out).2.2)
            (case side8 => exact (Kd.R_reads' HO521.out).2.1)
            rintro e w177 ⟨rfl, hb⟩
            refine ⟨_, rfl, ?_⟩
            replace HO_8 := Aside0.mk (rb HO_8.out hb)
            replace HO_9 := Aside0.mk (rb HO_9.out hb)
            replace HO_379000 := Aside0.mk (rb HO_379000.out hb)
            replace HO_379001 := Aside0.mk (rb HO_379001.out hb)
            replace HO_401000 := Aside0.mk (rb HO_401000.out hb)
            replace HO_401001 := Aside0.mk (rb HO_401001.out hb)
            replace HO419 := Aside0.mk (rb HO419.out hb)
            replace HO422 := Aside0.mk (rb HO422.out hb)
            replace HO426 := Aside0.mk (rb HO426.out hb)
            replace HO429 := Aside0.mk (rb HO429.out hb)
            replace HO480 := Aside0.mk (rb HO480.out hb)
            replace HO483 := Aside0.mk (rb HO483.out hb)
            replace HO488 := Aside0.mk (rb HO488.out hb)
            replace HO491 := Aside0.mk (rb HO491.out hb)
            replace HO495 := Aside0.mk (rb HO495.out hb)
            replace HO498 := Aside0.mk (rb HO498.out hb)
            replace HO504 := Aside0.mk (rb HO504.out hb)
            replace HO507 := Aside0.mk (rb HO507.out hb)
            replace HO511 := Aside0.mk (rb HO511.out hb)
            replace HO514 := Aside0.mk (rb HO514.out hb)
            replace HO518 := Aside0.mk (rb HO518.out hb)
            replace HO521 := Aside0.mk (rb HO521.out hb)
            replace BK378 := Aside0.mk (bb BK378.out hb)
            replace BK392 := Aside0.mk (bb BK392.out hb)
            replace BK400 := Aside0.mk (bb BK400.out hb)
            replace BK431 := Aside0.mk (bb BK431.out hb)
            replace HB := Aside0.mk (below_step (by exact jB HB.out) hb)
            (try clear hb)
            (try clear hb2)
            (try clear hk)
            (try clear hi)
            refine hK.out _ _ ⟨(blk_cell BK378.out 0).trans rfl, (blk_cell BK378.out 1).trans rfl, (blk_cell BK378.out 2).trans rfl, (blk_cell BK431.out 0).trans rfl, (blk_cell BK431.out 1).trans rfl, (blk_cell BK431.out 2).trans rfl⟩ (fun hHeld => ?_)
            clear hK K
            refine norm_ (a' := ?_) ?_ ?_
            rotate_left
            ·show Act.put _ (some 113) _ = _
             simp only [Act.put, sA, s0, sS, i64_w, i32_w]
             rfl
            refine pure_ (i := 36) (N := some 114) (v := ?_) (a' := ?_) #[true, true, true, true, true, true, true, true, true, true, true, true, true, true, true, true, true, true, true, true, true, true, true, true, true, true, true, true, true, true, true, true, true, true, true, true, true, false] rfl rfl (any_of HT_.out (by kernel_rfl)) (fun _ _ _ h => h) (Or.inl ⟨by rfl, ?_⟩) ?_ ?_
            rotate_left
            ·intro w'
             go_simp
             with_reducible rfl
            rotate_left
            ·simp only [Act.put, sA, s0, sS, i64_w, i32_w]
             rfl
            refine pure_ (i := 37) (N := some 4) (v := ?_) (a' := ?_) #[true, true, true, true, true, true, true, true, true, true, true, true, true, true, true, true, true, true, true, true, true, true, true, true, true, true, true, true, true, true, true, true, true, true, true, true, true, true] rfl rfl (any_of HT_.out (by kernel_rfl)) (fun _ _ _ h => h) (Or.inl ⟨by rfl, ?_⟩) ?_ ?_
            rotate_left
            ·intro w'
             go_simp
             with_reducible rfl
            rotate_left
            ·simp only [Act.put, sA, s0, sS, i64_w, i32_w]
             rfl
            refine done_ (done_of HT_.out (by kernel_rfl)) ?_
            try go_wp2
            go_ret
            exact ⟨by first | rfl | (simp [errW_none, errW_some] <;> rfl) | (simp [*, errW_none, errW_some] <;> rfl), by exact jB HB.out⟩
           ·replace c126 := Bool.eq_false_iff.mpr c126
            subst c126
            have H1 : (some false) = some r := by rw [if_neg (show ¬ (false = true) by decide)] at H; exact H
            clear H
            have H := H1
            clear H1
            exact absurd (Option.some.inj H) (by rw [hr.out]; decide)
          ·replace c124 := Bool.eq_false_iff.mpr c124
           subst c124
           have H1 : (some false) = some r := by rw [if_neg (show ¬ (false = true) by decide)] at H; exact H
           clear H
           have H := H1
           clear H1
           exact absurd (Option.some.inj H) (by rw [hr.out]; decide)
         ·replace c120 := Bool.eq_false_iff.mpr c120
          subst c120
          have H1 : (some false) = some r := by rw [if_neg (show ¬ (false = true) by decide)] at H; exact H
          clear H
          have H := H1
          clear H1
          exact absurd (Option.some.inj H) (by rw [hr.out]; decide)
       ·replace c50 := Bool.eq_false_iff.mpr c50
        subst c50
        have H1 : (if (t393.length : Int) = 0 then ((laws_coHolds.f).bind fun t412 => (some t412)) else (some false)) = some r := by rw [if_neg (show ¬ (false = true) by decide)] at H; exact H
        clear H
        have H := H1
        clear H1
        by_cases c178 : (t393.length : Int) = 0
        ·rw [if_pos c178] at H
         have c178b0 : ((t393.length : Int) == 0) = true := beq_iff_eq.mpr c178
         have c178b1 : ((t393.length : Int) != 0) = false := bne_eq_false_iff_eq.mpr c178
         clear c178
         replace H := Option.bind_eq_some_iff.mp H
         obtain ⟨t412, A1790, H⟩ := H
         replace H : (some t412) = some r := H
         have A179 := Aside0.mk A1790
         clear A1790
         obtain rfl := Option.some.inj H
         have n_ := Aside0.mk (Kd.R_mono (ok' := fun k_ => (some k_ ≠ (.slice Ao14 t373.length co14 : Value).ownBlock ∧ some k_ ≠ (.slice Ao24 t393.length co24 : Value).ownBlock)) HO_379000.out (fun _ hk => ⟨hk.2.2.1, hk.2.2.2.2.2.1⟩))
         clear HO_379000
         have HO_379000 := n_
         clear n_
         have n_ := Aside0.mk (Kd.R_mono (ok' := fun k_ => (some k_ ≠ (.slice Ao12 t370.length co12 : Value).ownBlock ∧ some k_ ≠ (.slice Ao24 t393.length co24 : Value).ownBlock)) HO_379001.out (fun _ hk => ⟨hk.2.2.1, hk.2.2.2.2.2.1⟩))
         clear HO_379001
         have HO_379001 := n_
         clear n_
         have n_ := Aside0.mk (Kd.R_mono (ok' := fun k_ => (some k_ ≠ (.slice Ao12 t370.length co12 : Value).ownBlock ∧ some k_ ≠ (.slice Ao14 t373.length co14 : Value).ownBlock)) HO_401000.out (fun _ hk => ⟨hk.2.2.1, hk.2.2.2.1⟩))
         clear HO_401000
         have HO_401000 := n_
         clear n_
         have hnb180 := NB378_392.out
         have hnc180 := NB392_378.out
         have hnb181 := NB378_400.out
         have hnc181 := NB400_378.out
         obtain ⟨hcz182_0, hcz182_1, hcz182_2, hfz182_0, hfz182_1, hfz182_2⟩ := cf3 BK378.out
         go_wp2_with (first | ((with_reducible refine gate_callee (f := 11) rfl ?_); refine goesL_ (some 52) rfl rfl Try.func11 (by kernel_rfl) rfl #[.agg #[.slice Ao12 t370.length co12, .slice Ao14 t373.length co14, .int .i64 t376]] rfl (by (try simp only [mA, mC, mN]); first | done | rfl | (simp only [ld, lt]; rfl)) ?_; (with_reducible refine (impl_FrmOk.calls _ _ t370 _ _ t373 t376 false _ ?side1 ?side2 ?side3 ?side4 A49.out).mono ?_); (case side1 => exact lC <| (Kd.R_reads' HO_379000.out).2.2); (case side2 => exact (Kd.R_reads' HO_379000.out).2.1); (case side3 => exact lC <| (Kd.R_reads' HO_379001.out).2.2); (case side4 => exact (Kd.R_reads' HO_379001.out).2.1); rintro e w183 ⟨rfl, hb⟩; refine ⟨_, rfl, ?_⟩; replace HO_379000 := Aside0.mk (rb HO_379000.out hb); replace HO_379001 := Aside0.mk (rb HO_379001.out hb); replace HO_401000 := Aside0.mk (rb HO_401000.out hb); replace BK378 := Aside0.mk (bb BK378.out hb); replace BK392 := Aside0.mk (bb BK392.out hb); replace BK400 := Aside0.mk (bb BK400.out hb); replace HB := Aside0.mk (below_step (by exact jB HB.out) hb); (try clear hb); (try clear hb2); (try clear hk); (try clear hi); have n_ := Aside0.mk (Kd.R_mono (ok' := fun k_ => True) HO_401000.out (fun _ hk => trivial)); clear HO_401000; have HO_401000 := n_; clear n_; have hnb184 := NB400_392.out; have hnc184 := NB392_400.out; obtain ⟨hcz185_0, hcz185_1, hcz185_2, hfz185_0, hfz185_1, hfz185_2⟩ := cf3 BK400.out) | (go_at_call 13; (with_reducible refine (laws_coHolds.calls  t412 _ A179.out).mono ?_); rintro e w186 ⟨rfl, hb⟩; replace BK378 := Aside0.mk (bb BK378.out hb); replace BK392 := Aside0.mk (bb BK392.out hb); replace BK400 := Aside0.mk (bb BK400.out hb); replace HB := Aside0.mk (below_step (by exact jB HB.out) hb); (try clear hb); (try clear hb2); (try clear hk); (try clear hi)))
         go_ret
         exact ⟨by first | rfl | (simp [errW_none, errW_some] <;> rfl) | (simp [*, errW_none, errW_some] <;> rfl), by exact jB HB.out⟩
        ·rw [if_neg c178] at H
         have c178b0 : ((t393.length : Int) == 0) = false := beq_eq_false_iff_ne.mpr c178
         have c178b1 : ((t393.length : Int) != 0) = true := bne_iff_ne.mpr c178
         have c178b2 : ¬ (t393 = []) := fun h_ => c178 (by rw [h_]; rfl)
         exact absurd (Option.some.inj H) (by rw [hr.out]; decide)

/-- THE ONE PURE STATEMENT of laws_FnFrmTimes. -/
def laws_FnFrmTimes.Pure : Prop := ∀ (l0 : List Int) (l1 : List Int), (l0.length ≤ 9223372036854775807 ∧ ∀ x0 ∈ l0, (Lit.int .u8 x0).wf = true) → (l1.length ≤ 9223372036854775807 ∧ ∀ x1 ∈ l1, (Lit.int .u8 x1).wf = true) → ∃ k, laws_FnFrmTimes.f k l0 l1 = some true
theorem laws_FnFrmTimes.walk (P : laws_FnFrmTimes.Pure) (A0 : Option Addr) (c0 : Nat) (l0 : List Int) (A1 : Option Addr) (c1 : Nat) (l1 : List Int) (w : World) (hr0 : Kd.C (Kd.int .u8) w A0 l0.length l0) (hc0 : l0.length ≤ c0) (hr1 : Kd.C (Kd.int .u8) w A1 l1.length l1) (hc1 : l1.length ≤ c1) (hw0 : (l0.length ≤ 9223372036854775807 ∧ ∀ x0 ∈ l0, (Lit.int .u8 x0).wf = true)) (hw1 : (l1.length ≤ 9223372036854775807 ∧ ∀ x1 ∈ l1, (Lit.int .u8 x1).wf = true)) :
  Calls Try.prog 4 #[.slice A0 l0.length c0, .slice A1 l1.length c1] w fun e w' => e = .returned (.bool true) ∧ Below w.heap.size w w' := by
 obtain ⟨k, h⟩ := P l0 l1 hw0 hw1
 refine (laws_FnFrmTimes.calls k A0 c0 l0 A1 c1 l1 true w ⟨rfl⟩ hr0 hc0 hr1 hc1 h).mono ?_
 rintro e w' ⟨rfl, hd⟩
 exact ⟨rfl, hd⟩

end Go.Proofs.Ytopbdoilpdpkmaa.QFnFrmTimes

-- shorter
