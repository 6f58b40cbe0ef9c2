/- Plain functions, and that the Go code computes them: written by a program of this session over the seat's translation; the conditions stand in each theorem. -/
import Derived.Test.YtfbdjimcjoddgaaQFnExactRowDox80
import Derived.Test.YtfbdjimcjoddgaaQFnExactRowDox0
import Derived.Test.YtfbdjimcjoddgaaQFnExactRowDox1
import Derived.Test.YtfbdjimcjoddgaaQFnExactRowDox2
import Derived.Test.YtfbdjimcjoddgaaQFnExactRowDox4
import Derived.Test.YtfbdjimcjoddgaaQFnExactRowDox6
import Derived.Test.YtfbdjimcjoddgaaQFnExactRowDox7
namespace Go.Proofs.Ytfbdjimcjoddgaa.QFnExactRowDo
open Go.RowKit Go.Proofs.YtfbdjimcjoddgaaW.PrintWords Go.Proofs.YtfbdjimcjoddgaaW.PrintLast Go.Proofs.YtfbdjimcjoddgaaW.PrintMore Go.Proofs.Ytfbdjimcjoddgaa.HWords
attribute [local go_sem] max2_int min2_int max_two min_two max_three min_three max_four min_four   -- for this text's walks alone
set_option linter.unusedVariables false
set_option linter.unusedSimpArgs false

set_option maxHeartbeats 8000000 in
set_option maxRecDepth 100000 in
theorem laws_FnExactRowDo.calls (k : Nat) (A0_0 : Option Addr) (c0_0 : Nat) (l0_0 : List (S24)) (A0_1 : Option Addr) (c0_1 : Nat) (l0_1 : List (S24)) (A0_2 : Option Addr) (c0_2 : Nat) (l0_2 : List (S24)) (a0_3 : Bool) (A1 : Option Addr) (c1 : Nat) (l1 : List Int) (A2 : Option Addr) (c2 : Nat) (l2 : List Int) (r : Bool) (w : World) (hr : Aside0 (r = true)) (hr0_0 : Kd.C k24 w A0_0 l0_0.length l0_0) (hc0_0 : l0_0.length ≤ c0_0) (hr0_1 : Kd.C k24 w A0_1 l0_1.length l0_1) (hc0_1 : l0_1.length ≤ c0_1) (hr0_2 : Kd.C k24 w A0_2 l0_2.length l0_2) (hc0_2 : l0_2.length ≤ c0_2) (hr1 : Kd.C (Kd.int .i64) w A1 l1.length l1) (hc1 : l1.length ≤ c1) (hr2 : Kd.C (Kd.int .i64) w A2 l2.length l2) (hc2 : l2.length ≤ c2) (h : laws_FnExactRowDo.f k l0_0 l0_1 l0_2 a0_3 l1 l2 = some r) :
    Calls Try.prog 7 #[.agg #[.slice A0_0 l0_0.length c0_0, .slice A0_1 l0_1.length c0_1, .slice A0_2 l0_2.length c0_2, .bool a0_3], .slice A1 l1.length c1, .slice A2 l2.length c2] w fun e w' => e = .returned (.bool r) ∧ Below w.heap.size w w' := by
  have hu41 := Try.underlying41
  have hu54 := Try.underlying54
  have hu45 := Try.underlying45
  have HR0_0 := Aside0.mk hr0_0
  have HC0_0 := Aside0.mk hc0_0
  clear hr0_0 hc0_0
  have HR0_1 := Aside0.mk hr0_1
  have HC0_1 := Aside0.mk hc0_1
  clear hr0_1 hc0_1
  have HR0_2 := Aside0.mk hr0_2
  have HC0_2 := Aside0.mk hc0_2
  clear hr0_2 hc0_2
  have HR1 := Aside0.mk hr1
  have HC1 := Aside0.mk hc1
  clear hr1 hc1
  have HR2 := Aside0.mk hr2
  have HC2 := Aside0.mk hc2
  clear hr2 hc2
  have HB := Aside0.mk (Below.refl w.heap.size w)
  have H : (if (l1.length : Int) > 1048576 then (some true) else (if (l2.length : Int) > 1048576 then (some true) else ((laws_szRowRow.f k l0_0 l0_1 l0_2 a0_3 1048576).bind fun t285 => (if t285 < 0 then (some true) else ((laws_toRowRow.f k l0_0 l0_1 l0_2 a0_3).bind fun bt286 => ((laws_toIntS.f k l1).bind fun t296 => ((laws_toIntS.f k l2).bind fun t299 => ((spec_RowDo.f k bt286.1 bt286.2.1 bt286.2.2.1 bt286.2.2.2 t296 t299).bind fun bt302 => ((laws_toRowRow.f k l0_0 l0_1 l0_2 a0_3).bind fun bt310 => ((laws_toIntS.f k l1).bind fun t321 => ((laws_toIntS.f k l2).bind fun t324 => ((impl_RowDo.f k bt310.1 bt310.2.1 bt310.2.2.1 bt310.2.2.2 t321 t324).bind fun bt327 => ((laws_eqResResult.f k bt327.1 bt327.2.1 bt302.1 bt302.2.1).bind fun t335 => (if t335 = true then ((laws_eqIntS.f k bt327.2.2 bt302.2.2).bind fun t336 => (laws_FnExactRowDo.j0 k l1 l2 bt302.2.2 t321 t324 bt327.2.2 (!t336) l0_0 l0_1 l0_2 a0_3 bt302.1 bt302.2.1 bt310.1 bt310.2.1 bt310.2.2.1 bt310.2.2.2 bt327.1 bt327.2.1)) else (laws_FnExactRowDo.j0 k l1 l2 bt302.2.2 t321 t324 bt327.2.2 true l0_0 l0_1 l0_2 a0_3 bt302.1 bt302.2.1 bt310.1 bt310.2.1 bt310.2.2.1 bt310.2.2.2 bt327.1 bt327.2.1))))))))))))))) = some r := h
  clear h
  by_cases c4 : (l1.length : Int) > 1048576
  · rw [if_pos c4] at H
    have c4b0 : decide (1048576 < (l1.length : Int)) = true := decide_eq_true c4
    have c4b1 : decide (1048576 < l1.length) = true := decide_eq_true (by omega)
    clear c4
    obtain rfl := Option.some.inj H
    go_enter Try.func7, Try.ntmps7
    go_wp2_with (first | ((with_reducible refine gate_dst (N := 3) rfl ?_); refine box_event ?hg (N := 3) ?hd (cs := #[.slice A0_0 l0_0.length c0_0, .slice A0_1 l0_1.length c0_1, .slice A0_2 l0_2.length c0_2, .bool a0_3]) (t := 41) ?hr ?_; (case hd => rfl); (case hg => rfl); (case hr => first | (go_simp; done) | (go_simp; rfl)); intro gb284 hg w5 hbox hb; have n0_ := Aside0.mk (below_step (by exact lB HB.out) hb); have n1_ := Aside0.mk (hbox); have n2_ := Aside0.mk ((by rw [hg]; exact (below_size (by exact lB HB.out)) : w.heap.size ≤ gb284)); have n3_ := Aside0.mk ((by rw [hg]; exact (below_size (by exact lB HB.out)) : w.heap.size ≤ gb284)); clear HB; have HB := n0_; have BK284 := n1_; have GW284 := n2_; have GE284 := n3_; clear n0_ n1_ n2_ n3_; clear hb hbox hg))
    go_ret
    exact ⟨by first | rfl | (simp [errW_none, errW_some] <;> rfl) | (simp [*, errW_none, errW_some] <;> rfl), by repeat (first | (with_reducible first | exact HB.out | apply below_alloc | apply pw_below_drewN | apply below_drew1 | refine below_set ?_ GE284.out) | exact HB.out)⟩
  · rw [if_neg c4] at H
    have c4b0 : decide (1048576 < (l1.length : Int)) = false := decide_eq_false c4
    have c4b1 : decide (1048576 < l1.length) = false := decide_eq_false (by omega)
    clear c4
    by_cases c6 : (l2.length : Int) > 1048576
    · rw [if_pos c6] at H
      have c6b0 : decide (1048576 < (l2.length : Int)) = true := decide_eq_true c6
      have c6b1 : decide (1048576 < l2.length) = true := decide_eq_true (by omega)
      clear c6
      obtain rfl := Option.some.inj H
      go_enter Try.func7, Try.ntmps7
      go_wp2_with (first | ((with_reducible refine gate_dst (N := 3) rfl ?_); refine box_event ?hg (N := 3) ?hd (cs := #[.slice A0_0 l0_0.length c0_0, .slice A0_1 l0_1.length c0_1, .slice A0_2 l0_2.length c0_2, .bool a0_3]) (t := 41) ?hr ?_; (case hd => rfl); (case hg => rfl); (case hr => first | (go_simp; done) | (go_simp; rfl)); intro gb284 hg w7 hbox hb; have n0_ := Aside0.mk (below_step (by exact lB HB.out) hb); have n1_ := Aside0.mk (hbox); have n2_ := Aside0.mk ((by rw [hg]; exact (below_size (by exact lB HB.out)) : w.heap.size ≤ gb284)); have n3_ := Aside0.mk ((by rw [hg]; exact (below_size (by exact lB HB.out)) : w.heap.size ≤ gb284)); clear HB; have HB := n0_; have BK284 := n1_; have GW284 := n2_; have GE284 := n3_; clear n0_ n1_ n2_ n3_; clear hb hbox hg))
      go_ret
      exact ⟨by first | rfl | (simp [errW_none, errW_some] <;> rfl) | (simp [*, errW_none, errW_some] <;> rfl), by repeat (first | (with_reducible first | exact HB.out | apply below_alloc | apply pw_below_drewN | apply below_drew1 | refine below_set ?_ GE284.out) | exact HB.out)⟩
    · rw [if_neg c6] at H
      have c6b0 : decide (1048576 < (l2.length : Int)) = false := decide_eq_false c6
      have c6b1 : decide (1048576 < l2.length) = false := decide_eq_false (by omega)
      clear c6
      replace H := Option.bind_eq_some_iff.mp H
      obtain ⟨t285, A80, H⟩ := H
      replace H : (if t285 < 0 then (some true) else ((laws_toRowRow.f k l0_0 l0_1 l0_2 a0_3).bind fun bt286 => ((laws_toIntS.f k l1).bind fun t296 => ((laws_toIntS.f k l2).bind fun t299 => ((spec_RowDo.f k bt286.1 bt286.2.1 bt286.2.2.1 bt286.2.2.2 t296 t299).bind fun bt302 => ((laws_toRowRow.f k l0_0 l0_1 l0_2 a0_3).bind fun bt310 => ((laws_toIntS.f k l1).bind fun t321 => ((laws_toIntS.f k l2).bind fun t324 => ((impl_RowDo.f k bt310.1 bt310.2.1 bt310.2.2.1 bt310.2.2.2 t321 t324).bind fun bt327 => ((laws_eqResResult.f k bt327.1 bt327.2.1 bt302.1 bt302.2.1).bind fun t335 => (if t335 = true then ((laws_eqIntS.f k bt327.2.2 bt302.2.2).bind fun t336 => (laws_FnExactRowDo.j0 k l1 l2 bt302.2.2 t321 t324 bt327.2.2 (!t336) l0_0 l0_1 l0_2 a0_3 bt302.1 bt302.2.1 bt310.1 bt310.2.1 bt310.2.2.1 bt310.2.2.2 bt327.1 bt327.2.1)) else (laws_FnExactRowDo.j0 k l1 l2 bt302.2.2 t321 t324 bt327.2.2 true l0_0 l0_1 l0_2 a0_3 bt302.1 bt302.2.1 bt310.1 bt310.2.1 bt310.2.2.1 bt310.2.2.2 bt327.1 bt327.2.1)))))))))))) = some r := H
      have A8 := Aside0.mk A80
      clear A80
      by_cases c9 : t285 < 0
      · rw [if_pos c9] at H
        have c9b0 : decide (t285 < 0) = true := decide_eq_true c9
        clear c9
        obtain rfl := Option.some.inj H
        go_enter Try.func7, Try.ntmps7
        go_wp2_with (first | ((with_reducible refine gate_dst (N := 3) rfl ?_); refine box_event ?hg (N := 3) ?hd (cs := #[.slice A0_0 l0_0.length c0_0, .slice A0_1 l0_1.length c0_1, .slice A0_2 l0_2.length c0_2, .bool a0_3]) (t := 41) ?hr ?_; (case hd => rfl); (case hg => rfl); (case hr => first | (go_simp; done) | (go_simp; rfl)); intro gb284 hg w10 hbox hb; have n0_ := Aside0.mk (below_step (by exact lB HB.out) hb); have n1_ := Aside0.mk (hbox); have n2_ := Aside0.mk ((by rw [hg]; exact (below_size (by exact lB HB.out)) : w.heap.size ≤ gb284)); have n3_ := Aside0.mk ((by rw [hg]; exact (below_size (by exact lB HB.out)) : w.heap.size ≤ gb284)); clear HB; have HB := n0_; have BK284 := n1_; have GW284 := n2_; have GE284 := n3_; clear n0_ n1_ n2_ n3_; clear hb hbox hg; have hcz11_0 : w10.cell? ⟨gb284, 0, none⟩ = some (.slice A0_0 l0_0.length c0_0) := (blk_cell BK284.out 0).trans rfl; have hcz11_1 : w10.cell? ⟨gb284, 1, none⟩ = some (.slice A0_1 l0_1.length c0_1) := (blk_cell BK284.out 1).trans rfl; have hcz11_2 : w10.cell? ⟨gb284, 2, none⟩ = some (.slice A0_2 l0_2.length c0_2) := (blk_cell BK284.out 2).trans rfl; have hcz11_3 : w10.cell? ⟨gb284, 3, none⟩ = some (.bool a0_3) := (blk_cell BK284.out 3).trans rfl; have hfz11_0 := blk_frozen BK284.out 0; have hfz11_1 := blk_frozen BK284.out 1; have hfz11_2 := blk_frozen BK284.out 2; have hfz11_3 := blk_frozen BK284.out 3) | ((with_reducible refine gate_callee (f := 21) rfl ?_); refine goesL_ (some 28) rfl rfl Try.func21 (by kernel_rfl) rfl #[.agg #[.slice A0_0 l0_0.length c0_0, .slice A0_1 l0_1.length c0_1, .slice A0_2 l0_2.length c0_2, .bool a0_3], .int .i64 1048576] rfl (by (try simp only [List.map_toArray, List.map_cons, List.map_nil]); first | done | rfl | (simp only [List.length_drop, List.length_take]; rfl)) ?_; (with_reducible refine (laws_szRowRow.calls k _ _ l0_0 _ _ l0_1 _ _ l0_2 a0_3 1048576 t285 _ ?side1 ?side2 ?side3 ?side4 ?side5 ?side6 A8.out).mono ?_); (case side1 => exact lC <| (Kd.C_below HR0_0.out HB.out)); (case side2 => exact HC0_0.out); (case side3 => exact lC <| (Kd.C_below HR0_1.out HB.out)); (case side4 => exact HC0_1.out); (case side5 => exact lC <| (Kd.C_below HR0_2.out HB.out)); (case side6 => exact HC0_2.out); rintro e w12 ⟨rfl, hb⟩; refine ⟨_, rfl, ?_⟩; have n0_ := Aside0.mk (blk_below (g := gb284) (o := .cells #[.slice A0_0 l0_0.length c0_0, .slice A0_1 l0_1.length c0_1, .slice A0_2 l0_2.length c0_2, .bool a0_3] 41 (0, 0)) (by exact lK BK284.out) hb); have n1_ := Aside0.mk (below_step (by repeat (first | (with_reducible first | exact HB.out | apply below_alloc | apply pw_below_drewN | apply below_drew1 | refine below_set ?_ GE284.out) | exact HB.out)) hb); clear BK284; clear HB; have BK284 := n0_; have HB := n1_; clear n0_ n1_; (try clear hb); (try clear hb2); (try clear hk); (try clear hi)))
        go_ret
        exact ⟨by first | rfl | (simp [errW_none, errW_some] <;> rfl) | (simp [*, errW_none, errW_some] <;> rfl), by repeat (first | (with_reducible first | exact HB.out | apply below_alloc | apply pw_below_drewN | apply below_drew1 | refine below_set ?_ GE284.out) | exact HB.out)⟩
      · rw [if_neg c9] at H
        have c9b0 : decide (t285 < 0) = false := decide_eq_false c9
        clear c9
        replace H := Option.bind_eq_some_iff.mp H
        obtain ⟨⟨t286, t289, t292, t295⟩, A130, H⟩ := H
        replace H : ((laws_toIntS.f k l1).bind fun t296 => ((laws_toIntS.f k l2).bind fun t299 => ((spec_RowDo.f k t286 t289 t292 t295 t296 t299).bind fun bt302 => ((laws_toRowRow.f k l0_0 l0_1 l0_2 a0_3).bind fun bt310 => ((laws_toIntS.f k l1).bind fun t321 => ((laws_toIntS.f k l2).bind fun t324 => ((impl_RowDo.f k bt310.1 bt310.2.1 bt310.2.2.1 bt310.2.2.2 t321 t324).bind fun bt327 => ((laws_eqResResult.f k bt327.1 bt327.2.1 bt302.1 bt302.2.1).bind fun t335 => (if t335 = true then ((laws_eqIntS.f k bt327.2.2 bt302.2.2).bind fun t336 => (laws_FnExactRowDo.j0 k l1 l2 bt302.2.2 t321 t324 bt327.2.2 (!t336) l0_0 l0_1 l0_2 a0_3 bt302.1 bt302.2.1 bt310.1 bt310.2.1 bt310.2.2.1 bt310.2.2.2 bt327.1 bt327.2.1)) else (laws_FnExactRowDo.j0 k l1 l2 bt302.2.2 t321 t324 bt327.2.2 true l0_0 l0_1 l0_2 a0_3 bt302.1 bt302.2.1 bt310.1 bt310.2.1 bt310.2.2.1 bt310.2.2.2 bt327.1 bt327.2.1)))))))))) = some r := H
        have A13 := Aside0.mk A130
        clear A130
        replace H := Option.bind_eq_some_iff.mp H
        obtain ⟨t296, A140, H⟩ := H
        replace H : ((laws_toIntS.f k l2).bind fun t299 => ((spec_RowDo.f k t286 t289 t292 t295 t296 t299).bind fun bt302 => ((laws_toRowRow.f k l0_0 l0_1 l0_2 a0_3).bind fun bt310 => ((laws_toIntS.f k l1).bind fun t321 => ((laws_toIntS.f k l2).bind fun t324 => ((impl_RowDo.f k bt310.1 bt310.2.1 bt310.2.2.1 bt310.2.2.2 t321 t324).bind fun bt327 => ((laws_eqResResult.f k bt327.1 bt327.2.1 bt302.1 bt302.2.1).bind fun t335 => (if t335 = true then ((laws_eqIntS.f k bt327.2.2 bt302.2.2).bind fun t336 => (laws_FnExactRowDo.j0 k l1 l2 bt302.2.2 t321 t324 bt327.2.2 (!t336) l0_0 l0_1 l0_2 a0_3 bt302.1 bt302.2.1 bt310.1 bt310.2.1 bt310.2.2.1 bt310.2.2.2 bt327.1 bt327.2.1)) else (laws_FnExactRowDo.j0 k l1 l2 bt302.2.2 t321 t324 bt327.2.2 true l0_0 l0_1 l0_2 a0_3 bt302.1 bt302.2.1 bt310.1 bt310.2.1 bt310.2.2.1 bt310.2.2.2 bt327.1 bt327.2.1))))))))) = some r := H
        have A14 := Aside0.mk A140
        clear A140
        replace H := Option.bind_eq_some_iff.mp H
        obtain ⟨t299, A150, H⟩ := H
        replace H : ((spec_RowDo.f k t286 t289 t292 t295 t296 t299).bind fun bt302 => ((laws_toRowRow.f k l0_0 l0_1 l0_2 a0_3).bind fun bt310 => ((laws_toIntS.f k l1).bind fun t321 => ((laws_toIntS.f k l2).bind fun t324 => ((impl_RowDo.f k bt310.1 bt310.2.1 bt310.2.2.1 bt310.2.2.2 t321 t324).bind fun bt327 => ((laws_eqResResult.f k bt327.1 bt327.2.1 bt302.1 bt302.2.1).bind fun t335 => (if t335 = true then ((laws_eqIntS.f k bt327.2.2 bt302.2.2).bind fun t336 => (laws_FnExactRowDo.j0 k l1 l2 bt302.2.2 t321 t324 bt327.2.2 (!t336) l0_0 l0_1 l0_2 a0_3 bt302.1 bt302.2.1 bt310.1 bt310.2.1 bt310.2.2.1 bt310.2.2.2 bt327.1 bt327.2.1)) else (laws_FnExactRowDo.j0 k l1 l2 bt302.2.2 t321 t324 bt327.2.2 true l0_0 l0_1 l0_2 a0_3 bt302.1 bt302.2.1 bt310.1 bt310.2.1 bt310.2.2.1 bt310.2.2.2 bt327.1 bt327.2.1)))))))) = some r := H
        have A15 := Aside0.mk A150
        clear A150
        replace H := Option.bind_eq_some_iff.mp H
        obtain ⟨⟨t302, t303, t306⟩, A160, H⟩ := H
        replace H : ((laws_toRowRow.f k l0_0 l0_1 l0_2 a0_3).bind fun bt310 => ((laws_toIntS.f k l1).bind fun t321 => ((laws_toIntS.f k l2).bind fun t324 => ((impl_RowDo.f k bt310.1 bt310.2.1 bt310.2.2.1 bt310.2.2.2 t321 t324).bind fun bt327 => ((laws_eqResResult.f k bt327.1 bt327.2.1 t302 t303).bind fun t335 => (if t335 = true then ((laws_eqIntS.f k bt327.2.2 t306).bind fun t336 => (laws_FnExactRowDo.j0 k l1 l2 t306 t321 t324 bt327.2.2 (!t336) l0_0 l0_1 l0_2 a0_3 t302 t303 bt310.1 bt310.2.1 bt310.2.2.1 bt310.2.2.2 bt327.1 bt327.2.1)) else (laws_FnExactRowDo.j0 k l1 l2 t306 t321 t324 bt327.2.2 true l0_0 l0_1 l0_2 a0_3 t302 t303 bt310.1 bt310.2.1 bt310.2.2.1 bt310.2.2.2 bt327.1 bt327.2.1))))))) = some r := H
        have A16 := Aside0.mk A160
        clear A160
        replace H := Option.bind_eq_some_iff.mp H
        obtain ⟨⟨t310, t313, t316, t319⟩, A170, H⟩ := H
        replace H : ((laws_toIntS.f k l1).bind fun t321 => ((laws_toIntS.f k l2).bind fun t324 => ((impl_RowDo.f k t310 t313 t316 t319 t321 t324).bind fun bt327 => ((laws_eqResResult.f k bt327.1 bt327.2.1 t302 t303).bind fun t335 => (if t335 = true then ((laws_eqIntS.f k bt327.2.2 t306).bind fun t336 => (laws_FnExactRowDo.j0 k l1 l2 t306 t321 t324 bt327.2.2 (!t336) l0_0 l0_1 l0_2 a0_3 t302 t303 t310 t313 t316 t319 bt327.1 bt327.2.1)) else (laws_FnExactRowDo.j0 k l1 l2 t306 t321 t324 bt327.2.2 true l0_0 l0_1 l0_2 a0_3 t302 t303 t310 t313 t316 t319 bt327.1 bt327.2.1)))))) = some r := H
        have A17 := Aside0.mk A170
        clear A170
        replace H := Option.bind_eq_some_iff.mp H
        obtain ⟨t321, A180, H⟩ := H
        replace H : ((laws_toIntS.f k l2).bind fun t324 => ((impl_RowDo.f k t310 t313 t316 t319 t321 t324).bind fun bt327 => ((laws_eqResResult.f k bt327.1 bt327.2.1 t302 t303).bind fun t335 => (if t335 = true then ((laws_eqIntS.f k bt327.2.2 t306).bind fun t336 => (laws_FnExactRowDo.j0 k l1 l2 t306 t321 t324 bt327.2.2 (!t336) l0_0 l0_1 l0_2 a0_3 t302 t303 t310 t313 t316 t319 bt327.1 bt327.2.1)) else (laws_FnExactRowDo.j0 k l1 l2 t306 t321 t324 bt327.2.2 true l0_0 l0_1 l0_2 a0_3 t302 t303 t310 t313 t316 t319 bt327.1 bt327.2.1))))) = some r := H
        have A18 := Aside0.mk A180
        clear A180
        replace H := Option.bind_eq_some_iff.mp H
        obtain ⟨t324, A190, H⟩ := H
        replace H : ((impl_RowDo.f k t310 t313 t316 t319 t321 t324).bind fun bt327 => ((laws_eqResResult.f k bt327.1 bt327.2.1 t302 t303).bind fun t335 => (if t335 = true then ((laws_eqIntS.f k bt327.2.2 t306).bind fun t336 => (laws_FnExactRowDo.j0 k l1 l2 t306 t321 t324 bt327.2.2 (!t336) l0_0 l0_1 l0_2 a0_3 t302 t303 t310 t313 t316 t319 bt327.1 bt327.2.1)) else (laws_FnExactRowDo.j0 k l1 l2 t306 t321 t324 bt327.2.2 true l0_0 l0_1 l0_2 a0_3 t302 t303 t310 t313 t316 t319 bt327.1 bt327.2.1)))) = some r := H
        have A19 := Aside0.mk A190
        clear A190
        replace H := Option.bind_eq_some_iff.mp H
        obtain ⟨⟨t327, t328, t331⟩, A200, H⟩ := H
        replace H : ((laws_eqResResult.f k t327 t328 t302 t303).bind fun t335 => (if t335 = true then ((laws_eqIntS.f k t331 t306).bind fun t336 => (laws_FnExactRowDo.j0 k l1 l2 t306 t321 t324 t331 (!t336) l0_0 l0_1 l0_2 a0_3 t302 t303 t310 t313 t316 t319 t327 t328)) else (laws_FnExactRowDo.j0 k l1 l2 t306 t321 t324 t331 true l0_0 l0_1 l0_2 a0_3 t302 t303 t310 t313 t316 t319 t327 t328))) = some r := H
        have A20 := Aside0.mk A200
        clear A200
        have HC21 := Aside0.mk H
        clear H
        go_enter Try.func7, Try.ntmps7
        go_upto_region 14 with (first | ((with_reducible refine gate_dst (N := 3) rfl ?_); refine box_event ?hg (N := 3) ?hd (cs := #[.slice A0_0 l0_0.length c0_0, .slice A0_1 l0_1.length c0_1, .slice A0_2 l0_2.length c0_2, .bool a0_3]) (t := 41) ?hr ?_; (case hd => rfl); (case hg => rfl); (case hr => first | (go_simp; done) | (go_simp; rfl)); intro gb284 hg w22 hbox hb; have n0_ := Aside0.mk (below_step (by exact lB HB.out) hb); have n1_ := Aside0.mk (hbox); have n2_ := Aside0.mk ((by rw [hg]; exact (below_size (by exact lB HB.out)) : w.heap.size ≤ gb284)); have n3_ := Aside0.mk ((by rw [hg]; exact (below_size (by exact lB HB.out)) : w.heap.size ≤ gb284)); clear HB; have HB := n0_; have BK284 := n1_; have GW284 := n2_; have GE284 := n3_; clear n0_ n1_ n2_ n3_; clear hb hbox hg; have hcz23_0 : w22.cell? ⟨gb284, 0, none⟩ = some (.slice A0_0 l0_0.length c0_0) := (blk_cell BK284.out 0).trans rfl; have hcz23_1 : w22.cell? ⟨gb284, 1, none⟩ = some (.slice A0_1 l0_1.length c0_1) := (blk_cell BK284.out 1).trans rfl; have hcz23_2 : w22.cell? ⟨gb284, 2, none⟩ = some (.slice A0_2 l0_2.length c0_2) := (blk_cell BK284.out 2).trans rfl; have hcz23_3 : w22.cell? ⟨gb284, 3, none⟩ = some (.bool a0_3) := (blk_cell BK284.out 3).trans rfl; have hfz23_0 := blk_frozen BK284.out 0; have hfz23_1 := blk_frozen BK284.out 1; have hfz23_2 := blk_frozen BK284.out 2; have hfz23_3 := blk_frozen BK284.out 3) | ((with_reducible refine gate_callee (f := 21) rfl ?_); refine goesL_ (some 28) rfl rfl Try.func21 (by kernel_rfl) rfl #[.agg #[.slice A0_0 l0_0.length c0_0, .slice A0_1 l0_1.length c0_1, .slice A0_2 l0_2.length c0_2, .bool a0_3], .int .i64 1048576] rfl (by (try simp only [List.map_toArray, List.map_cons, List.map_nil]); first | done | rfl | (simp only [List.length_drop, List.length_take]; rfl)) ?_; (with_reducible refine (laws_szRowRow.calls k _ _ l0_0 _ _ l0_1 _ _ l0_2 a0_3 1048576 t285 _ ?side1 ?side2 ?side3 ?side4 ?side5 ?side6 A8.out).mono ?_); (case side1 => exact lC <| (Kd.C_below HR0_0.out HB.out)); (case side2 => exact HC0_0.out); (case side3 => exact lC <| (Kd.C_below HR0_1.out HB.out)); (case side4 => exact HC0_1.out); (case side5 => exact lC <| (Kd.C_below HR0_2.out HB.out)); (case side6 => exact HC0_2.out); rintro e w24 ⟨rfl, hb⟩; refine ⟨_, rfl, ?_⟩; have n0_ := Aside0.mk (blk_below (g := gb284) (o := .cells #[.slice A0_0 l0_0.length c0_0, .slice A0_1 l0_1.length c0_1, .slice A0_2 l0_2.length c0_2, .bool a0_3] 41 (0, 0)) (by exact lK BK284.out) hb); have n1_ := Aside0.mk (below_step (by repeat (first | (with_reducible first | exact HB.out | apply below_alloc | apply pw_below_drewN | apply below_drew1 | refine below_set ?_ GE284.out) | exact HB.out)) hb); clear BK284; clear HB; have BK284 := n0_; have HB := n1_; clear n0_ n1_; (try clear hb); (try clear hb2); (try clear hk); (try clear hi); have hcz25_0 : w24.cell? ⟨gb284, 0, none⟩ = some (.slice A0_0 l0_0.length c0_0) := (blk_cell BK284.out 0).trans rfl; have hcz25_1 : w24.cell? ⟨gb284, 1, none⟩ = some (.slice A0_1 l0_1.length c0_1) := (blk_cell BK284.out 1).trans rfl; have hcz25_2 : w24.cell? ⟨gb284, 2, none⟩ = some (.slice A0_2 l0_2.length c0_2) := (blk_cell BK284.out 2).trans rfl; have hcz25_3 : w24.cell? ⟨gb284, 3, none⟩ = some (.bool a0_3) := (blk_cell BK284.out 3).trans rfl; have hfz25_0 := blk_frozen BK284.out 0; have hfz25_1 := blk_frozen BK284.out 1; have hfz25_2 := blk_frozen BK284.out 2; have hfz25_3 := blk_frozen BK284.out 3) | ((with_reducible refine gate_callee (f := 23) rfl ?_); refine goesL_ (some 33) rfl rfl Try.func23 (by kernel_rfl) rfl #[.agg #[.slice A0_0 l0_0.length c0_0, .slice A0_1 l0_1.length c0_1, .slice A0_2 l0_2.length c0_2, .bool a0_3]] rfl (by (try simp only [List.map_toArray, List.map_cons, List.map_nil]); first | done | rfl | (simp only [List.length_drop, List.length_take]; rfl)) ?_; (with_reducible refine (laws_toRowRow.calls k _ _ l0_0 _ _ l0_1 _ _ l0_2 a0_3 t286 t289 t292 t295 _ ?side1 ?side2 ?side3 ?side4 ?side5 ?side6 A13.out).mono ?_); (case side1 => exact lC <| (Kd.C_below HR0_0.out HB.out)); (case side2 => exact HC0_0.out); (case side3 => exact lC <| (Kd.C_below HR0_1.out HB.out)); (case side4 => exact HC0_1.out); (case side5 => exact lC <| (Kd.C_below HR0_2.out HB.out)); (case side6 => exact HC0_2.out); rintro e w26 ⟨v287, v290, v293, rfl, ho0, ho1, ho2, hb⟩; refine ⟨_, rfl, ?_⟩; have n0_ := Aside0.mk (Kd.S_lower ho0 (below_size (by repeat (first | (with_reducible first | exact HB.out | apply below_alloc | apply pw_below_drewN | apply below_drew1 | refine below_set ?_ GE284.out) | exact HB.out)))); have n1_ := Aside0.mk (Kd.S_lower ho1 (below_size (by repeat (first | (with_reducible first | exact HB.out | apply below_alloc | apply pw_below_drewN | apply below_drew1 | refine below_set ?_ GE284.out) | exact HB.out)))); have n2_ := Aside0.mk (Kd.S_lower ho2 (below_size (by repeat (first | (with_reducible first | exact HB.out | apply below_alloc | apply pw_below_drewN | apply below_drew1 | refine below_set ?_ GE284.out) | exact HB.out)))); have n3_ := Aside0.mk (blk_below (g := gb284) (o := .cells #[.slice A0_0 l0_0.length c0_0, .slice A0_1 l0_1.length c0_1, .slice A0_2 l0_2.length c0_2, .bool a0_3] 41 (0, 0)) (by exact lK BK284.out) hb); have n4_ := Aside0.mk (below_step (by repeat (first | (with_reducible first | exact HB.out | apply below_alloc | apply pw_below_drewN | apply below_drew1 | refine below_set ?_ GE284.out) | exact HB.out)) hb); clear BK284; clear HB; have HO288 := n0_; have HO291 := n1_; have HO294 := n2_; have BK284 := n3_; have HB := n4_; clear n0_ n1_ n2_ n3_ n4_; (try clear hb); (try clear hb2); (try clear hk); (try clear hi); (try clear ho0); (try clear ho1); (try clear ho2)) | ((with_reducible refine gate_callee (f := 27) rfl ?_); refine goesL_ (some 35) rfl rfl Try.func27 (by kernel_rfl) rfl #[.slice A1 l1.length c1] rfl (by (try simp only [List.map_toArray, List.map_cons, List.map_nil]); first | done | rfl | (simp only [List.length_drop, List.length_take]; rfl)) ?_; (with_reducible refine (laws_toIntS.calls k _ _ l1 t296 _ ?side1 ?side2 A14.out).mono ?_); (case side1 => exact lC <| (Kd.C_below HR1.out HB.out)); (case side2 => exact HC1.out); rintro e w27 ⟨v297, rfl, ho0, hb⟩; refine ⟨_, rfl, ?_⟩; have n0_ := Aside0.mk (Kd.S_elder' (by exact lS HO288.out) (Kd.R_base ho0) hb); have n1_ := Aside0.mk (Kd.S_elder' (by exact lS HO291.out) (Kd.R_base ho0) hb); have n2_ := Aside0.mk (Kd.S_elder' (by exact lS HO294.out) (Kd.R_base ho0) hb); have n3_ := Aside0.mk (Kd.R_lower ho0 (below_size (by repeat (first | (with_reducible first | exact HB.out | apply below_alloc | apply pw_below_drewN | apply below_drew1 | refine below_set ?_ GE284.out) | exact HB.out)))); have n4_ := Aside0.mk (blk_below (g := gb284) (o := .cells #[.slice A0_0 l0_0.length c0_0, .slice A0_1 l0_1.length c0_1, .slice A0_2 l0_2.length c0_2, .bool a0_3] 41 (0, 0)) (by exact lK BK284.out) hb); have n5_ := Aside0.mk (below_step (by repeat (first | (with_reducible first | exact HB.out | apply below_alloc | apply pw_below_drewN | apply below_drew1 | refine below_set ?_ GE284.out) | exact HB.out)) hb); clear HO288; clear HO291; clear HO294; clear BK284; clear HB; have HO288 := n0_; have HO291 := n1_; have HO294 := n2_; have HO298 := n3_; have BK284 := n4_; have HB := n5_; clear n0_ n1_ n2_ n3_ n4_ n5_; (try clear hb); (try clear hb2); (try clear hk); (try clear hi); (try clear ho0)) | ((with_reducible refine gate_callee (f := 27) rfl ?_); refine goesL_ (some 37) rfl rfl Try.func27 (by kernel_rfl) rfl #[.slice A2 l2.length c2] rfl (by (try simp only [List.map_toArray, List.map_cons, List.map_nil]); first | done | rfl | (simp only [List.length_drop, List.length_take]; rfl)) ?_; (with_reducible refine (laws_toIntS.calls k _ _ l2 t299 _ ?side1 ?side2 A15.out).mono ?_); (case side1 => exact lC <| (Kd.C_below HR2.out HB.out)); (case side2 => exact HC2.out); rintro e w28 ⟨v300, rfl, ho0, hb⟩; refine ⟨_, rfl, ?_⟩; have n0_ := Aside0.mk (Kd.S_elder' (by exact lS HO288.out) (Kd.R_base ho0) hb); have n1_ := Aside0.mk (Kd.S_elder' (by exact lS HO291.out) (Kd.R_base ho0) hb); have n2_ := Aside0.mk (Kd.S_elder' (by exact lS HO294.out) (Kd.R_base ho0) hb); have n3_ := Aside0.mk (Kd.R_elder' (by exact lR HO298.out) (Kd.R_base ho0) hb); have n4_ := Aside0.mk (Kd.R_lower (Kd.R_new' ho0 (Kd.R_lt (by exact lR HO298.out))) (below_size (by repeat (first | (with_reducible first | exact HB.out | apply below_alloc | apply pw_below_drewN | apply below_drew1 | refine below_set ?_ GE284.out) | exact HB.out)))); have n5_ := Aside0.mk (blk_below (g := gb284) (o := .cells #[.slice A0_0 l0_0.length c0_0, .slice A0_1 l0_1.length c0_1, .slice A0_2 l0_2.length c0_2, .bool a0_3] 41 (0, 0)) (by exact lK BK284.out) hb); have n6_ := Aside0.mk (below_step (by repeat (first | (with_reducible first | exact HB.out | apply below_alloc | apply pw_below_drewN | apply below_drew1 | refine below_set ?_ GE284.out) | exact HB.out)) hb); clear HO288; clear HO291; clear HO294; clear HO298; clear BK284; clear HB; have HO288 := n0_; have HO291 := n1_; have HO294 := n2_; have HO298 := n3_; have HO301 := n4_; have BK284 := n5_; have HB := n6_; clear n0_ n1_ n2_ n3_ n4_ n5_ n6_; (try clear hb); (try clear hb2); (try clear hk); (try clear hi); (try clear ho0); obtain ⟨Ao29, co29, eo29⟩ := Kd.S_slice HO288.out; subst eo29; obtain ⟨Ao30, co30, eo30⟩ := Kd.S_slice HO291.out; subst eo30; obtain ⟨Ao31, co31, eo31⟩ := Kd.S_slice HO294.out; subst eo31; obtain ⟨Ao32, co32, eo32⟩ := Kd.R_slice HO298.out; subst eo32; obtain ⟨Ao33, co33, eo33⟩ := Kd.R_slice HO301.out; subst eo33) | ((with_reducible refine gate_callee (f := 30) rfl ?_); refine goesL_ (some 38) rfl rfl Try.func30 (by kernel_rfl) rfl #[.agg #[.slice Ao29 t286.length co29, .slice Ao30 t289.length co30, .slice Ao31 t292.length co31, .bool t295], .slice Ao32 t296.length co32, .slice Ao33 t299.length co33] rfl (by (try simp only [List.map_toArray, List.map_cons, List.map_nil]); first | done | rfl | (simp only [List.length_drop, List.length_take]; rfl)) ?_; (with_reducible refine (spec_RowDo.calls k _ _ t286 _ _ t289 _ _ t292 t295 _ _ t296 _ _ t299 t302 t303 t306 _ ?side1 ?side2 ?side3 ?side4 ?side5 ?side6 ?side7 ?side8 ?side9 ?side10 A16.out).mono ?_); (case side1 => exact lC <| (Kd.S_reads' HO288.out).2.2); (case side2 => exact (Kd.S_reads' HO288.out).2.1); (case side3 => exact lC <| (Kd.S_reads' HO291.out).2.2); (case side4 => exact (Kd.S_reads' HO291.out).2.1); (case side5 => exact lC <| (Kd.S_reads' HO294.out).2.2); (case side6 => exact (Kd.S_reads' HO294.out).2.1); (case side7 => exact lC <| (Kd.R_reads' HO298.out).2.2); (case side8 => exact (Kd.R_reads' HO298.out).2.1); (case side9 => exact lC <| (Kd.R_reads' HO301.out).2.2); (case side10 => exact (Kd.R_reads' HO301.out).2.1); rintro e w34 ⟨v304, v307, rfl, ho0, ho1, hb⟩; refine ⟨_, rfl, ?_⟩; have n0_ := Aside0.mk (Kd.S_mono (Kd.S_told (Kd.S_told (Kd.S_old (by exact lS HO288.out) hb) (Kd.R_base ho0)) (Kd.R_base ho1)) (fun _ h_ => h_.1)); have n1_ := Aside0.mk (Kd.S_mono (Kd.S_told (Kd.S_told (Kd.S_old (by exact lS HO291.out) hb) (Kd.R_base ho0)) (Kd.R_base ho1)) (fun _ h_ => h_.1)); have n2_ := Aside0.mk (Kd.S_mono (Kd.S_told (Kd.S_told (Kd.S_old (by exact lS HO294.out) hb) (Kd.R_base ho0)) (Kd.R_base ho1)) (fun _ h_ => h_.1)); have n3_ := Aside0.mk (Kd.R_mono (Kd.R_told (Kd.R_told (Kd.R_old (by exact lR HO298.out) hb) (Kd.R_base ho0)) (Kd.R_base ho1)) (fun _ h_ => h_.1)); have n4_ := Aside0.mk (Kd.R_mono (Kd.R_told (Kd.R_told (Kd.R_old (by exact lR HO301.out) hb) (Kd.R_base ho0)) (Kd.R_base ho1)) (fun _ h_ => h_.1)); have n5_ := Aside0.mk (Kd.R_lower (Kd.R_new' (Kd.R_new' ho0 (Kd.R_lt (by exact lR HO298.out))) (Kd.R_lt (by exact lR HO301.out))) (below_size (by repeat (first | (with_reducible first | exact HB.out | apply below_alloc | apply pw_below_drewN | apply below_drew1 | refine below_set ?_ GE284.out) | exact HB.out)))); have n6_ := Aside0.mk (Kd.R_lower (Kd.R_new' (Kd.R_new' ho1 (Kd.R_lt (by exact lR HO298.out))) (Kd.R_lt (by exact lR HO301.out))) (below_size (by repeat (first | (with_reducible first | exact HB.out | apply below_alloc | apply pw_below_drewN | apply below_drew1 | refine below_set ?_ GE284.out) | exact HB.out)))); have n7_ := Aside0.mk (blk_below (g := gb284) (o := .cells #[.slice A0_0 l0_0.length c0_0, .slice A0_1 l0_1.length c0_1, .slice A0_2 l0_2.length c0_2, .bool a0_3] 41 (0, 0)) (by exact lK BK284.out) hb); have n8_ := Aside0.mk (below_step (by repeat (first | (with_reducible first | exact HB.out | apply below_alloc | apply pw_below_drewN | apply below_drew1 | refine below_set ?_ GE284.out) | exact HB.out)) hb); clear HO288; clear HO291; clear HO294; clear HO298; clear HO301; clear BK284; clear HB; have HO288 := n0_; have HO291 := n1_; have HO294 := n2_; have HO298 := n3_; have HO301 := n4_; have HO305 := n5_; have HO308 := n6_; have BK284 := n7_; have HB := n8_; clear n0_ n1_ n2_ n3_ n4_ n5_ n6_ n7_ n8_; (try clear hb); (try clear hb2); (try clear hk); (try clear hi); (try clear ho0); (try clear ho1); have n_ := Aside0.mk (Kd.R_mono (ok' := fun k_ => some k_ ≠ (v307 : Value).ownBlock) HO305.out (fun _ hk => hk.1.1)); clear HO305; have HO305 := n_; clear n_; have n_ := Aside0.mk (Kd.R_mono (ok' := fun k_ => some k_ ≠ (v304 : Value).ownBlock) HO308.out (fun _ hk => hk.1.1)); clear HO308; have HO308 := n_; clear n_) | ((with_reducible refine gate_dst (N := 8) rfl ?_); refine box_event ?hg (N := 8) ?hd (cs := #[.int .i64 0, .slice none 0 0]) (t := 54) ?hr ?_; (case hd => rfl); (case hg => rfl); (case hr => first | (go_simp; done) | (go_simp; rfl)); intro gb309 hg w35 hbox hb; have n0_ := Aside0.mk (Kd.R_below (by exact lR HO305.out) hb); have n1_ := Aside0.mk (Kd.R_below (by exact lR HO308.out) hb); have n2_ := Aside0.mk (blk_below (g := gb284) (o := .cells #[.slice A0_0 l0_0.length c0_0, .slice A0_1 l0_1.length c0_1, .slice A0_2 l0_2.length c0_2, .bool a0_3] 41 (0, 0)) (by exact lK BK284.out) hb); have n3_ := Aside0.mk (below_step (by repeat (first | (with_reducible first | exact HB.out | apply below_alloc | apply pw_below_drewN | apply below_drew1 | refine below_set ?_ GE284.out) | exact HB.out)) hb); have n4_ := Aside0.mk (hbox); have n5_ := Aside0.mk ((by rw [hg]; exact (below_size (by repeat (first | (with_reducible first | exact HB.out | apply below_alloc | apply pw_below_drewN | apply below_drew1 | refine below_set ?_ GE284.out) | exact HB.out))) : w.heap.size ≤ gb309)); have n6_ := Aside0.mk ((by rw [hg]; exact (below_size (by repeat (first | (with_reducible first | exact HB.out | apply below_alloc | apply pw_below_drewN | apply below_drew1 | refine below_set ?_ GE284.out) | exact HB.out))) : w.heap.size ≤ gb309)); have n7_ := Aside0.mk ((by rw [hg]; exact Nat.ne_of_lt (blk_lt (g := gb284) (o := .cells #[.slice A0_0 l0_0.length c0_0, .slice A0_1 l0_1.length c0_1, .slice A0_2 l0_2.length c0_2, .bool a0_3] 41 (0, 0)) (by exact lK BK284.out)) : gb284 ≠ gb309)); have n8_ := Aside0.mk ((by rw [hg]; exact Nat.ne_of_gt (blk_lt (g := gb284) (o := .cells #[.slice A0_0 l0_0.length c0_0, .slice A0_1 l0_1.length c0_1, .slice A0_2 l0_2.length c0_2, .bool a0_3] 41 (0, 0)) (by exact lK BK284.out)) : gb309 ≠ gb284)); clear HO305; clear HO308; clear BK284; clear HB; have HO305 := n0_; have HO308 := n1_; have BK284 := n2_; have HB := n3_; have BK309 := n4_; have GW309 := n5_; have GE309 := n6_; have NB284_309 := n7_; have NB309_284 := n8_; clear n0_ n1_ n2_ n3_ n4_ n5_ n6_ n7_ n8_; clear hb hbox hg; have hnb36 := NB309_284.out; have hnc36 := NB284_309.out; have hcz37_0 : w35.cell? ⟨gb309, 0, none⟩ = some (.int .i64 0) := (blk_cell BK309.out 0).trans rfl; have hcz37_1 : w35.cell? ⟨gb309, 1, none⟩ = some (.slice none 0 0) := (blk_cell BK309.out 1).trans rfl; have hfz37_0 := blk_frozen BK309.out 0; have hfz37_1 := blk_frozen BK309.out 1; obtain ⟨Ao38, co38, eo38⟩ := Kd.R_slice HO305.out; subst eo38; have hcz39_0 : w35.cell? ⟨gb284, 0, none⟩ = some (.slice A0_0 l0_0.length c0_0) := (blk_cell BK284.out 0).trans rfl; have hcz39_1 : w35.cell? ⟨gb284, 1, none⟩ = some (.slice A0_1 l0_1.length c0_1) := (blk_cell BK284.out 1).trans rfl; have hcz39_2 : w35.cell? ⟨gb284, 2, none⟩ = some (.slice A0_2 l0_2.length c0_2) := (blk_cell BK284.out 2).trans rfl; have hcz39_3 : w35.cell? ⟨gb284, 3, none⟩ = some (.bool a0_3) := (blk_cell BK284.out 3).trans rfl; have hfz39_0 := blk_frozen BK284.out 0; have hfz39_1 := blk_frozen BK284.out 1; have hfz39_2 := blk_frozen BK284.out 2; have hfz39_3 := blk_frozen BK284.out 3) | ((with_reducible refine gate_callee (f := 23) rfl ?_); refine goesL_ (some 42) rfl rfl Try.func23 (by kernel_rfl) rfl #[.agg #[.slice A0_0 l0_0.length c0_0, .slice A0_1 l0_1.length c0_1, .slice A0_2 l0_2.length c0_2, .bool a0_3]] rfl (by (try simp only [List.map_toArray, List.map_cons, List.map_nil]); first | done | rfl | (simp only [List.length_drop, List.length_take]; rfl)) ?_; (with_reducible refine (laws_toRowRow.calls k _ _ l0_0 _ _ l0_1 _ _ l0_2 a0_3 t310 t313 t316 t319 _ ?side1 ?side2 ?side3 ?side4 ?side5 ?side6 A17.out).mono ?_); (case side1 => exact Kd.C_below HR0_0.out (by repeat (first | (with_reducible first | exact HB.out | apply below_alloc | apply pw_below_drewN | apply below_drew1 | refine below_set ?_ GE284.out | refine below_set ?_ GE309.out) | exact HB.out))); (case side2 => exact HC0_0.out); (case side3 => exact Kd.C_below HR0_1.out (by repeat (first | (with_reducible first | exact HB.out | apply below_alloc | apply pw_below_drewN | apply below_drew1 | refine below_set ?_ GE284.out | refine below_set ?_ GE309.out) | exact HB.out))); (case side4 => exact HC0_1.out); (case side5 => exact Kd.C_below HR0_2.out (by repeat (first | (with_reducible first | exact HB.out | apply below_alloc | apply pw_below_drewN | apply below_drew1 | refine below_set ?_ GE284.out | refine below_set ?_ GE309.out) | exact HB.out))); (case side6 => exact HC0_2.out); rintro e w40 ⟨v311, v314, v317, rfl, ho0, ho1, ho2, hb⟩; refine ⟨_, rfl, ?_⟩; have n0_ := Aside0.mk (Kd.R_below (by exact lR <| (Kd.R_mono (Kd.R_far (p := ⟨gb309, 1, none⟩) (Kd.R_far (p := ⟨gb309, 0, none⟩) (Kd.R_types HO305.out BK309.out (by decide)) (fun _ hk => hk.2) (.int .i64 t302)) (fun _ hk => hk.2) (.slice Ao38 t303.length co38)) (fun _ h_ => h_.1))) hb); have n1_ := Aside0.mk (Kd.R_below (by exact lR <| (Kd.R_mono (Kd.R_far (p := ⟨gb309, 1, none⟩) (Kd.R_far (p := ⟨gb309, 0, none⟩) (Kd.R_types HO308.out BK309.out (by decide)) (fun _ hk => hk.2) (.int .i64 t302)) (fun _ hk => hk.2) (.slice Ao38 t303.length co38)) (fun _ h_ => h_.1))) hb); have n2_ := Aside0.mk (Kd.S_lower (Kd.S_new' (Kd.S_new' ho0 (Kd.R_lt (by exact lR <| (Kd.R_mono (Kd.R_far (p := ⟨gb309, 1, none⟩) (Kd.R_far (p := ⟨gb309, 0, none⟩) (Kd.R_types HO305.out BK309.out (by decide)) (fun _ hk => hk.2) (.int .i64 t302)) (fun _ hk => hk.2) (.slice Ao38 t303.length co38)) (fun _ h_ => h_.1))))) (Kd.R_lt (by exact lR <| (Kd.R_mono (Kd.R_far (p := ⟨gb309, 1, none⟩) (Kd.R_far (p := ⟨gb309, 0, none⟩) (Kd.R_types HO308.out BK309.out (by decide)) (fun _ hk => hk.2) (.int .i64 t302)) (fun _ hk => hk.2) (.slice Ao38 t303.length co38)) (fun _ h_ => h_.1))))) (below_size (by repeat (first | (with_reducible first | exact HB.out | apply below_alloc | apply pw_below_drewN | apply below_drew1 | refine below_set ?_ GE284.out | refine below_set ?_ GE309.out) | exact HB.out)))); have n3_ := Aside0.mk (Kd.S_lower (Kd.S_new' (Kd.S_new' ho1 (Kd.R_lt (by exact lR <| (Kd.R_mono (Kd.R_far (p := ⟨gb309, 1, none⟩) (Kd.R_far (p := ⟨gb309, 0, none⟩) (Kd.R_types HO305.out BK309.out (by decide)) (fun _ hk => hk.2) (.int .i64 t302)) (fun _ hk => hk.2) (.slice Ao38 t303.length co38)) (fun _ h_ => h_.1))))) (Kd.R_lt (by exact lR <| (Kd.R_mono (Kd.R_far (p := ⟨gb309, 1, none⟩) (Kd.R_far (p := ⟨gb309, 0, none⟩) (Kd.R_types HO308.out BK309.out (by decide)) (fun _ hk => hk.2) (.int .i64 t302)) (fun _ hk => hk.2) (.slice Ao38 t303.length co38)) (fun _ h_ => h_.1))))) (below_size (by repeat (first | (with_reducible first | exact HB.out | apply below_alloc | apply pw_below_drewN | apply below_drew1 | refine below_set ?_ GE284.out | refine below_set ?_ GE309.out) | exact HB.out)))); have n4_ := Aside0.mk (Kd.S_lower (Kd.S_new' (Kd.S_new' ho2 (Kd.R_lt (by exact lR <| (Kd.R_mono (Kd.R_far (p := ⟨gb309, 1, none⟩) (Kd.R_far (p := ⟨gb309, 0, none⟩) (Kd.R_types HO305.out BK309.out (by decide)) (fun _ hk => hk.2) (.int .i64 t302)) (fun _ hk => hk.2) (.slice Ao38 t303.length co38)) (fun _ h_ => h_.1))))) (Kd.R_lt (by exact lR <| (Kd.R_mono (Kd.R_far (p := ⟨gb309, 1, none⟩) (Kd.R_far (p := ⟨gb309, 0, none⟩) (Kd.R_types HO308.out BK309.out (by decide)) (fun _ hk => hk.2) (.int .i64 t302)) (fun _ hk => hk.2) (.slice Ao38 t303.length co38)) (fun _ h_ => h_.1))))) (below_size (by repeat (first | (with_reducible first | exact HB.out | apply below_alloc | apply pw_below_drewN | apply below_drew1 | refine below_set ?_ GE284.out | refine below_set ?_ GE309.out) | exact HB.out)))); have n5_ := Aside0.mk (blk_below (g := gb284) (o := .cells #[.slice A0_0 l0_0.length c0_0, .slice A0_1 l0_1.length c0_1, .slice A0_2 l0_2.length c0_2, .bool a0_3] 41 (0, 0)) (by (with_reducible repeat (first | refine blk_drewN ?_ _ | refine blk_drew ?_ | refine blk_alloc ?_ _)); refine blk_far ?_ NB284_309.out _; (with_reducible repeat (first | refine blk_drewN ?_ _ | refine blk_drew ?_ | refine blk_alloc ?_ _)); refine blk_far ?_ NB284_309.out _; exact lK BK284.out) hb); have n6_ := Aside0.mk (blk_below (g := gb309) (o := .cells #[.int .i64 t302, .slice Ao38 t303.length co38] 54 (0, 0)) (by (with_reducible repeat (first | refine blk_drewN ?_ _ | refine blk_drew ?_ | refine blk_alloc ?_ _)); refine blk_put (cs := #[.int .i64 t302, .slice none 0 0]) ?_ 1 _ rfl; (with_reducible repeat (first | refine blk_drewN ?_ _ | refine blk_drew ?_ | refine blk_alloc ?_ _)); refine blk_put (cs := #[.int .i64 0, .slice none 0 0]) ?_ 0 _ rfl; exact lK BK309.out) hb); have n7_ := Aside0.mk (below_step (by repeat (first | (with_reducible first | exact HB.out | apply below_alloc | apply pw_below_drewN | apply below_drew1 | refine below_set ?_ GE284.out | refine below_set ?_ GE309.out) | exact HB.out)) hb); clear HO305; clear HO308; clear BK284; clear BK309; clear HB; have HO305 := n0_; have HO308 := n1_; have HO312 := n2_; have HO315 := n3_; have HO318 := n4_; have BK284 := n5_; have BK309 := n6_; have HB := n7_; clear n0_ n1_ n2_ n3_ n4_ n5_ n6_ n7_; (try clear hb); (try clear hb2); (try clear hk); (try clear hi); (try clear ho0); (try clear ho1); (try clear ho2)) | ((with_reducible refine gate_dst (N := 10) rfl ?_); refine box_event ?hg (N := 10) ?hd (cs := #[.slice none 0 0, .slice none 0 0, .slice none 0 0, .bool false]) (t := 45) ?hr ?_; (case hd => rfl); (case hg => rfl); (case hr => first | (go_simp; done) | (go_simp; rfl)); intro gb320 hg w41 hbox hb; have n0_ := Aside0.mk (Kd.R_below (by exact lR HO305.out) hb); have n1_ := Aside0.mk (Kd.R_below (by exact lR HO308.out) hb); have n2_ := Aside0.mk (Kd.S_below (by exact lS HO312.out) hb); have n3_ := Aside0.mk (Kd.S_below (by exact lS HO315.out) hb); have n4_ := Aside0.mk (Kd.S_below (by exact lS HO318.out) hb); have n5_ := Aside0.mk (blk_below (g := gb284) (o := .cells #[.slice A0_0 l0_0.length c0_0, .slice A0_1 l0_1.length c0_1, .slice A0_2 l0_2.length c0_2, .bool a0_3] 41 (0, 0)) (by exact lK BK284.out) hb); have n6_ := Aside0.mk (blk_below (g := gb309) (o := .cells #[.int .i64 t302, .slice Ao38 t303.length co38] 54 (0, 0)) (by exact lK BK309.out) hb); have n7_ := Aside0.mk (below_step (by repeat (first | (with_reducible first | exact HB.out | apply below_alloc | apply pw_below_drewN | apply below_drew1 | refine below_set ?_ GE284.out | refine below_set ?_ GE309.out) | exact HB.out)) hb); have n8_ := Aside0.mk (hbox); have n9_ := Aside0.mk ((by rw [hg]; exact (below_size (by repeat (first | (with_reducible first | exact HB.out | apply below_alloc | apply pw_below_drewN | apply below_drew1 | refine below_set ?_ GE284.out | refine below_set ?_ GE309.out) | exact HB.out))) : w.heap.size ≤ gb320)); have n10_ := Aside0.mk ((by rw [hg]; exact (below_size (by repeat (first | (with_reducible first | exact HB.out | apply below_alloc | apply pw_below_drewN | apply below_drew1 | refine below_set ?_ GE284.out | refine below_set ?_ GE309.out) | exact HB.out))) : w.heap.size ≤ gb320)); have n11_ := Aside0.mk ((by rw [hg]; exact Nat.ne_of_lt (blk_lt (g := gb284) (o := .cells #[.slice A0_0 l0_0.length c0_0, .slice A0_1 l0_1.length c0_1, .slice A0_2 l0_2.length c0_2, .bool a0_3] 41 (0, 0)) (by exact lK BK284.out)) : gb284 ≠ gb320)); have n12_ := Aside0.mk ((by rw [hg]; exact Nat.ne_of_gt (blk_lt (g := gb284) (o := .cells #[.slice A0_0 l0_0.length c0_0, .slice A0_1 l0_1.length c0_1, .slice A0_2 l0_2.length c0_2, .bool a0_3] 41 (0, 0)) (by exact lK BK284.out)) : gb320 ≠ gb284)); have n13_ := Aside0.mk ((by rw [hg]; exact Nat.ne_of_lt (blk_lt (g := gb309) (o := .cells #[.int .i64 t302, .slice Ao38 t303.length co38] 54 (0, 0)) (by exact lK BK309.out)) : gb309 ≠ gb320)); have n14_ := Aside0.mk ((by rw [hg]; exact Nat.ne_of_gt (blk_lt (g := gb309) (o := .cells #[.int .i64 t302, .slice Ao38 t303.length co38] 54 (0, 0)) (by exact lK BK309.out)) : gb320 ≠ gb309)); clear HO305; clear HO308; clear HO312; clear HO315; clear HO318; clear BK284; clear BK309; clear HB; have HO305 := n0_; have HO308 := n1_; have HO312 := n2_; have HO315 := n3_; have HO318 := n4_; have BK284 := n5_; have BK309 := n6_; have HB := n7_; have BK320 := n8_; have GW320 := n9_; have GE320 := n10_; have NB284_320 := n11_; have NB320_284 := n12_; have NB309_320 := n13_; have NB320_309 := n14_; clear n0_ n1_ n2_ n3_ n4_ n5_ n6_ n7_ n8_ n9_ n10_ n11_ n12_ n13_ n14_; clear hb hbox hg; obtain ⟨Ao42, co42, eo42⟩ := Kd.S_slice HO312.out; subst eo42; have hnb43 := NB320_284.out; have hnc43 := NB284_320.out; have hnb44 := NB320_309.out; have hnc44 := NB309_320.out; have hcz45_0 : w41.cell? ⟨gb320, 0, none⟩ = some (.slice none 0 0) := (blk_cell BK320.out 0).trans rfl; have hcz45_1 : w41.cell? ⟨gb320, 1, none⟩ = some (.slice none 0 0) := (blk_cell BK320.out 1).trans rfl; have hcz45_2 : w41.cell? ⟨gb320, 2, none⟩ = some (.slice none 0 0) := (blk_cell BK320.out 2).trans rfl; have hcz45_3 : w41.cell? ⟨gb320, 3, none⟩ = some (.bool false) := (blk_cell BK320.out 3).trans rfl; have hfz45_0 := blk_frozen BK320.out 0; have hfz45_1 := blk_frozen BK320.out 1; have hfz45_2 := blk_frozen BK320.out 2; have hfz45_3 := blk_frozen BK320.out 3; obtain ⟨Ao46, co46, eo46⟩ := Kd.S_slice HO315.out; subst eo46; obtain ⟨Ao47, co47, eo47⟩ := Kd.S_slice HO318.out; subst eo47) | ((with_reducible refine gate_callee (f := 27) rfl ?_); refine goesL_ (some 44) rfl rfl Try.func27 (by kernel_rfl) rfl #[.slice A1 l1.length c1] rfl (by (try simp only [List.map_toArray, List.map_cons, List.map_nil]); first | done | rfl | (simp only [List.length_drop, List.length_take]; rfl)) ?_; (with_reducible refine (laws_toIntS.calls k _ _ l1 t321 _ ?side1 ?side2 A18.out).mono ?_); (case side1 => exact Kd.C_below HR1.out (by repeat (first | (with_reducible first | exact HB.out | apply below_alloc | apply pw_below_drewN | apply below_drew1 | refine below_set ?_ (by first | exact GE284.out | exact GE309.out | exact GE320.out)) | exact HB.out))); (case side2 => exact HC1.out); rintro e w48 ⟨v322, rfl, ho0, hb⟩; refine ⟨_, rfl, ?_⟩; have n0_ := Aside0.mk (Kd.R_elder' (by exact lR <| (Kd.R_mono (Kd.R_far (p := ⟨gb320, 3, none⟩) (Kd.R_far (p := ⟨gb320, 2, none⟩) (Kd.R_far (p := ⟨gb320, 1, none⟩) (Kd.R_far (p := ⟨gb320, 0, none⟩) (Kd.R_types HO305.out BK320.out (by decide)) (fun _ hk => hk.2) (.slice Ao42 t310.length co42)) (fun _ hk => hk.2) (.slice Ao46 t313.length co46)) (fun _ hk => hk.2) (.slice Ao47 t316.length co47)) (fun _ hk => hk.2) (.bool t319)) (fun _ h_ => h_.1))) (Kd.R_base ho0) hb); have n1_ := Aside0.mk (Kd.R_elder' (by exact lR <| (Kd.R_mono (Kd.R_far (p := ⟨gb320, 3, none⟩) (Kd.R_far (p := ⟨gb320, 2, none⟩) (Kd.R_far (p := ⟨gb320, 1, none⟩) (Kd.R_far (p := ⟨gb320, 0, none⟩) (Kd.R_types HO308.out BK320.out (by decide)) (fun _ hk => hk.2) (.slice Ao42 t310.length co42)) (fun _ hk => hk.2) (.slice Ao46 t313.length co46)) (fun _ hk => hk.2) (.slice Ao47 t316.length co47)) (fun _ hk => hk.2) (.bool t319)) (fun _ h_ => h_.1))) (Kd.R_base ho0) hb); have n2_ := Aside0.mk (Kd.S_elder' (by exact lS <| (Kd.S_mono (Kd.S_far (p := ⟨gb320, 3, none⟩) (Kd.S_far (p := ⟨gb320, 2, none⟩) (Kd.S_far (p := ⟨gb320, 1, none⟩) (Kd.S_far (p := ⟨gb320, 0, none⟩) (Kd.S_types HO312.out BK320.out (by decide)) (fun _ hk => hk.2) (.slice Ao42 t310.length co42)) (fun _ hk => hk.2) (.slice Ao46 t313.length co46)) (fun _ hk => hk.2) (.slice Ao47 t316.length co47)) (fun _ hk => hk.2) (.bool t319)) (fun _ h_ => h_.1))) (Kd.R_base ho0) hb); have n3_ := Aside0.mk (Kd.S_elder' (by exact lS <| (Kd.S_mono (Kd.S_far (p := ⟨gb320, 3, none⟩) (Kd.S_far (p := ⟨gb320, 2, none⟩) (Kd.S_far (p := ⟨gb320, 1, none⟩) (Kd.S_far (p := ⟨gb320, 0, none⟩) (Kd.S_types HO315.out BK320.out (by decide)) (fun _ hk => hk.2) (.slice Ao42 t310.length co42)) (fun _ hk => hk.2) (.slice Ao46 t313.length co46)) (fun _ hk => hk.2) (.slice Ao47 t316.length co47)) (fun _ hk => hk.2) (.bool t319)) (fun _ h_ => h_.1))) (Kd.R_base ho0) hb); have n4_ := Aside0.mk (Kd.S_elder' (by exact lS <| (Kd.S_mono (Kd.S_far (p := ⟨gb320, 3, none⟩) (Kd.S_far (p := ⟨gb320, 2, none⟩) (Kd.S_far (p := ⟨gb320, 1, none⟩) (Kd.S_far (p := ⟨gb320, 0, none⟩) (Kd.S_types HO318.out BK320.out (by decide)) (fun _ hk => hk.2) (.slice Ao42 t310.length co42)) (fun _ hk => hk.2) (.slice Ao46 t313.length co46)) (fun _ hk => hk.2) (.slice Ao47 t316.length co47)) (fun _ hk => hk.2) (.bool t319)) (fun _ h_ => h_.1))) (Kd.R_base ho0) hb); have n5_ := Aside0.mk (Kd.R_lower (Kd.R_new' (Kd.R_new' ho0 (Kd.R_lt (by exact lR <| (Kd.R_mono (Kd.R_far (p := ⟨gb320, 3, none⟩) (Kd.R_far (p := ⟨gb320, 2, none⟩) (Kd.R_far (p := ⟨gb320, 1, none⟩) (Kd.R_far (p := ⟨gb320, 0, none⟩) (Kd.R_types HO305.out BK320.out (by decide)) (fun _ hk => hk.2) (.slice Ao42 t310.length co42)) (fun _ hk => hk.2) (.slice Ao46 t313.length co46)) (fun _ hk => hk.2) (.slice Ao47 t316.length co47)) (fun _ hk => hk.2) (.bool t319)) (fun _ h_ => h_.1))))) (Kd.R_lt (by exact lR <| (Kd.R_mono (Kd.R_far (p := ⟨gb320, 3, none⟩) (Kd.R_far (p := ⟨gb320, 2, none⟩) (Kd.R_far (p := ⟨gb320, 1, none⟩) (Kd.R_far (p := ⟨gb320, 0, none⟩) (Kd.R_types HO308.out BK320.out (by decide)) (fun _ hk => hk.2) (.slice Ao42 t310.length co42)) (fun _ hk => hk.2) (.slice Ao46 t313.length co46)) (fun _ hk => hk.2) (.slice Ao47 t316.length co47)) (fun _ hk => hk.2) (.bool t319)) (fun _ h_ => h_.1))))) (below_size (by repeat (first | (with_reducible first | exact HB.out | apply below_alloc | apply pw_below_drewN | apply below_drew1 | refine below_set ?_ (by first | exact GE284.out | exact GE309.out | exact GE320.out)) | exact HB.out)))); have n6_ := Aside0.mk (blk_below (g := gb284) (o := .cells #[.slice A0_0 l0_0.length c0_0, .slice A0_1 l0_1.length c0_1, .slice A0_2 l0_2.length c0_2, .bool a0_3] 41 (0, 0)) (by (with_reducible repeat (first | refine blk_drewN ?_ _ | refine blk_drew ?_ | refine blk_alloc ?_ _)); refine blk_far ?_ NB284_320.out _; (with_reducible repeat (first | refine blk_drewN ?_ _ | refine blk_drew ?_ | refine blk_alloc ?_ _)); refine blk_far ?_ NB284_320.out _; (with_reducible repeat (first | refine blk_drewN ?_ _ | refine blk_drew ?_ | refine blk_alloc ?_ _)); refine blk_far ?_ NB284_320.out _; (with_reducible repeat (first | refine blk_drewN ?_ _ | refine blk_drew ?_ | refine blk_alloc ?_ _)); refine blk_far ?_ NB284_320.out _; exact lK BK284.out) hb); have n7_ := Aside0.mk (blk_below (g := gb309) (o := .cells #[.int .i64 t302, .slice Ao38 t303.length co38] 54 (0, 0)) (by (with_reducible repeat (first | refine blk_drewN ?_ _ | refine blk_drew ?_ | refine blk_alloc ?_ _)); refine blk_far ?_ NB309_320.out _; (with_reducible repeat (first | refine blk_drewN ?_ _ | refine blk_drew ?_ | refine blk_alloc ?_ _)); refine blk_far ?_ NB309_320.out _; (with_reducible repeat (first | refine blk_drewN ?_ _ | refine blk_drew ?_ | refine blk_alloc ?_ _)); refine blk_far ?_ NB309_320.out _; (with_reducible repeat (first | refine blk_drewN ?_ _ | refine blk_drew ?_ | refine blk_alloc ?_ _)); refine blk_far ?_ NB309_320.out _; exact lK BK309.out) hb); have n8_ := Aside0.mk (blk_below (g := gb320) (o := .cells #[.slice Ao42 t310.length co42, .slice Ao46 t313.length co46, .slice Ao47 t316.length co47, .bool t319] 45 (0, 0)) (by (with_reducible repeat (first | refine blk_drewN ?_ _ | refine blk_drew ?_ | refine blk_alloc ?_ _)); refine blk_put (cs := #[.slice Ao42 t310.length co42, .slice Ao46 t313.length co46, .slice Ao47 t316.length co47, .bool false]) ?_ 3 _ rfl; (with_reducible repeat (first | refine blk_drewN ?_ _ | refine blk_drew ?_ | refine blk_alloc ?_ _)); refine blk_put (cs := #[.slice Ao42 t310.length co42, .slice Ao46 t313.length co46, .slice none 0 0, .bool false]) ?_ 2 _ rfl; (with_reducible repeat (first | refine blk_drewN ?_ _ | refine blk_drew ?_ | refine blk_alloc ?_ _)); refine blk_put (cs := #[.slice Ao42 t310.length co42, .slice none 0 0, .slice none 0 0, .bool false]) ?_ 1 _ rfl; (with_reducible repeat (first | refine blk_drewN ?_ _ | refine blk_drew ?_ | refine blk_alloc ?_ _)); refine blk_put (cs := #[.slice none 0 0, .slice none 0 0, .slice none 0 0, .bool false]) ?_ 0 _ rfl; exact lK BK320.out) hb); have n9_ := Aside0.mk (below_step (by repeat (first | (with_reducible first | exact HB.out | apply below_alloc | apply pw_below_drewN | apply below_drew1 | refine below_set ?_ (by first | exact GE284.out | exact GE309.out | exact GE320.out)) | exact HB.out)) hb); clear HO305; clear HO308; clear HO312; clear HO315; clear HO318; clear BK284; clear BK309; clear BK320; clear HB; have HO305 := n0_; have HO308 := n1_; have HO312 := n2_; have HO315 := n3_; have HO318 := n4_; have HO323 := n5_; have BK284 := n6_; have BK309 := n7_; have BK320 := n8_; have HB := n9_; clear n0_ n1_ n2_ n3_ n4_ n5_ n6_ n7_ n8_ n9_; (try clear hb); (try clear hb2); (try clear hk); (try clear hi); (try clear ho0)) | ((with_reducible refine gate_callee (f := 27) rfl ?_); refine goesL_ (some 46) rfl rfl Try.func27 (by kernel_rfl) rfl #[.slice A2 l2.length c2] rfl (by (try simp only [List.map_toArray, List.map_cons, List.map_nil]); first | done | rfl | (simp only [List.length_drop, List.length_take]; rfl)) ?_; (with_reducible refine (laws_toIntS.calls k _ _ l2 t324 _ ?side1 ?side2 A19.out).mono ?_); (case side1 => exact lC <| (Kd.C_below HR2.out HB.out)); (case side2 => exact HC2.out); rintro e w49 ⟨v325, rfl, ho0, hb⟩; refine ⟨_, rfl, ?_⟩; have n0_ := Aside0.mk (Kd.R_elder' (by exact lR HO305.out) (Kd.R_base ho0) hb); have n1_ := Aside0.mk (Kd.R_elder' (by exact lR HO308.out) (Kd.R_base ho0) hb); have n2_ := Aside0.mk (Kd.S_elder' (by exact lS HO312.out) (Kd.R_base ho0) hb); have n3_ := Aside0.mk (Kd.S_elder' (by exact lS HO315.out) (Kd.R_base ho0) hb); have n4_ := Aside0.mk (Kd.S_elder' (by exact lS HO318.out) (Kd.R_base ho0) hb); have n5_ := Aside0.mk (Kd.R_elder' (by exact lR HO323.out) (Kd.R_base ho0) hb); have n6_ := Aside0.mk (Kd.R_lower (Kd.R_new' (Kd.R_new' (Kd.R_new' ho0 (Kd.R_lt (by exact lR HO305.out))) (Kd.R_lt (by exact lR HO308.out))) (Kd.R_lt (by exact lR HO323.out))) (below_size (by repeat (first | (with_reducible first | exact HB.out | apply below_alloc | apply pw_below_drewN | apply below_drew1 | refine below_set ?_ (by first | exact GE284.out | exact GE309.out | exact GE320.out)) | exact HB.out)))); have n7_ := Aside0.mk (blk_below (g := gb284) (o := .cells #[.slice A0_0 l0_0.length c0_0, .slice A0_1 l0_1.length c0_1, .slice A0_2 l0_2.length c0_2, .bool a0_3] 41 (0, 0)) (by exact lK BK284.out) hb); have n8_ := Aside0.mk (blk_below (g := gb309) (o := .cells #[.int .i64 t302, .slice Ao38 t303.length co38] 54 (0, 0)) (by exact lK BK309.out) hb); have n9_ := Aside0.mk (blk_below (g := gb320) (o := .cells #[.slice Ao42 t310.length co42, .slice Ao46 t313.length co46, .slice Ao47 t316.length co47, .bool t319] 45 (0, 0)) (by exact lK BK320.out) hb); have n10_ := Aside0.mk (below_step (by repeat (first | (with_reducible first | exact HB.out | apply below_alloc | apply pw_below_drewN | apply below_drew1 | refine below_set ?_ (by first | exact GE284.out | exact GE309.out | exact GE320.out)) | exact HB.out)) hb); clear HO305; clear HO308; clear HO312; clear HO315; clear HO318; clear HO323; clear BK284; clear BK309; clear BK320; clear HB; have HO305 := n0_; have HO308 := n1_; have HO312 := n2_; have HO315 := n3_; have HO318 := n4_; have HO323 := n5_; have HO326 := n6_; have BK284 := n7_; have BK309 := n8_; have BK320 := n9_; have HB := n10_; clear n0_ n1_ n2_ n3_ n4_ n5_ n6_ n7_ n8_ n9_ n10_; (try clear hb); (try clear hb2); (try clear hk); (try clear hi); (try clear ho0); have hcz50_0 : w49.cell? ⟨gb320, 0, none⟩ = some (.slice Ao42 t310.length co42) := (blk_cell BK320.out 0).trans rfl; have hcz50_1 : w49.cell? ⟨gb320, 1, none⟩ = some (.slice Ao46 t313.length co46) := (blk_cell BK320.out 1).trans rfl; have hcz50_2 : w49.cell? ⟨gb320, 2, none⟩ = some (.slice Ao47 t316.length co47) := (blk_cell BK320.out 2).trans rfl; have hcz50_3 : w49.cell? ⟨gb320, 3, none⟩ = some (.bool t319) := (blk_cell BK320.out 3).trans rfl; have hfz50_0 := blk_frozen BK320.out 0; have hfz50_1 := blk_frozen BK320.out 1; have hfz50_2 := blk_frozen BK320.out 2; have hfz50_3 := blk_frozen BK320.out 3; obtain ⟨Ao51, co51, eo51⟩ := Kd.R_slice HO323.out; subst eo51; obtain ⟨Ao52, co52, eo52⟩ := Kd.R_slice HO326.out; subst eo52) | ((with_reducible refine gate_callee (f := 31) rfl ?_); refine goesL_ (some 51) rfl rfl Try.func31 (by kernel_rfl) rfl #[.agg #[.slice Ao42 t310.length co42, .slice Ao46 t313.length co46, .slice Ao47 t316.length co47, .bool t319], .slice Ao51 t321.length co51, .slice Ao52 t324.length co52] rfl (by (try simp only [List.map_toArray, List.map_cons, List.map_nil]); first | done | rfl | (simp only [List.length_drop, List.length_take]; rfl)) ?_; (with_reducible refine (impl_RowDo.calls k _ _ t310 _ _ t313 _ _ t316 t319 _ _ t321 _ _ t324 t327 t328 t331 _ ?side1 ?side2 ?side3 ?side4 ?side5 ?side6 ?side7 ?side8 ?side9 ?side10 A20.out).mono ?_); (case side1 => exact lC <| (Kd.S_reads' HO312.out).2.2); (case side2 => exact (Kd.S_reads' HO312.out).2.1); (case side3 => exact lC <| (Kd.S_reads' HO315.out).2.2); (case side4 => exact (Kd.S_reads' HO315.out).2.1); (case side5 => exact lC <| (Kd.S_reads' HO318.out).2.2); (case side6 => exact (Kd.S_reads' HO318.out).2.1); (case side7 => exact lC <| (Kd.R_reads' HO323.out).2.2); (case side8 => exact (Kd.R_reads' HO323.out).2.1); (case side9 => exact lC <| (Kd.R_reads' HO326.out).2.2); (case side10 => exact (Kd.R_reads' HO326.out).2.1); rintro e w53 ⟨v329, v332, rfl, ho0, ho1, hb⟩; refine ⟨_, rfl, ?_⟩; have n0_ := Aside0.mk (Kd.R_mono (Kd.R_told (Kd.R_told (Kd.R_old (by exact lR HO305.out) hb) (Kd.R_base ho0)) (Kd.R_base ho1)) (fun _ h_ => h_.1)); have n1_ := Aside0.mk (Kd.R_mono (Kd.R_told (Kd.R_told (Kd.R_old (by exact lR HO308.out) hb) (Kd.R_base ho0)) (Kd.R_base ho1)) (fun _ h_ => h_.1)); have n2_ := Aside0.mk (Kd.S_mono (Kd.S_told (Kd.S_told (Kd.S_old (by exact lS HO312.out) hb) (Kd.R_base ho0)) (Kd.R_base ho1)) (fun _ h_ => h_.1)); have n3_ := Aside0.mk (Kd.S_mono (Kd.S_told (Kd.S_told (Kd.S_old (by exact lS HO315.out) hb) (Kd.R_base ho0)) (Kd.R_base ho1)) (fun _ h_ => h_.1)); have n4_ := Aside0.mk (Kd.S_mono (Kd.S_told (Kd.S_told (Kd.S_old (by exact lS HO318.out) hb) (Kd.R_base ho0)) (Kd.R_base ho1)) (fun _ h_ => h_.1)); have n5_ := Aside0.mk (Kd.R_mono (Kd.R_told (Kd.R_told (Kd.R_old (by exact lR HO323.out) hb) (Kd.R_base ho0)) (Kd.R_base ho1)) (fun _ h_ => h_.1)); have n6_ := Aside0.mk (Kd.R_mono (Kd.R_told (Kd.R_told (Kd.R_old (by exact lR HO326.out) hb) (Kd.R_base ho0)) (Kd.R_base ho1)) (fun _ h_ => h_.1)); have n7_ := Aside0.mk (Kd.R_lower (Kd.R_new' (Kd.R_new' (Kd.R_new' (Kd.R_new' ho0 (Kd.R_lt (by exact lR HO305.out))) (Kd.R_lt (by exact lR HO308.out))) (Kd.R_lt (by exact lR HO323.out))) (Kd.R_lt (by exact lR HO326.out))) (below_size (by repeat (first | (with_reducible first | exact HB.out | apply below_alloc | apply pw_below_drewN | apply below_drew1 | refine below_set ?_ (by first | exact GE284.out | exact GE309.out | exact GE320.out)) | exact HB.out)))); have n8_ := Aside0.mk (Kd.R_lower (Kd.R_new' (Kd.R_new' (Kd.R_new' (Kd.R_new' ho1 (Kd.R_lt (by exact lR HO305.out))) (Kd.R_lt (by exact lR HO308.out))) (Kd.R_lt (by exact lR HO323.out))) (Kd.R_lt (by exact lR HO326.out))) (below_size (by repeat (first | (with_reducible first | exact HB.out | apply below_alloc | apply pw_below_drewN | apply below_drew1 | refine below_set ?_ (by first | exact GE284.out | exact GE309.out | exact GE320.out)) | exact HB.out)))); have n9_ := Aside0.mk (blk_below (g := gb284) (o := .cells #[.slice A0_0 l0_0.length c0_0, .slice A0_1 l0_1.length c0_1, .slice A0_2 l0_2.length c0_2, .bool a0_3] 41 (0, 0)) (by exact lK BK284.out) hb); have n10_ := Aside0.mk (blk_below (g := gb309) (o := .cells #[.int .i64 t302, .slice Ao38 t303.length co38] 54 (0, 0)) (by exact lK BK309.out) hb); have n11_ := Aside0.mk (blk_below (g := gb320) (o := .cells #[.slice Ao42 t310.length co42, .slice Ao46 t313.length co46, .slice Ao47 t316.length co47, .bool t319] 45 (0, 0)) (by exact lK BK320.out) hb); have n12_ := Aside0.mk (below_step (by repeat (first | (with_reducible first | exact HB.out | apply below_alloc | apply pw_below_drewN | apply below_drew1 | refine below_set ?_ (by first | exact GE284.out | exact GE309.out | exact GE320.out)) | exact HB.out)) hb); clear HO305; clear HO308; clear HO312; clear HO315; clear HO318; clear HO323; clear HO326; clear BK284; clear BK309; clear BK320; clear HB; have HO305 := n0_; have HO308 := n1_; have HO312 := n2_; have HO315 := n3_; have HO318 := n4_; have HO323 := n5_; have HO326 := n6_; have HO330 := n7_; have HO333 := n8_; have BK284 := n9_; have BK309 := n10_; have BK320 := n11_; have HB := n12_; clear n0_ n1_ n2_ n3_ n4_ n5_ n6_ n7_ n8_ n9_ n10_ n11_ n12_; (try clear hb); (try clear hb2); (try clear hk); (try clear hi); (try clear ho0); (try clear ho1)) | ((with_reducible refine gate_dst (N := 13) rfl ?_); refine box_event ?hg (N := 13) ?hd (cs := #[.int .i64 0, .slice none 0 0]) (t := 54) ?hr ?_; (case hd => rfl); (case hg => rfl); (case hr => first | (go_simp; done) | (go_simp; rfl)); intro gb334 hg w54 hbox hb; have n0_ := Aside0.mk (Kd.R_below (by exact lR HO305.out) hb); have n1_ := Aside0.mk (Kd.R_below (by exact lR HO308.out) hb); have n2_ := Aside0.mk (Kd.S_below (by exact lS HO312.out) hb); have n3_ := Aside0.mk (Kd.S_below (by exact lS HO315.out) hb); have n4_ := Aside0.mk (Kd.S_below (by exact lS HO318.out) hb); have n5_ := Aside0.mk (Kd.R_below (by exact lR HO323.out) hb); have n6_ := Aside0.mk (Kd.R_below (by exact lR HO326.out) hb); have n7_ := Aside0.mk (Kd.R_below (by exact lR HO330.out) hb); have n8_ := Aside0.mk (Kd.R_below (by exact lR HO333.out) hb); have n9_ := Aside0.mk (blk_below (g := gb284) (o := .cells #[.slice A0_0 l0_0.length c0_0, .slice A0_1 l0_1.length c0_1, .slice A0_2 l0_2.length c0_2, .bool a0_3] 41 (0, 0)) (by exact lK BK284.out) hb); have n10_ := Aside0.mk (blk_below (g := gb309) (o := .cells #[.int .i64 t302, .slice Ao38 t303.length co38] 54 (0, 0)) (by exact lK BK309.out) hb); have n11_ := Aside0.mk (blk_below (g := gb320) (o := .cells #[.slice Ao42 t310.length co42, .slice Ao46 t313.length co46, .slice Ao47 t316.length co47, .bool t319] 45 (0, 0)) (by exact lK BK320.out) hb); have n12_ := Aside0.mk (below_step (by repeat (first | (with_reducible first | exact HB.out | apply below_alloc | apply pw_below_drewN | apply below_drew1 | refine below_set ?_ (by first | exact GE284.out | exact GE309.out | exact GE320.out)) | exact HB.out)) hb); have n13_ := Aside0.mk (hbox); have n14_ := Aside0.mk ((by rw [hg]; exact (below_size (by repeat (first | (with_reducible first | exact HB.out | apply below_alloc | apply pw_below_drewN | apply below_drew1 | refine below_set ?_ (by first | exact GE284.out | exact GE309.out | exact GE320.out)) | exact HB.out))) : w.heap.size ≤ gb334)); have n15_ := Aside0.mk ((by rw [hg]; exact (below_size (by repeat (first | (with_reducible first | exact HB.out | apply below_alloc | apply pw_below_drewN | apply below_drew1 | refine below_set ?_ (by first | exact GE284.out | exact GE309.out | exact GE320.out)) | exact HB.out))) : w.heap.size ≤ gb334)); have n16_ := Aside0.mk ((by rw [hg]; exact Nat.ne_of_lt (blk_lt (g := gb284) (o := .cells #[.slice A0_0 l0_0.length c0_0, .slice A0_1 l0_1.length c0_1, .slice A0_2 l0_2.length c0_2, .bool a0_3] 41 (0, 0)) (by exact lK BK284.out)) : gb284 ≠ gb334)); have n17_ := Aside0.mk ((by rw [hg]; exact Nat.ne_of_gt (blk_lt (g := gb284) (o := .cells #[.slice A0_0 l0_0.length c0_0, .slice A0_1 l0_1.length c0_1, .slice A0_2 l0_2.length c0_2, .bool a0_3] 41 (0, 0)) (by exact lK BK284.out)) : gb334 ≠ gb284)); have n18_ := Aside0.mk ((by rw [hg]; exact Nat.ne_of_lt (blk_lt (g := gb309) (o := .cells #[.int .i64 t302, .slice Ao38 t303.length co38] 54 (0, 0)) (by exact lK BK309.out)) : gb309 ≠ gb334)); have n19_ := Aside0.mk ((by rw [hg]; exact Nat.ne_of_gt (blk_lt (g := gb309) (o := .cells #[.int .i64 t302, .slice Ao38 t303.length co38] 54 (0, 0)) (by exact lK BK309.out)) : gb334 ≠ gb309)); have n20_ := Aside0.mk ((by rw [hg]; exact Nat.ne_of_lt (blk_lt (g := gb320) (o := .cells #[.slice Ao42 t310.length co42, .slice Ao46 t313.length co46, .slice Ao47 t316.length co47, .bool t319] 45 (0, 0)) (by exact lK BK320.out)) : gb320 ≠ gb334)); have n21_ := Aside0.mk ((by rw [hg]; exact Nat.ne_of_gt (blk_lt (g := gb320) (o := .cells #[.slice Ao42 t310.length co42, .slice Ao46 t313.length co46, .slice Ao47 t316.length co47, .bool t319] 45 (0, 0)) (by exact lK BK320.out)) : gb334 ≠ gb320)); clear HO305; clear HO308; clear HO312; clear HO315; clear HO318; clear HO323; clear HO326; clear HO330; clear HO333; clear BK284; clear BK309; clear BK320; clear HB; have HO305 := n0_; have HO308 := n1_; have HO312 := n2_; have HO315 := n3_; have HO318 := n4_; have HO323 := n5_; have HO326 := n6_; have HO330 := n7_; have HO333 := n8_; have BK284 := n9_; have BK309 := n10_; have BK320 := n11_; have HB := n12_; have BK334 := n13_; have GW334 := n14_; have GE334 := n15_; have NB284_334 := n16_; have NB334_284 := n17_; have NB309_334 := n18_; have NB334_309 := n19_; have NB320_334 := n20_; have NB334_320 := n21_; clear n0_ n1_ n2_ n3_ n4_ n5_ n6_ n7_ n8_ n9_ n10_ n11_ n12_ n13_ n14_ n15_ n16_ n17_ n18_ n19_ n20_ n21_; clear hb hbox hg; have hnb55 := NB334_284.out; have hnc55 := NB284_334.out; have hnb56 := NB334_309.out; have hnc56 := NB309_334.out; have hnb57 := NB334_320.out; have hnc57 := NB320_334.out; have hcz58_0 : w54.cell? ⟨gb334, 0, none⟩ = some (.int .i64 0) := (blk_cell BK334.out 0).trans rfl; have hcz58_1 : w54.cell? ⟨gb334, 1, none⟩ = some (.slice none 0 0) := (blk_cell BK334.out 1).trans rfl; have hfz58_0 := blk_frozen BK334.out 0; have hfz58_1 := blk_frozen BK334.out 1; obtain ⟨Ao59, co59, eo59⟩ := Kd.R_slice HO330.out; subst eo59))
        (try simp only [Act.put, List.setIfInBounds_toArray, List.set_cons_zero, List.set_cons_succ])
        go_cut [63] (fun v63 wc => ∃ (kq : Nat) (x63_20 : Bool), v63 = .bool x63_20 ∧ Aside0 (laws_FnExactRowDo.j0 kq l1 l2 t306 t321 t324 t331 x63_20 l0_0 l0_1 l0_2 a0_3 t302 t303 t310 t313 t316 t319 t327 t328 = some r) ∧ Aside0 (kq ≤ k) ∧ Aside0 (Kd.R (Kd.int .i64) 3 wc w.heap.size (fun k_ => some k_ ≠ ((.slice Ao51 t321.length co51) : Value).ownBlock ∧ some k_ ≠ ((.slice Ao52 t324.length co52) : Value).ownBlock ∧ some k_ ≠ (v332 : Value).ownBlock ∧ some k_ ≠ ((.slice Ao38 t303.length co38) : Value).ownBlock ∧ some k_ ≠ ((.slice Ao59 t328.length co59) : Value).ownBlock) v307 t306) ∧ Aside0 (Kd.R (Kd.int .i64) 3 wc w.heap.size (fun k_ => some k_ ≠ (v307 : Value).ownBlock ∧ some k_ ≠ ((.slice Ao52 t324.length co52) : Value).ownBlock ∧ some k_ ≠ (v332 : Value).ownBlock ∧ some k_ ≠ ((.slice Ao38 t303.length co38) : Value).ownBlock ∧ some k_ ≠ ((.slice Ao59 t328.length co59) : Value).ownBlock) (.slice Ao51 t321.length co51) t321) ∧ Aside0 (Kd.R (Kd.int .i64) 3 wc w.heap.size (fun k_ => some k_ ≠ (v307 : Value).ownBlock ∧ some k_ ≠ ((.slice Ao51 t321.length co51) : Value).ownBlock ∧ some k_ ≠ (v332 : Value).ownBlock ∧ some k_ ≠ ((.slice Ao38 t303.length co38) : Value).ownBlock ∧ some k_ ≠ ((.slice Ao59 t328.length co59) : Value).ownBlock) (.slice Ao52 t324.length co52) t324) ∧ Aside0 (Kd.R (Kd.int .i64) 3 wc w.heap.size (fun k_ => some k_ ≠ (v307 : Value).ownBlock ∧ some k_ ≠ ((.slice Ao51 t321.length co51) : Value).ownBlock ∧ some k_ ≠ ((.slice Ao52 t324.length co52) : Value).ownBlock ∧ some k_ ≠ ((.slice Ao38 t303.length co38) : Value).ownBlock ∧ some k_ ≠ ((.slice Ao59 t328.length co59) : Value).ownBlock) v332 t331) ∧ Aside0 (Kd.R (Kd.int .i64) 3 wc w.heap.size (fun k_ => some k_ ≠ (v307 : Value).ownBlock ∧ some k_ ≠ ((.slice Ao51 t321.length co51) : Value).ownBlock ∧ some k_ ≠ ((.slice Ao52 t324.length co52) : Value).ownBlock ∧ some k_ ≠ (v332 : Value).ownBlock ∧ some k_ ≠ ((.slice Ao59 t328.length co59) : Value).ownBlock) (.slice Ao38 t303.length co38) t303) ∧ Aside0 (Kd.S k26 26 wc w.heap.size (fun k_ => some k_ ≠ (v307 : Value).ownBlock ∧ some k_ ≠ ((.slice Ao51 t321.length co51) : Value).ownBlock ∧ some k_ ≠ ((.slice Ao52 t324.length co52) : Value).ownBlock ∧ some k_ ≠ (v332 : Value).ownBlock ∧ some k_ ≠ ((.slice Ao38 t303.length co38) : Value).ownBlock ∧ some k_ ≠ ((.slice Ao46 t313.length co46) : Value).ownBlock ∧ some k_ ≠ ((.slice Ao47 t316.length co47) : Value).ownBlock ∧ some k_ ≠ ((.slice Ao59 t328.length co59) : Value).ownBlock) (.slice Ao42 t310.length co42) t310) ∧ Aside0 (Kd.S k26 26 wc w.heap.size (fun k_ => some k_ ≠ (v307 : Value).ownBlock ∧ some k_ ≠ ((.slice Ao51 t321.length co51) : Value).ownBlock ∧ some k_ ≠ ((.slice Ao52 t324.length co52) : Value).ownBlock ∧ some k_ ≠ (v332 : Value).ownBlock ∧ some k_ ≠ ((.slice Ao38 t303.length co38) : Value).ownBlock ∧ some k_ ≠ ((.slice Ao42 t310.length co42) : Value).ownBlock ∧ some k_ ≠ ((.slice Ao47 t316.length co47) : Value).ownBlock ∧ some k_ ≠ ((.slice Ao59 t328.length co59) : Value).ownBlock) (.slice Ao46 t313.length co46) t313) ∧ Aside0 (Kd.S k26 26 wc w.heap.size (fun k_ => some k_ ≠ (v307 : Value).ownBlock ∧ some k_ ≠ ((.slice Ao51 t321.length co51) : Value).ownBlock ∧ some k_ ≠ ((.slice Ao52 t324.length co52) : Value).ownBlock ∧ some k_ ≠ (v332 : Value).ownBlock ∧ some k_ ≠ ((.slice Ao38 t303.length co38) : Value).ownBlock ∧ some k_ ≠ ((.slice Ao42 t310.length co42) : Value).ownBlock ∧ some k_ ≠ ((.slice Ao46 t313.length co46) : Value).ownBlock ∧ some k_ ≠ ((.slice Ao59 t328.length co59) : Value).ownBlock) (.slice Ao47 t316.length co47) t316) ∧ Aside0 (Kd.R (Kd.int .i64) 3 wc w.heap.size (fun k_ => some k_ ≠ (v307 : Value).ownBlock ∧ some k_ ≠ ((.slice Ao51 t321.length co51) : Value).ownBlock ∧ some k_ ≠ ((.slice Ao52 t324.length co52) : Value).ownBlock ∧ some k_ ≠ (v332 : Value).ownBlock ∧ some k_ ≠ ((.slice Ao38 t303.length co38) : Value).ownBlock) (.slice Ao59 t328.length co59) t328) ∧ Aside0 (wc.heap[gb284]? = some (.cells #[(.slice A0_0 l0_0.length c0_0), (.slice A0_1 l0_1.length c0_1), (.slice A0_2 l0_2.length c0_2), .bool a0_3] 41 (0, 0))) ∧ Aside0 (wc.heap[gb309]? = some (.cells #[.int .i64 t302, (.slice Ao38 t303.length co38)] 54 (0, 0))) ∧ Aside0 (wc.heap[gb320]? = some (.cells #[(.slice Ao42 t310.length co42), (.slice Ao46 t313.length co46), (.slice Ao47 t316.length co47), .bool t319] 45 (0, 0))) ∧ Aside0 (wc.heap[gb334]? = some (.cells #[.int .i64 t327, (.slice Ao59 t328.length co59)] 54 (0, 0))) ∧ Aside0 (Below w.heap.size w wc))
        case first =>
          have H := HC21.out
          clear HC21
          replace H := Option.bind_eq_some_iff.mp H
          obtain ⟨t335, A600, H⟩ := H
          replace H : (if t335 = true then ((laws_eqIntS.f k t331 t306).bind fun t336 => (laws_FnExactRowDo.j0 k l1 l2 t306 t321 t324 t331 (!t336) l0_0 l0_1 l0_2 a0_3 t302 t303 t310 t313 t316 t319 t327 t328)) else (laws_FnExactRowDo.j0 k l1 l2 t306 t321 t324 t331 true l0_0 l0_1 l0_2 a0_3 t302 t303 t310 t313 t316 t319 t327 t328)) = some r := H
          have A60 := Aside0.mk A600
          clear A600
          by_cases c61 : t335 = true
          · subst c61
            have H1 : ((laws_eqIntS.f k t331 t306).bind fun t336 => (laws_FnExactRowDo.j0 k l1 l2 t306 t321 t324 t331 (!t336) l0_0 l0_1 l0_2 a0_3 t302 t303 t310 t313 t316 t319 t327 t328)) = some r := by rw [if_pos rfl] at H; exact H
            clear H
            have H := H1
            clear H1
            replace H := Option.bind_eq_some_iff.mp H
            obtain ⟨t336, A620, H⟩ := H
            replace H : (laws_FnExactRowDo.j0 k l1 l2 t306 t321 t324 t331 (!t336) l0_0 l0_1 l0_2 a0_3 t302 t303 t310 t313 t316 t319 t327 t328) = some r := H
            have A62 := Aside0.mk A620
            clear A620
            have H' := Aside0.mk H
            clear H
            have hnb63 := NB334_284.out
            have hnc63 := NB284_334.out
            have hnb64 := NB334_309.out
            have hnc64 := NB309_334.out
            have hnb65 := NB334_320.out
            have hnc65 := NB320_334.out
            have hcz66_0 : w54.cell? ⟨gb334, 0, none⟩ = some (.int .i64 0) := (blk_cell BK334.out 0).trans rfl
            have hcz66_1 : w54.cell? ⟨gb334, 1, none⟩ = some (.slice none 0 0) := (blk_cell BK334.out 1).trans rfl
            have hfz66_0 := blk_frozen BK334.out 0
            have hfz66_1 := blk_frozen BK334.out 1
            have hnb67 := NB309_284.out
            have hnc67 := NB284_309.out
            have hnb68 := NB309_320.out
            have hnc68 := NB320_309.out
            have hcz69_0 : w54.cell? ⟨gb309, 0, none⟩ = some (.int .i64 t302) := (blk_cell BK309.out 0).trans rfl
            have hcz69_1 : w54.cell? ⟨gb309, 1, none⟩ = some (.slice Ao38 t303.length co38) := (blk_cell BK309.out 1).trans rfl
            have hfz69_0 := blk_frozen BK309.out 0
            have hfz69_1 := blk_frozen BK309.out 1
            go_wp2_with (first | ((with_reducible refine gate_callee (f := 32) rfl ?_); refine goesL_ (some 56) rfl rfl Try.func32 (by kernel_rfl) rfl #[.agg #[.int .i64 t327, .slice Ao59 t328.length co59], .agg #[.int .i64 t302, .slice Ao38 t303.length co38]] rfl (by (try simp only [List.map_toArray, List.map_cons, List.map_nil]); first | done | rfl | (simp only [List.length_drop, List.length_take]; rfl)) ?_; (with_reducible refine (laws_eqResResult.calls k t327 _ _ t328 t302 _ _ t303 true _ ?side1 ?side2 ?side3 ?side4 A60.out).mono ?_); (case side1 => refine (Kd.R_reads' (e := 3) (base := w.heap.size) (ok := fun k_ => ((((some k_ ≠ (v332 : Value).ownBlock ∧ some k_ ≠ (.slice Ao38 t303.length co38 : Value).ownBlock) ∧ some k_ ≠ (v307 : Value).ownBlock) ∧ some k_ ≠ (.slice Ao51 t321.length co51 : Value).ownBlock) ∧ some k_ ≠ (.slice Ao52 t324.length co52 : Value).ownBlock)) (n := t328.length) (c := co59) ?_).2.2; exact (by exact lR <| (Kd.R_mono (Kd.R_far (p := ⟨gb334, 1, none⟩) (Kd.R_far (p := ⟨gb334, 0, none⟩) (Kd.R_types HO330.out BK334.out (by decide)) (fun _ hk => hk.2) (.int .i64 t327)) (fun _ hk => hk.2) (.slice Ao59 t328.length co59)) (fun _ h_ => h_.1)))); (case side2 => exact (Kd.R_reads' HO330.out).2.1); (case side3 => refine (Kd.R_reads' (e := 3) (base := w.heap.size) (ok := fun k_ => ((((some k_ ≠ (v307 : Value).ownBlock ∧ some k_ ≠ (.slice Ao51 t321.length co51 : Value).ownBlock) ∧ some k_ ≠ (.slice Ao52 t324.length co52 : Value).ownBlock) ∧ some k_ ≠ (.slice Ao59 t328.length co59 : Value).ownBlock) ∧ some k_ ≠ (v332 : Value).ownBlock)) (n := t303.length) (c := co38) ?_).2.2; exact (by exact lR <| (Kd.R_mono (Kd.R_far (p := ⟨gb334, 1, none⟩) (Kd.R_far (p := ⟨gb334, 0, none⟩) (Kd.R_types HO305.out BK334.out (by decide)) (fun _ hk => hk.2) (.int .i64 t327)) (fun _ hk => hk.2) (.slice Ao59 t328.length co59)) (fun _ h_ => h_.1)))); (case side4 => exact (Kd.R_reads' HO305.out).2.1); rintro e w70 ⟨rfl, hb⟩; refine ⟨_, rfl, ?_⟩; have n0_ := Aside0.mk (Kd.R_below (by exact lR <| (Kd.R_mono (Kd.R_far (p := ⟨gb334, 1, none⟩) (Kd.R_far (p := ⟨gb334, 0, none⟩) (Kd.R_types HO305.out BK334.out (by decide)) (fun _ hk => hk.2) (.int .i64 t327)) (fun _ hk => hk.2) (.slice Ao59 t328.length co59)) (fun _ h_ => h_.1))) hb); have n1_ := Aside0.mk (Kd.R_below (by exact lR <| (Kd.R_mono (Kd.R_far (p := ⟨gb334, 1, none⟩) (Kd.R_far (p := ⟨gb334, 0, none⟩) (Kd.R_types HO308.out BK334.out (by decide)) (fun _ hk => hk.2) (.int .i64 t327)) (fun _ hk => hk.2) (.slice Ao59 t328.length co59)) (fun _ h_ => h_.1))) hb); have n2_ := Aside0.mk (Kd.S_below (by exact lS <| (Kd.S_mono (Kd.S_far (p := ⟨gb334, 1, none⟩) (Kd.S_far (p := ⟨gb334, 0, none⟩) (Kd.S_types HO312.out BK334.out (by decide)) (fun _ hk => hk.2) (.int .i64 t327)) (fun _ hk => hk.2) (.slice Ao59 t328.length co59)) (fun _ h_ => h_.1))) hb); have n3_ := Aside0.mk (Kd.S_below (by exact lS <| (Kd.S_mono (Kd.S_far (p := ⟨gb334, 1, none⟩) (Kd.S_far (p := ⟨gb334, 0, none⟩) (Kd.S_types HO315.out BK334.out (by decide)) (fun _ hk => hk.2) (.int .i64 t327)) (fun _ hk => hk.2) (.slice Ao59 t328.length co59)) (fun _ h_ => h_.1))) hb); have n4_ := Aside0.mk (Kd.S_below (by exact lS <| (Kd.S_mono (Kd.S_far (p := ⟨gb334, 1, none⟩) (Kd.S_far (p := ⟨gb334, 0, none⟩) (Kd.S_types HO318.out BK334.out (by decide)) (fun _ hk => hk.2) (.int .i64 t327)) (fun _ hk => hk.2) (.slice Ao59 t328.length co59)) (fun _ h_ => h_.1))) hb); have n5_ := Aside0.mk (Kd.R_below (by exact lR <| (Kd.R_mono (Kd.R_far (p := ⟨gb334, 1, none⟩) (Kd.R_far (p := ⟨gb334, 0, none⟩) (Kd.R_types HO323.out BK334.out (by decide)) (fun _ hk => hk.2) (.int .i64 t327)) (fun _ hk => hk.2) (.slice Ao59 t328.length co59)) (fun _ h_ => h_.1))) hb); have n6_ := Aside0.mk (Kd.R_below (by exact lR <| (Kd.R_mono (Kd.R_far (p := ⟨gb334, 1, none⟩) (Kd.R_far (p := ⟨gb334, 0, none⟩) (Kd.R_types HO326.out BK334.out (by decide)) (fun _ hk => hk.2) (.int .i64 t327)) (fun _ hk => hk.2) (.slice Ao59 t328.length co59)) (fun _ h_ => h_.1))) hb); have n7_ := Aside0.mk (Kd.R_below (by exact lR <| (Kd.R_mono (Kd.R_far (p := ⟨gb334, 1, none⟩) (Kd.R_far (p := ⟨gb334, 0, none⟩) (Kd.R_types HO330.out BK334.out (by decide)) (fun _ hk => hk.2) (.int .i64 t327)) (fun _ hk => hk.2) (.slice Ao59 t328.length co59)) (fun _ h_ => h_.1))) hb); have n8_ := Aside0.mk (Kd.R_below (by exact lR <| (Kd.R_mono (Kd.R_far (p := ⟨gb334, 1, none⟩) (Kd.R_far (p := ⟨gb334, 0, none⟩) (Kd.R_types HO333.out BK334.out (by decide)) (fun _ hk => hk.2) (.int .i64 t327)) (fun _ hk => hk.2) (.slice Ao59 t328.length co59)) (fun _ h_ => h_.1))) hb); have n9_ := Aside0.mk (blk_below (g := gb284) (o := .cells #[.slice A0_0 l0_0.length c0_0, .slice A0_1 l0_1.length c0_1, .slice A0_2 l0_2.length c0_2, .bool a0_3] 41 (0, 0)) (by (with_reducible repeat (first | refine blk_drewN ?_ _ | refine blk_drew ?_ | refine blk_alloc ?_ _)); refine blk_far ?_ NB284_334.out _; (with_reducible repeat (first | refine blk_drewN ?_ _ | refine blk_drew ?_ | refine blk_alloc ?_ _)); refine blk_far ?_ NB284_334.out _; exact lK BK284.out) hb); have n10_ := Aside0.mk (blk_below (g := gb309) (o := .cells #[.int .i64 t302, .slice Ao38 t303.length co38] 54 (0, 0)) (by (with_reducible repeat (first | refine blk_drewN ?_ _ | refine blk_drew ?_ | refine blk_alloc ?_ _)); refine blk_far ?_ NB309_334.out _; (with_reducible repeat (first | refine blk_drewN ?_ _ | refine blk_drew ?_ | refine blk_alloc ?_ _)); refine blk_far ?_ NB309_334.out _; exact lK BK309.out) hb); have n11_ := Aside0.mk (blk_below (g := gb320) (o := .cells #[.slice Ao42 t310.length co42, .slice Ao46 t313.length co46, .slice Ao47 t316.length co47, .bool t319] 45 (0, 0)) (by (with_reducible repeat (first | refine blk_drewN ?_ _ | refine blk_drew ?_ | refine blk_alloc ?_ _)); refine blk_far ?_ NB320_334.out _; (with_reducible repeat (first | refine blk_drewN ?_ _ | refine blk_drew ?_ | refine blk_alloc ?_ _)); refine blk_far ?_ NB320_334.out _; exact lK BK320.out) hb); have n12_ := Aside0.mk (blk_below (g := gb334) (o := .cells #[.int .i64 t327, .slice Ao59 t328.length co59] 54 (0, 0)) (by (with_reducible repeat (first | refine blk_drewN ?_ _ | refine blk_drew ?_ | refine blk_alloc ?_ _)); refine blk_put (cs := #[.int .i64 t327, .slice none 0 0]) ?_ 1 _ rfl; (with_reducible repeat (first | refine blk_drewN ?_ _ | refine blk_drew ?_ | refine blk_alloc ?_ _)); refine blk_put (cs := #[.int .i64 0, .slice none 0 0]) ?_ 0 _ rfl; exact lK BK334.out) hb); have n13_ := Aside0.mk (below_step (by repeat (first | (with_reducible first | exact HB.out | apply below_alloc | apply pw_below_drewN | apply below_drew1 | refine below_set ?_ (by first | exact GE284.out | exact GE309.out | exact GE320.out | exact GE334.out)) | exact HB.out)) hb); clear HO305; clear HO308; clear HO312; clear HO315; clear HO318; clear HO323; clear HO326; clear HO330; clear HO333; clear BK284; clear BK309; clear BK320; clear BK334; clear HB; have HO305 := n0_; have HO308 := n1_; have HO312 := n2_; have HO315 := n3_; have HO318 := n4_; have HO323 := n5_; have HO326 := n6_; have HO330 := n7_; have HO333 := n8_; have BK284 := n9_; have BK309 := n10_; have BK320 := n11_; have BK334 := n12_; have HB := n13_; clear n0_ n1_ n2_ n3_ n4_ n5_ n6_ n7_ n8_ n9_ n10_ n11_ n12_ n13_; (try clear hb); (try clear hb2); (try clear hk); (try clear hi); obtain ⟨Ao71, co71, eo71⟩ := Kd.R_slice HO333.out; subst eo71; obtain ⟨Ao72, co72, eo72⟩ := Kd.R_slice HO308.out; subst eo72) | (go_at_call 29; (with_reducible refine (laws_eqIntS.calls k _ _ t331 _ _ t306 t336 _ ?side1 ?side2 ?side3 ?side4 A62.out).mono ?_); (case side1 => exact lC <| (Kd.R_reads' HO333.out).2.2); (case side2 => exact (Kd.R_reads' HO333.out).2.1); (case side3 => exact lC <| (Kd.R_reads' HO308.out).2.2); (case side4 => exact (Kd.R_reads' HO308.out).2.1); rintro e w' ⟨rfl, ⟨nd, rfl⟩⟩))
            go_meet
            case rel => exact ⟨_, (!t336), (by first | rfl | (simp; done) | (simp [*]; done)), H', ⟨by first | omega | exact Nat.le_refl _⟩, ⟨by exact lR <| Kd.R_mono HO308.out (fun _ hk => ⟨hk.1.1.1.2, ⟨hk.1.1.2, ⟨hk.2, ⟨hk.1.1.1.1, hk.1.2⟩⟩⟩⟩)⟩, ⟨by exact lR <| Kd.R_mono HO323.out (fun _ hk => ⟨hk.1.1.1.2, ⟨hk.1.1.2, ⟨hk.2, ⟨hk.1.1.1.1.2, hk.1.2⟩⟩⟩⟩)⟩, ⟨by exact lR <| Kd.R_mono HO326.out (fun _ hk => ⟨hk.1.1.1.2, ⟨hk.1.1.2, ⟨hk.2, ⟨hk.1.1.1.1.2, hk.1.2⟩⟩⟩⟩)⟩, ⟨by exact lR <| Kd.R_mono HO333.out (fun _ hk => ⟨hk.1.1.2, ⟨hk.1.2, ⟨hk.2, ⟨hk.1.1.1.2, hk.1.1.1.1⟩⟩⟩⟩)⟩, ⟨by exact lR <| Kd.R_mono HO305.out (fun _ hk => ⟨hk.1.1.1.1, ⟨hk.1.1.1.2, ⟨hk.1.1.2, ⟨hk.2, hk.1.2⟩⟩⟩⟩)⟩, ⟨by exact lS <| Kd.S_mono HO312.out (fun _ hk => ⟨hk.1.1.1.1.2, ⟨hk.1.1.1.2, ⟨hk.1.1.2, ⟨hk.2, ⟨hk.1.1.1.1.1.2, ⟨hk.1.1.1.1.1.1.1, ⟨hk.1.1.1.1.1.1.2, hk.1.2⟩⟩⟩⟩⟩⟩⟩)⟩, ⟨by exact lS <| Kd.S_mono HO315.out (fun _ hk => ⟨hk.1.1.1.1.2, ⟨hk.1.1.1.2, ⟨hk.1.1.2, ⟨hk.2, ⟨hk.1.1.1.1.1.2, ⟨hk.1.1.1.1.1.1.1, ⟨hk.1.1.1.1.1.1.2, hk.1.2⟩⟩⟩⟩⟩⟩⟩)⟩, ⟨by exact lS <| Kd.S_mono HO318.out (fun _ hk => ⟨hk.1.1.1.1.2, ⟨hk.1.1.1.2, ⟨hk.1.1.2, ⟨hk.2, ⟨hk.1.1.1.1.1.2, ⟨hk.1.1.1.1.1.1.1, ⟨hk.1.1.1.1.1.1.2, hk.1.2⟩⟩⟩⟩⟩⟩⟩)⟩, ⟨by exact lR <| Kd.R_mono HO330.out (fun _ hk => ⟨hk.1.1.2, ⟨hk.1.2, ⟨hk.2, ⟨hk.1.1.1.1, hk.1.1.1.2⟩⟩⟩⟩)⟩, ⟨by exact lK <| BK284.out⟩, ⟨by exact lK <| BK309.out⟩, ⟨by exact lK <| BK320.out⟩, ⟨by exact lK <| BK334.out⟩, ⟨by repeat (first | (with_reducible first | exact HB.out | apply below_alloc | apply pw_below_drewN | apply below_drew1 | refine below_set ?_ (by first | exact GE284.out | exact GE309.out | exact GE320.out | exact GE334.out)) | exact HB.out)⟩⟩
          · replace c61 := Bool.eq_false_iff.mpr c61
            subst c61
            have H1 : (laws_FnExactRowDo.j0 k l1 l2 t306 t321 t324 t331 true l0_0 l0_1 l0_2 a0_3 t302 t303 t310 t313 t316 t319 t327 t328) = some r := by rw [if_neg (show ¬ (false = true) by decide)] at H; exact H
            clear H
            have H := H1
            clear H1
            have H' := Aside0.mk H
            clear H
            have hnb73 := NB334_284.out
            have hnc73 := NB284_334.out
            have hnb74 := NB334_309.out
            have hnc74 := NB309_334.out
            have hnb75 := NB334_320.out
            have hnc75 := NB320_334.out
            have hcz76_0 : w54.cell? ⟨gb334, 0, none⟩ = some (.int .i64 0) := (blk_cell BK334.out 0).trans rfl
            have hcz76_1 : w54.cell? ⟨gb334, 1, none⟩ = some (.slice none 0 0) := (blk_cell BK334.out 1).trans rfl
            have hfz76_0 := blk_frozen BK334.out 0
            have hfz76_1 := blk_frozen BK334.out 1
            have hnb77 := NB309_284.out
            have hnc77 := NB284_309.out
            have hnb78 := NB309_320.out
            have hnc78 := NB320_309.out
            have hcz79_0 : w54.cell? ⟨gb309, 0, none⟩ = some (.int .i64 t302) := (blk_cell BK309.out 0).trans rfl
            have hcz79_1 : w54.cell? ⟨gb309, 1, none⟩ = some (.slice Ao38 t303.length co38) := (blk_cell BK309.out 1).trans rfl
            have hfz79_0 := blk_frozen BK309.out 0
            have hfz79_1 := blk_frozen BK309.out 1
            go_wp2_with (first | ((with_reducible refine gate_callee (f := 32) rfl ?_); refine goesL_ (some 56) rfl rfl Try.func32 (by kernel_rfl) rfl #[.agg #[.int .i64 t327, .slice Ao59 t328.length co59], .agg #[.int .i64 t302, .slice Ao38 t303.length co38]] rfl (by (try simp only [List.map_toArray, List.map_cons, List.map_nil]); first | done | rfl | (simp only [List.length_drop, List.length_take]; rfl)) ?_; (with_reducible refine (laws_eqResResult.calls k t327 _ _ t328 t302 _ _ t303 false _ ?side1 ?side2 ?side3 ?side4 A60.out).mono ?_); (case side1 => refine (Kd.R_reads' (e := 3) (base := w.heap.size) (ok := fun k_ => ((((some k_ ≠ (v332 : Value).ownBlock ∧ some k_ ≠ (.slice Ao38 t303.length co38 : Value).ownBlock) ∧ some k_ ≠ (v307 : Value).ownBlock) ∧ some k_ ≠ (.slice Ao51 t321.length co51 : Value).ownBlock) ∧ some k_ ≠ (.slice Ao52 t324.length co52 : Value).ownBlock)) (n := t328.length) (c := co59) ?_).2.2; exact (by exact lR <| (Kd.R_mono (Kd.R_far (p := ⟨gb334, 1, none⟩) (Kd.R_far (p := ⟨gb334, 0, none⟩) (Kd.R_types HO330.out BK334.out (by decide)) (fun _ hk => hk.2) (.int .i64 t327)) (fun _ hk => hk.2) (.slice Ao59 t328.length co59)) (fun _ h_ => h_.1)))); (case side2 => exact (Kd.R_reads' HO330.out).2.1); (case side3 => refine (Kd.R_reads' (e := 3) (base := w.heap.size) (ok := fun k_ => ((((some k_ ≠ (v307 : Value).ownBlock ∧ some k_ ≠ (.slice Ao51 t321.length co51 : Value).ownBlock) ∧ some k_ ≠ (.slice Ao52 t324.length co52 : Value).ownBlock) ∧ some k_ ≠ (.slice Ao59 t328.length co59 : Value).ownBlock) ∧ some k_ ≠ (v332 : Value).ownBlock)) (n := t303.length) (c := co38) ?_).2.2; exact (by exact lR <| (Kd.R_mono (Kd.R_far (p := ⟨gb334, 1, none⟩) (Kd.R_far (p := ⟨gb334, 0, none⟩) (Kd.R_types HO305.out BK334.out (by decide)) (fun _ hk => hk.2) (.int .i64 t327)) (fun _ hk => hk.2) (.slice Ao59 t328.length co59)) (fun _ h_ => h_.1)))); (case side4 => exact (Kd.R_reads' HO305.out).2.1); rintro e w80 ⟨rfl, hb⟩; refine ⟨_, rfl, ?_⟩; have n0_ := Aside0.mk (Kd.R_below (by exact lR <| (Kd.R_mono (Kd.R_far (p := ⟨gb334, 1, none⟩) (Kd.R_far (p := ⟨gb334, 0, none⟩) (Kd.R_types HO305.out BK334.out (by decide)) (fun _ hk => hk.2) (.int .i64 t327)) (fun _ hk => hk.2) (.slice Ao59 t328.length co59)) (fun _ h_ => h_.1))) hb); have n1_ := Aside0.mk (Kd.R_below (by exact lR <| (Kd.R_mono (Kd.R_far (p := ⟨gb334, 1, none⟩) (Kd.R_far (p := ⟨gb334, 0, none⟩) (Kd.R_types HO308.out BK334.out (by decide)) (fun _ hk => hk.2) (.int .i64 t327)) (fun _ hk => hk.2) (.slice Ao59 t328.length co59)) (fun _ h_ => h_.1))) hb); have n2_ := Aside0.mk (Kd.S_below (by exact lS <| (Kd.S_mono (Kd.S_far (p := ⟨gb334, 1, none⟩) (Kd.S_far (p := ⟨gb334, 0, none⟩) (Kd.S_types HO312.out BK334.out (by decide)) (fun _ hk => hk.2) (.int .i64 t327)) (fun _ hk => hk.2) (.slice Ao59 t328.length co59)) (fun _ h_ => h_.1))) hb); have n3_ := Aside0.mk (Kd.S_below (by exact lS <| (Kd.S_mono (Kd.S_far (p := ⟨gb334, 1, none⟩) (Kd.S_far (p := ⟨gb334, 0, none⟩) (Kd.S_types HO315.out BK334.out (by decide)) (fun _ hk => hk.2) (.int .i64 t327)) (fun _ hk => hk.2) (.slice Ao59 t328.length co59)) (fun _ h_ => h_.1))) hb); have n4_ := Aside0.mk (Kd.S_below (by exact lS <| (Kd.S_mono (Kd.S_far (p := ⟨gb334, 1, none⟩) (Kd.S_far (p := ⟨gb334, 0, none⟩) (Kd.S_types HO318.out BK334.out (by decide)) (fun _ hk => hk.2) (.int .i64 t327)) (fun _ hk => hk.2) (.slice Ao59 t328.length co59)) (fun _ h_ => h_.1))) hb); have n5_ := Aside0.mk (Kd.R_below (by exact lR <| (Kd.R_mono (Kd.R_far (p := ⟨gb334, 1, none⟩) (Kd.R_far (p := ⟨gb334, 0, none⟩) (Kd.R_types HO323.out BK334.out (by decide)) (fun _ hk => hk.2) (.int .i64 t327)) (fun _ hk => hk.2) (.slice Ao59 t328.length co59)) (fun _ h_ => h_.1))) hb); have n6_ := Aside0.mk (Kd.R_below (by exact lR <| (Kd.R_mono (Kd.R_far (p := ⟨gb334, 1, none⟩) (Kd.R_far (p := ⟨gb334, 0, none⟩) (Kd.R_types HO326.out BK334.out (by decide)) (fun _ hk => hk.2) (.int .i64 t327)) (fun _ hk => hk.2) (.slice Ao59 t328.length co59)) (fun _ h_ => h_.1))) hb); have n7_ := Aside0.mk (Kd.R_below (by exact lR <| (Kd.R_mono (Kd.R_far (p := ⟨gb334, 1, none⟩) (Kd.R_far (p := ⟨gb334, 0, none⟩) (Kd.R_types HO330.out BK334.out (by decide)) (fun _ hk => hk.2) (.int .i64 t327)) (fun _ hk => hk.2) (.slice Ao59 t328.length co59)) (fun _ h_ => h_.1))) hb); have n8_ := Aside0.mk (Kd.R_below (by exact lR <| (Kd.R_mono (Kd.R_far (p := ⟨gb334, 1, none⟩) (Kd.R_far (p := ⟨gb334, 0, none⟩) (Kd.R_types HO333.out BK334.out (by decide)) (fun _ hk => hk.2) (.int .i64 t327)) (fun _ hk => hk.2) (.slice Ao59 t328.length co59)) (fun _ h_ => h_.1))) hb); have n9_ := Aside0.mk (blk_below (g := gb284) (o := .cells #[.slice A0_0 l0_0.length c0_0, .slice A0_1 l0_1.length c0_1, .slice A0_2 l0_2.length c0_2, .bool a0_3] 41 (0, 0)) (by (with_reducible repeat (first | refine blk_drewN ?_ _ | refine blk_drew ?_ | refine blk_alloc ?_ _)); refine blk_far ?_ NB284_334.out _; (with_reducible repeat (first | refine blk_drewN ?_ _ | refine blk_drew ?_ | refine blk_alloc ?_ _)); refine blk_far ?_ NB284_334.out _; exact lK BK284.out) hb); have n10_ := Aside0.mk (blk_below (g := gb309) (o := .cells #[.int .i64 t302, .slice Ao38 t303.length co38] 54 (0, 0)) (by (with_reducible repeat (first | refine blk_drewN ?_ _ | refine blk_drew ?_ | refine blk_alloc ?_ _)); refine blk_far ?_ NB309_334.out _; (with_reducible repeat (first | refine blk_drewN ?_ _ | refine blk_drew ?_ | refine blk_alloc ?_ _)); refine blk_far ?_ NB309_334.out _; exact lK BK309.out) hb); have n11_ := Aside0.mk (blk_below (g := gb320) (o := .cells #[.slice Ao42 t310.length co42, .slice Ao46 t313.length co46, .slice Ao47 t316.length co47, .bool t319] 45 (0, 0)) (by (with_reducible repeat (first | refine blk_drewN ?_ _ | refine blk_drew ?_ | refine blk_alloc ?_ _)); refine blk_far ?_ NB320_334.out _; (with_reducible repeat (first | refine blk_drewN ?_ _ | refine blk_drew ?_ | refine blk_alloc ?_ _)); refine blk_far ?_ NB320_334.out _; exact lK BK320.out) hb); have n12_ := Aside0.mk (blk_below (g := gb334) (o := .cells #[.int .i64 t327, .slice Ao59 t328.length co59] 54 (0, 0)) (by (with_reducible repeat (first | refine blk_drewN ?_ _ | refine blk_drew ?_ | refine blk_alloc ?_ _)); refine blk_put (cs := #[.int .i64 t327, .slice none 0 0]) ?_ 1 _ rfl; (with_reducible repeat (first | refine blk_drewN ?_ _ | refine blk_drew ?_ | refine blk_alloc ?_ _)); refine blk_put (cs := #[.int .i64 0, .slice none 0 0]) ?_ 0 _ rfl; exact lK BK334.out) hb); have n13_ := Aside0.mk (below_step (by repeat (first | (with_reducible first | exact HB.out | apply below_alloc | apply pw_below_drewN | apply below_drew1 | refine below_set ?_ (by first | exact GE284.out | exact GE309.out | exact GE320.out | exact GE334.out)) | exact HB.out)) hb); clear HO305; clear HO308; clear HO312; clear HO315; clear HO318; clear HO323; clear HO326; clear HO330; clear HO333; clear BK284; clear BK309; clear BK320; clear BK334; clear HB; have HO305 := n0_; have HO308 := n1_; have HO312 := n2_; have HO315 := n3_; have HO318 := n4_; have HO323 := n5_; have HO326 := n6_; have HO330 := n7_; have HO333 := n8_; have BK284 := n9_; have BK309 := n10_; have BK320 := n11_; have BK334 := n12_; have HB := n13_; clear n0_ n1_ n2_ n3_ n4_ n5_ n6_ n7_ n8_ n9_ n10_ n11_ n12_ n13_; (try clear hb); (try clear hb2); (try clear hk); (try clear hi)))
            go_meet
            case rel => exact ⟨_, (true), (by first | rfl | (simp; done) | (simp [*]; done)), H', ⟨by first | omega | exact Nat.le_refl _⟩, ⟨by exact lR <| Kd.R_mono HO308.out (fun _ hk => ⟨hk.1.1.1.2, ⟨hk.1.1.2, ⟨hk.2, ⟨hk.1.1.1.1, hk.1.2⟩⟩⟩⟩)⟩, ⟨by exact lR <| Kd.R_mono HO323.out (fun _ hk => ⟨hk.1.1.1.2, ⟨hk.1.1.2, ⟨hk.2, ⟨hk.1.1.1.1.2, hk.1.2⟩⟩⟩⟩)⟩, ⟨by exact lR <| Kd.R_mono HO326.out (fun _ hk => ⟨hk.1.1.1.2, ⟨hk.1.1.2, ⟨hk.2, ⟨hk.1.1.1.1.2, hk.1.2⟩⟩⟩⟩)⟩, ⟨by exact lR <| Kd.R_mono HO333.out (fun _ hk => ⟨hk.1.1.2, ⟨hk.1.2, ⟨hk.2, ⟨hk.1.1.1.2, hk.1.1.1.1⟩⟩⟩⟩)⟩, ⟨by exact lR <| Kd.R_mono HO305.out (fun _ hk => ⟨hk.1.1.1.1, ⟨hk.1.1.1.2, ⟨hk.1.1.2, ⟨hk.2, hk.1.2⟩⟩⟩⟩)⟩, ⟨by exact lS <| Kd.S_mono HO312.out (fun _ hk => ⟨hk.1.1.1.1.2, ⟨hk.1.1.1.2, ⟨hk.1.1.2, ⟨hk.2, ⟨hk.1.1.1.1.1.2, ⟨hk.1.1.1.1.1.1.1, ⟨hk.1.1.1.1.1.1.2, hk.1.2⟩⟩⟩⟩⟩⟩⟩)⟩, ⟨by exact lS <| Kd.S_mono HO315.out (fun _ hk => ⟨hk.1.1.1.1.2, ⟨hk.1.1.1.2, ⟨hk.1.1.2, ⟨hk.2, ⟨hk.1.1.1.1.1.2, ⟨hk.1.1.1.1.1.1.1, ⟨hk.1.1.1.1.1.1.2, hk.1.2⟩⟩⟩⟩⟩⟩⟩)⟩, ⟨by exact lS <| Kd.S_mono HO318.out (fun _ hk => ⟨hk.1.1.1.1.2, ⟨hk.1.1.1.2, ⟨hk.1.1.2, ⟨hk.2, ⟨hk.1.1.1.1.1.2, ⟨hk.1.1.1.1.1.1.1, ⟨hk.1.1.1.1.1.1.2, hk.1.2⟩⟩⟩⟩⟩⟩⟩)⟩, ⟨by exact lR <| Kd.R_mono HO330.out (fun _ hk => ⟨hk.1.1.2, ⟨hk.1.2, ⟨hk.2, ⟨hk.1.1.1.1, hk.1.1.1.2⟩⟩⟩⟩)⟩, ⟨by exact lK <| BK284.out⟩, ⟨by exact lK <| BK309.out⟩, ⟨by exact lK <| BK320.out⟩, ⟨by exact lK <| BK334.out⟩, ⟨by repeat (first | (with_reducible first | exact HB.out | apply below_alloc | apply pw_below_drewN | apply below_drew1 | refine below_set ?_ (by first | exact GE284.out | exact GE309.out | exact GE320.out | exact GE334.out)) | exact HB.out)⟩⟩
        case rest =>
          clear HC21
          try clear c1
          try clear c2
          try clear p2
          try clear c3
          try clear c4
          try clear c4b0
          try clear c4b1
          try clear c5
          try clear c6
          try clear c6b0
          try clear c6b1
          try clear c7
          try clear c9
          try clear c9b0
          try clear c21
          try clear c23
          try clear c27
          try clear c30
          try clear c31
          try clear c32
          try clear c36
          try clear c43
          try clear c44
          try clear c55
          try clear c56
          try clear c57
          try clear c61
          try clear c63
          try clear c64
          try clear c65
          try clear c67
          try clear c68
          try clear c73
          try clear c74
          try clear c75
          try clear c77
          try clear c78
          try clear hcz11_0
          try clear hcz11_1
          try clear hcz11_2
          try clear hcz11_3
          try clear hcz23_0
          try clear hcz23_1
          try clear hcz23_2
          try clear hcz23_3
          try clear hcz25_0
          try clear hcz25_1
          try clear hcz25_2
          try clear hcz25_3
          try clear hcz37_0
          try clear hcz37_1
          try clear hcz39_0
          try clear hcz39_1
          try clear hcz39_2
          try clear hcz39_3
          try clear hcz45_0
          try clear hcz45_1
          try clear hcz45_2
          try clear hcz45_3
          try clear hcz50_0
          try clear hcz50_1
          try clear hcz50_2
          try clear hcz50_3
          try clear hcz58_0
          try clear hcz58_1
          try clear hcz66_0
          try clear hcz66_1
          try clear hcz69_0
          try clear hcz69_1
          try clear hcz76_0
          try clear hcz76_1
          try clear hcz79_0
          try clear hcz79_1
          try clear hfz11_0
          try clear hfz11_1
          try clear hfz11_2
          try clear hfz11_3
          try clear hfz23_0
          try clear hfz23_1
          try clear hfz23_2
          try clear hfz23_3
          try clear hfz25_0
          try clear hfz25_1
          try clear hfz25_2
          try clear hfz25_3
          try clear hfz37_0
          try clear hfz37_1
          try clear hfz39_0
          try clear hfz39_1
          try clear hfz39_2
          try clear hfz39_3
          try clear hfz45_0
          try clear hfz45_1
          try clear hfz45_2
          try clear hfz45_3
          try clear hfz50_0
          try clear hfz50_1
          try clear hfz50_2
          try clear hfz50_3
          try clear hfz58_0
          try clear hfz58_1
          try clear hfz66_0
          try clear hfz66_1
          try clear hfz69_0
          try clear hfz69_1
          try clear hfz76_0
          try clear hfz76_1
          try clear hfz79_0
          try clear hfz79_1
          obtain ⟨kq, x63_20, rfl, HA, HJ20, HO_9, HO_11, HO_12, HO_14, HO_310001, HO_321000, HO_321001, HO_321002, HO_335001, BK284, BK309, BK320, BK334, HB⟩ := hcut
          cases kq with
          | zero => exact absurd HA.out (by simp [laws_FnExactRowDo.j0])
          | succ kj20 =>
            have H := HA.out
            clear HA
            simp only [laws_FnExactRowDo.j0] at H
            by_cases c81 : x63_20 = true
            · subst c81
              have H1 : (some false) = some r := by rw [if_pos rfl] at H; exact H
              clear H
              have H := H1
              clear H1
              exact absurd (Option.some.inj H) (by rw [hr.out]; decide)
            · replace c81 := Bool.eq_false_iff.mpr c81
              subst c81
              have H1 : ((laws_toRowRow.f kj20 l0_0 l0_1 l0_2 a0_3).bind fun bt337 => ((laws_eqRowRow.f kj20 t310 t313 t316 t319 bt337.1 bt337.2.1 bt337.2.2.1 bt337.2.2.2).bind fun t347 => (if t347 = true then ((laws_toIntS.f kj20 l1).bind fun t348 => ((laws_eqIntS.f kj20 t321 t348).bind fun t351 => (if t351 = true then ((laws_toIntS.f kj20 l2).bind fun t352 => ((laws_eqIntS.f kj20 t324 t352).bind fun t355 => (if t355 = true then ((laws_markRowRow.f t310 t313 t316 t319 1).bind fun t356 => ((laws_markIntS.f kj20 t321 t356).bind fun bt357 => ((laws_markIntS.f kj20 t324 bt357.1).bind fun bt359 => (if bt359.1 < 0 then (laws_FnExactRowDo.j1 kj20 l1 l2 t306 t331 true l0_0 l0_1 l0_2 a0_3 t302 t303 t327 t328) else ((laws_eqResResult.f kj20 t327 t328 t302 t303).bind fun t361 => (if t361 = true then ((laws_eqIntS.f kj20 t331 t306).bind fun t362 => (laws_FnExactRowDo.j1 kj20 l1 l2 t306 t331 (!t362) l0_0 l0_1 l0_2 a0_3 t302 t303 t327 t328)) else (laws_FnExactRowDo.j1 kj20 l1 l2 t306 t331 true l0_0 l0_1 l0_2 a0_3 t302 t303 t327 t328))))))) else (some false)))) else (some false)))) else (some false)))) = some r := by rw [if_neg (show ¬ (false = true) by decide)] at H; exact H
              clear H
              have H := H1
              clear H1
              replace H := Option.bind_eq_some_iff.mp H
              obtain ⟨⟨t337, t340, t343, t346⟩, A820, H⟩ := H
              replace H : ((laws_eqRowRow.f kj20 t310 t313 t316 t319 t337 t340 t343 t346).bind fun t347 => (if t347 = true then ((laws_toIntS.f kj20 l1).bind fun t348 => ((laws_eqIntS.f kj20 t321 t348).bind fun t351 => (if t351 = true then ((laws_toIntS.f kj20 l2).bind fun t352 => ((laws_eqIntS.f kj20 t324 t352).bind fun t355 => (if t355 = true then ((laws_markRowRow.f t310 t313 t316 t319 1).bind fun t356 => ((laws_markIntS.f kj20 t321 t356).bind fun bt357 => ((laws_markIntS.f kj20 t324 bt357.1).bind fun bt359 => (if bt359.1 < 0 then (laws_FnExactRowDo.j1 kj20 l1 l2 t306 t331 true l0_0 l0_1 l0_2 a0_3 t302 t303 t327 t328) else ((laws_eqResResult.f kj20 t327 t328 t302 t303).bind fun t361 => (if t361 = true then ((laws_eqIntS.f kj20 t331 t306).bind fun t362 => (laws_FnExactRowDo.j1 kj20 l1 l2 t306 t331 (!t362) l0_0 l0_1 l0_2 a0_3 t302 t303 t327 t328)) else (laws_FnExactRowDo.j1 kj20 l1 l2 t306 t331 true l0_0 l0_1 l0_2 a0_3 t302 t303 t327 t328))))))) else (some false)))) else (some false)))) else (some false))) = some r := H
              have A82 := Aside0.mk A820
              clear A820
              replace H := Option.bind_eq_some_iff.mp H
              obtain ⟨t347, A830, H⟩ := H
              replace H : (if t347 = true then ((laws_toIntS.f kj20 l1).bind fun t348 => ((laws_eqIntS.f kj20 t321 t348).bind fun t351 => (if t351 = true then ((laws_toIntS.f kj20 l2).bind fun t352 => ((laws_eqIntS.f kj20 t324 t352).bind fun t355 => (if t355 = true then ((laws_markRowRow.f t310 t313 t316 t319 1).bind fun t356 => ((laws_markIntS.f kj20 t321 t356).bind fun bt357 => ((laws_markIntS.f kj20 t324 bt357.1).bind fun bt359 => (if bt359.1 < 0 then (laws_FnExactRowDo.j1 kj20 l1 l2 t306 t331 true l0_0 l0_1 l0_2 a0_3 t302 t303 t327 t328) else ((laws_eqResResult.f kj20 t327 t328 t302 t303).bind fun t361 => (if t361 = true then ((laws_eqIntS.f kj20 t331 t306).bind fun t362 => (laws_FnExactRowDo.j1 kj20 l1 l2 t306 t331 (!t362) l0_0 l0_1 l0_2 a0_3 t302 t303 t327 t328)) else (laws_FnExactRowDo.j1 kj20 l1 l2 t306 t331 true l0_0 l0_1 l0_2 a0_3 t302 t303 t327 t328))))))) else (some false)))) else (some false)))) else (some false)) = some r := H
              have A83 := Aside0.mk A830
              clear A830
              by_cases c84 : t347 = true
              · subst c84
                have H1 : ((laws_toIntS.f kj20 l1).bind fun t348 => ((laws_eqIntS.f kj20 t321 t348).bind fun t351 => (if t351 = true then ((laws_toIntS.f kj20 l2).bind fun t352 => ((laws_eqIntS.f kj20 t324 t352).bind fun t355 => (if t355 = true then ((laws_markRowRow.f t310 t313 t316 t319 1).bind fun t356 => ((laws_markIntS.f kj20 t321 t356).bind fun bt357 => ((laws_markIntS.f kj20 t324 bt357.1).bind fun bt359 => (if bt359.1 < 0 then (laws_FnExactRowDo.j1 kj20 l1 l2 t306 t331 true l0_0 l0_1 l0_2 a0_3 t302 t303 t327 t328) else ((laws_eqResResult.f kj20 t327 t328 t302 t303).bind fun t361 => (if t361 = true then ((laws_eqIntS.f kj20 t331 t306).bind fun t362 => (laws_FnExactRowDo.j1 kj20 l1 l2 t306 t331 (!t362) l0_0 l0_1 l0_2 a0_3 t302 t303 t327 t328)) else (laws_FnExactRowDo.j1 kj20 l1 l2 t306 t331 true l0_0 l0_1 l0_2 a0_3 t302 t303 t327 t328))))))) else (some false)))) else (some false)))) = some r := by rw [if_pos rfl] at H; exact H
                clear H
                have H := H1
                clear H1
                replace H := Option.bind_eq_some_iff.mp H
                obtain ⟨t348, A850, H⟩ := H
                replace H : ((laws_eqIntS.f kj20 t321 t348).bind fun t351 => (if t351 = true then ((laws_toIntS.f kj20 l2).bind fun t352 => ((laws_eqIntS.f kj20 t324 t352).bind fun t355 => (if t355 = true then ((laws_markRowRow.f t310 t313 t316 t319 1).bind fun t356 => ((laws_markIntS.f kj20 t321 t356).bind fun bt357 => ((laws_markIntS.f kj20 t324 bt357.1).bind fun bt359 => (if bt359.1 < 0 then (laws_FnExactRowDo.j1 kj20 l1 l2 t306 t331 true l0_0 l0_1 l0_2 a0_3 t302 t303 t327 t328) else ((laws_eqResResult.f kj20 t327 t328 t302 t303).bind fun t361 => (if t361 = true then ((laws_eqIntS.f kj20 t331 t306).bind fun t362 => (laws_FnExactRowDo.j1 kj20 l1 l2 t306 t331 (!t362) l0_0 l0_1 l0_2 a0_3 t302 t303 t327 t328)) else (laws_FnExactRowDo.j1 kj20 l1 l2 t306 t331 true l0_0 l0_1 l0_2 a0_3 t302 t303 t327 t328))))))) else (some false)))) else (some false))) = some r := H
                have A85 := Aside0.mk A850
                clear A850
                replace H := Option.bind_eq_some_iff.mp H
                obtain ⟨t351, A860, H⟩ := H
                replace H : (if t351 = true then ((laws_toIntS.f kj20 l2).bind fun t352 => ((laws_eqIntS.f kj20 t324 t352).bind fun t355 => (if t355 = true then ((laws_markRowRow.f t310 t313 t316 t319 1).bind fun t356 => ((laws_markIntS.f kj20 t321 t356).bind fun bt357 => ((laws_markIntS.f kj20 t324 bt357.1).bind fun bt359 => (if bt359.1 < 0 then (laws_FnExactRowDo.j1 kj20 l1 l2 t306 t331 true l0_0 l0_1 l0_2 a0_3 t302 t303 t327 t328) else ((laws_eqResResult.f kj20 t327 t328 t302 t303).bind fun t361 => (if t361 = true then ((laws_eqIntS.f kj20 t331 t306).bind fun t362 => (laws_FnExactRowDo.j1 kj20 l1 l2 t306 t331 (!t362) l0_0 l0_1 l0_2 a0_3 t302 t303 t327 t328)) else (laws_FnExactRowDo.j1 kj20 l1 l2 t306 t331 true l0_0 l0_1 l0_2 a0_3 t302 t303 t327 t328))))))) else (some false)))) else (some false)) = some r := H
                have A86 := Aside0.mk A860
                clear A860
                by_cases c87 : t351 = true
                · subst c87
                  have H1 : ((laws_toIntS.f kj20 l2).bind fun t352 => ((laws_eqIntS.f kj20 t324 t352).bind fun t355 => (if t355 = true then ((laws_markRowRow.f t310 t313 t316 t319 1).bind fun t356 => ((laws_markIntS.f kj20 t321 t356).bind fun bt357 => ((laws_markIntS.f kj20 t324 bt357.1).bind fun bt359 => (if bt359.1 < 0 then (laws_FnExactRowDo.j1 kj20 l1 l2 t306 t331 true l0_0 l0_1 l0_2 a0_3 t302 t303 t327 t328) else ((laws_eqResResult.f kj20 t327 t328 t302 t303).bind fun t361 => (if t361 = true then ((laws_eqIntS.f kj20 t331 t306).bind fun t362 => (laws_FnExactRowDo.j1 kj20 l1 l2 t306 t331 (!t362) l0_0 l0_1 l0_2 a0_3 t302 t303 t327 t328)) else (laws_FnExactRowDo.j1 kj20 l1 l2 t306 t331 true l0_0 l0_1 l0_2 a0_3 t302 t303 t327 t328))))))) else (some false)))) = some r := by rw [if_pos rfl] at H; exact H
                  clear H
                  have H := H1
                  clear H1
                  replace H := Option.bind_eq_some_iff.mp H
                  obtain ⟨t352, A880, H⟩ := H
                  replace H : ((laws_eqIntS.f kj20 t324 t352).bind fun t355 => (if t355 = true then ((laws_markRowRow.f t310 t313 t316 t319 1).bind fun t356 => ((laws_markIntS.f kj20 t321 t356).bind fun bt357 => ((laws_markIntS.f kj20 t324 bt357.1).bind fun bt359 => (if bt359.1 < 0 then (laws_FnExactRowDo.j1 kj20 l1 l2 t306 t331 true l0_0 l0_1 l0_2 a0_3 t302 t303 t327 t328) else ((laws_eqResResult.f kj20 t327 t328 t302 t303).bind fun t361 => (if t361 = true then ((laws_eqIntS.f kj20 t331 t306).bind fun t362 => (laws_FnExactRowDo.j1 kj20 l1 l2 t306 t331 (!t362) l0_0 l0_1 l0_2 a0_3 t302 t303 t327 t328)) else (laws_FnExactRowDo.j1 kj20 l1 l2 t306 t331 true l0_0 l0_1 l0_2 a0_3 t302 t303 t327 t328))))))) else (some false))) = some r := H
                  have A88 := Aside0.mk A880
                  clear A880
                  replace H := Option.bind_eq_some_iff.mp H
                  obtain ⟨t355, A890, H⟩ := H
                  replace H : (if t355 = true then ((laws_markRowRow.f t310 t313 t316 t319 1).bind fun t356 => ((laws_markIntS.f kj20 t321 t356).bind fun bt357 => ((laws_markIntS.f kj20 t324 bt357.1).bind fun bt359 => (if bt359.1 < 0 then (laws_FnExactRowDo.j1 kj20 l1 l2 t306 t331 true l0_0 l0_1 l0_2 a0_3 t302 t303 t327 t328) else ((laws_eqResResult.f kj20 t327 t328 t302 t303).bind fun t361 => (if t361 = true then ((laws_eqIntS.f kj20 t331 t306).bind fun t362 => (laws_FnExactRowDo.j1 kj20 l1 l2 t306 t331 (!t362) l0_0 l0_1 l0_2 a0_3 t302 t303 t327 t328)) else (laws_FnExactRowDo.j1 kj20 l1 l2 t306 t331 true l0_0 l0_1 l0_2 a0_3 t302 t303 t327 t328))))))) else (some false)) = some r := H
                  have A89 := Aside0.mk A890
                  clear A890
                  by_cases c90 : t355 = true
                  · subst c90
                    have H1 : ((laws_markRowRow.f t310 t313 t316 t319 1).bind fun t356 => ((laws_markIntS.f kj20 t321 t356).bind fun bt357 => ((laws_markIntS.f kj20 t324 bt357.1).bind fun bt359 => (if bt359.1 < 0 then (laws_FnExactRowDo.j1 kj20 l1 l2 t306 t331 true l0_0 l0_1 l0_2 a0_3 t302 t303 t327 t328) else ((laws_eqResResult.f kj20 t327 t328 t302 t303).bind fun t361 => (if t361 = true then ((laws_eqIntS.f kj20 t331 t306).bind fun t362 => (laws_FnExactRowDo.j1 kj20 l1 l2 t306 t331 (!t362) l0_0 l0_1 l0_2 a0_3 t302 t303 t327 t328)) else (laws_FnExactRowDo.j1 kj20 l1 l2 t306 t331 true l0_0 l0_1 l0_2 a0_3 t302 t303 t327 t328))))))) = some r := by rw [if_pos rfl] at H; exact H
                    clear H
                    have H := H1
                    clear H1
                    replace H := Option.bind_eq_some_iff.mp H
                    obtain ⟨t356, A910, H⟩ := H
                    replace H : ((laws_markIntS.f kj20 t321 t356).bind fun bt357 => ((laws_markIntS.f kj20 t324 bt357.1).bind fun bt359 => (if bt359.1 < 0 then (laws_FnExactRowDo.j1 kj20 l1 l2 t306 t331 true l0_0 l0_1 l0_2 a0_3 t302 t303 t327 t328) else ((laws_eqResResult.f kj20 t327 t328 t302 t303).bind fun t361 => (if t361 = true then ((laws_eqIntS.f kj20 t331 t306).bind fun t362 => (laws_FnExactRowDo.j1 kj20 l1 l2 t306 t331 (!t362) l0_0 l0_1 l0_2 a0_3 t302 t303 t327 t328)) else (laws_FnExactRowDo.j1 kj20 l1 l2 t306 t331 true l0_0 l0_1 l0_2 a0_3 t302 t303 t327 t328)))))) = some r := H
                    have A91 := Aside0.mk A910
                    clear A910
                    replace H := Option.bind_eq_some_iff.mp H
                    obtain ⟨⟨t357, t358⟩, A920, H⟩ := H
                    replace H : ((laws_markIntS.f kj20 t324 t357).bind fun bt359 => (if bt359.1 < 0 then (laws_FnExactRowDo.j1 kj20 l1 l2 t306 t331 true l0_0 l0_1 l0_2 a0_3 t302 t303 t327 t328) else ((laws_eqResResult.f kj20 t327 t328 t302 t303).bind fun t361 => (if t361 = true then ((laws_eqIntS.f kj20 t331 t306).bind fun t362 => (laws_FnExactRowDo.j1 kj20 l1 l2 t306 t331 (!t362) l0_0 l0_1 l0_2 a0_3 t302 t303 t327 t328)) else (laws_FnExactRowDo.j1 kj20 l1 l2 t306 t331 true l0_0 l0_1 l0_2 a0_3 t302 t303 t327 t328))))) = some r := H
                    have A92 := Aside0.mk A920
                    clear A920
                    replace H := Option.bind_eq_some_iff.mp H
                    obtain ⟨⟨t359, t360⟩, A930, H⟩ := H
                    replace H : (if t359 < 0 then (laws_FnExactRowDo.j1 kj20 l1 l2 t306 t331 true l0_0 l0_1 l0_2 a0_3 t302 t303 t327 t328) else ((laws_eqResResult.f kj20 t327 t328 t302 t303).bind fun t361 => (if t361 = true then ((laws_eqIntS.f kj20 t331 t306).bind fun t362 => (laws_FnExactRowDo.j1 kj20 l1 l2 t306 t331 (!t362) l0_0 l0_1 l0_2 a0_3 t302 t303 t327 t328)) else (laws_FnExactRowDo.j1 kj20 l1 l2 t306 t331 true l0_0 l0_1 l0_2 a0_3 t302 t303 t327 t328)))) = some r := H
                    have A93 := Aside0.mk A930
                    clear A930
                    have HC94 := Aside0.mk H
                    clear H
                    try go_wp2
                    have n0_ := Aside0.mk (Kd.R_drew HO_9.out)
                    have n1_ := Aside0.mk (Kd.R_drew HO_11.out)
                    have n2_ := Aside0.mk (Kd.R_drew HO_12.out)
                    have n3_ := Aside0.mk (Kd.R_drew HO_14.out)
                    have n4_ := Aside0.mk (Kd.R_drew HO_310001.out)
                    have n5_ := Aside0.mk (Kd.S_drew HO_321000.out)
                    have n6_ := Aside0.mk (Kd.S_drew HO_321001.out)
                    have n7_ := Aside0.mk (Kd.S_drew HO_321002.out)
                    have n8_ := Aside0.mk (Kd.R_drew HO_335001.out)
                    have n9_ := Aside0.mk (blk_drew BK284.out)
                    have n10_ := Aside0.mk (blk_drew BK309.out)
                    have n11_ := Aside0.mk (blk_drew BK320.out)
                    have n12_ := Aside0.mk (blk_drew BK334.out)
                    have n13_ := Aside0.mk (below_drew1 HB.out)
                    clear HO_9
                    clear HO_11
                    clear HO_12
                    clear HO_14
                    clear HO_310001
                    clear HO_321000
                    clear HO_321001
                    clear HO_321002
                    clear HO_335001
                    clear BK284
                    clear BK309
                    clear BK320
                    clear BK334
                    clear HB
                    have HO_9 := n0_
                    have HO_11 := n1_
                    have HO_12 := n2_
                    have HO_14 := n3_
                    have HO_310001 := n4_
                    have HO_321000 := n5_
                    have HO_321001 := n6_
                    have HO_321002 := n7_
                    have HO_335001 := n8_
                    have BK284 := n9_
                    have BK309 := n10_
                    have BK320 := n11_
                    have BK334 := n12_
                    have HB := n13_
                    clear n0_ n1_ n2_ n3_ n4_ n5_ n6_ n7_ n8_ n9_ n10_ n11_ n12_ n13_
                    refine start_ (n := 5) (S := fun w' => w'.cell? ⟨gb320, 0, none⟩ = some (.slice Ao42 t310.length co42) ∧ w'.cell? ⟨gb320, 1, none⟩ = some (.slice Ao46 t313.length co46) ∧ w'.cell? ⟨gb320, 2, none⟩ = some (.slice Ao47 t316.length co47) ∧ w'.cell? ⟨gb320, 3, none⟩ = some (.bool t319) ∧ w'.cell? ⟨gb284, 0, none⟩ = some (.slice A0_0 l0_0.length c0_0) ∧ w'.cell? ⟨gb284, 1, none⟩ = some (.slice A0_1 l0_1.length c0_1) ∧ w'.cell? ⟨gb284, 2, none⟩ = some (.slice A0_2 l0_2.length c0_2) ∧ w'.cell? ⟨gb284, 3, none⟩ = some (.bool a0_3)) (ds := []) #[false, false, false, false, false] (by kernel_rfl) rfl rfl ⟨(blk_cell BK320.out 0).trans rfl, (blk_cell BK320.out 1).trans rfl, (blk_cell BK320.out 2).trans rfl, (blk_cell BK320.out 3).trans rfl, (blk_cell BK284.out 0).trans rfl, (blk_cell BK284.out 1).trans rfl, (blk_cell BK284.out 2).trans rfl, (blk_cell BK284.out 3).trans rfl⟩ (fun hHeld => ?_)
                    generalize wc.drew = w95 at HO_9 HO_11 HO_12 HO_14 HO_310001 HO_321000 HO_321001 HO_321002 HO_335001 BK284 BK309 BK320 BK334 HB hHeld ⊢
                    refine take_ (i := 0) (N := some 64) (v := ?_) (a' := ?_) #[true, false, false, false, false] rfl rfl (by kernel_rfl) (fun _ _ _ h => h) (Or.inl ⟨by rfl, ?_⟩) hHeld ?_ ?_
                    rotate_left
                    · rintro w' ⟨s0, s1, s2, s3, s4, s5, s6, s7⟩
                      go_simp
                      with_reducible rfl
                    rotate_left
                    · simp only [Act.put, List.setIfInBounds_toArray, List.set_cons_zero, List.set_cons_succ, i64_w, i32_w]
                      rfl
                    refine take_ (i := 1) (N := some 65) (v := ?_) (a' := ?_) #[true, true, false, false, false] rfl rfl (by kernel_rfl) (fun _ _ _ h => h) (Or.inl ⟨by rfl, ?_⟩) hHeld ?_ ?_
                    rotate_left
                    · rintro w' ⟨s0, s1, s2, s3, s4, s5, s6, s7⟩
                      go_simp
                      with_reducible rfl
                    rotate_left
                    · simp only [Act.put, List.setIfInBounds_toArray, List.set_cons_zero, List.set_cons_succ, i64_w, i32_w]
                      rfl
                    refine one_ (i := 2) (N := some 66) #[true, true, true, false, false] rfl rfl (by kernel_rfl) (by decide) (fun K hK => ?_)
                    refine goes_ Try.func23 (by kernel_rfl) rfl #[.agg #[.slice A0_0 l0_0.length c0_0, .slice A0_1 l0_1.length c0_1, .slice A0_2 l0_2.length c0_2, .bool a0_3]] (by rfl) rfl rfl (by (try simp only [List.map_toArray, List.map_cons, List.map_nil]); first | done | rfl | (simp only [List.length_drop, List.length_take]; rfl)) ?_
                    with_reducible refine (laws_toRowRow.calls kj20 _ _ l0_0 _ _ l0_1 _ _ l0_2 a0_3 t337 t340 t343 t346 _ ?side1 ?side2 ?side3 ?side4 ?side5 ?side6 A82.out).mono ?_
                    (case side1 => exact lC <| (Kd.C_below HR0_0.out HB.out))
                    (case side2 => exact HC0_0.out)
                    (case side3 => exact lC <| (Kd.C_below HR0_1.out HB.out))
                    (case side4 => exact HC0_1.out)
                    (case side5 => exact lC <| (Kd.C_below HR0_2.out HB.out))
                    (case side6 => exact HC0_2.out)
                    rintro e w96 ⟨v338, v341, v344, rfl, ho0, ho1, ho2, hb⟩
                    refine ⟨_, rfl, ?_⟩
                    have n0_ := Aside0.mk (Kd.R_below (by exact lR HO_9.out) hb)
                    have n1_ := Aside0.mk (Kd.R_below (by exact lR HO_11.out) hb)
                    have n2_ := Aside0.mk (Kd.R_below (by exact lR HO_12.out) hb)
                    have n3_ := Aside0.mk (Kd.R_below (by exact lR HO_14.out) hb)
                    have n4_ := Aside0.mk (Kd.R_below (by exact lR HO_310001.out) hb)
                    have n5_ := Aside0.mk (Kd.S_mono (Kd.S_told (Kd.S_told (Kd.S_told (Kd.S_old (by exact lS HO_321000.out) hb) (Kd.S_base ho0)) (Kd.S_base ho1)) (Kd.S_base ho2)) (fun _ h_ => h_.1))
                    have n6_ := Aside0.mk (Kd.S_mono (Kd.S_told (Kd.S_told (Kd.S_told (Kd.S_old (by exact lS HO_321001.out) hb) (Kd.S_base ho0)) (Kd.S_base ho1)) (Kd.S_base ho2)) (fun _ h_ => h_.1))
                    have n7_ := Aside0.mk (Kd.S_mono (Kd.S_told (Kd.S_told (Kd.S_told (Kd.S_old (by exact lS HO_321002.out) hb) (Kd.S_base ho0)) (Kd.S_base ho1)) (Kd.S_base ho2)) (fun _ h_ => h_.1))
                    have n8_ := Aside0.mk (Kd.R_below (by exact lR HO_335001.out) hb)
                    have n9_ := Aside0.mk (Kd.S_lower (Kd.S_new' (Kd.S_new' (Kd.S_new' (Kd.S_new' (Kd.S_new' (Kd.S_new' (Kd.S_new' (Kd.S_new' (Kd.S_new' ho0 (Kd.R_lt (by exact lR HO_9.out))) (Kd.R_lt (by exact lR HO_11.out))) (Kd.R_lt (by exact lR HO_12.out))) (Kd.R_lt (by exact lR HO_14.out))) (Kd.R_lt (by exact lR HO_310001.out))) (Kd.S_lt (by exact lS HO_321000.out))) (Kd.S_lt (by exact lS HO_321001.out))) (Kd.S_lt (by exact lS HO_321002.out))) (Kd.R_lt (by exact lR HO_335001.out))) (below_size (by repeat (first | (with_reducible first | exact HB.out | apply below_alloc | apply pw_below_drewN | apply below_drew1 | refine below_set ?_ (by first | exact GE284.out | exact GE309.out | exact GE320.out | exact GE334.out)) | exact HB.out))))
                    have n10_ := Aside0.mk (Kd.S_lower (Kd.S_new' (Kd.S_new' (Kd.S_new' (Kd.S_new' (Kd.S_new' (Kd.S_new' (Kd.S_new' (Kd.S_new' (Kd.S_new' ho1 (Kd.R_lt (by exact lR HO_9.out))) (Kd.R_lt (by exact lR HO_11.out))) (Kd.R_lt (by exact lR HO_12.out))) (Kd.R_lt (by exact lR HO_14.out))) (Kd.R_lt (by exact lR HO_310001.out))) (Kd.S_lt (by exact lS HO_321000.out))) (Kd.S_lt (by exact lS HO_321001.out))) (Kd.S_lt (by exact lS HO_321002.out))) (Kd.R_lt (by exact lR HO_335001.out))) (below_size (by repeat (first | (with_reducible first | exact HB.out | apply below_alloc | apply pw_below_drewN | apply below_drew1 | refine below_set ?_ (by first | exact GE284.out | exact GE309.out | exact GE320.out | exact GE334.out)) | exact HB.out))))
                    have n11_ := Aside0.mk (Kd.S_lower (Kd.S_new' (Kd.S_new' (Kd.S_new' (Kd.S_new' (Kd.S_new' (Kd.S_new' (Kd.S_new' (Kd.S_new' (Kd.S_new' ho2 (Kd.R_lt (by exact lR HO_9.out))) (Kd.R_lt (by exact lR HO_11.out))) (Kd.R_lt (by exact lR HO_12.out))) (Kd.R_lt (by exact lR HO_14.out))) (Kd.R_lt (by exact lR HO_310001.out))) (Kd.S_lt (by exact lS HO_321000.out))) (Kd.S_lt (by exact lS HO_321001.out))) (Kd.S_lt (by exact lS HO_321002.out))) (Kd.R_lt (by exact lR HO_335001.out))) (below_size (by repeat (first | (with_reducible first | exact HB.out | apply below_alloc | apply pw_below_drewN | apply below_drew1 | refine below_set ?_ (by first | exact GE284.out | exact GE309.out | exact GE320.out | exact GE334.out)) | exact HB.out))))
                    have n12_ := Aside0.mk (blk_below (g := gb284) (o := .cells #[.slice A0_0 l0_0.length c0_0, .slice A0_1 l0_1.length c0_1, .slice A0_2 l0_2.length c0_2, .bool a0_3] 41 (0, 0)) (by exact lK BK284.out) hb)
                    have n13_ := Aside0.mk (blk_below (g := gb309) (o := .cells #[.int .i64 t302, .slice Ao38 t303.length co38] 54 (0, 0)) (by exact lK BK309.out) hb)
                    have n14_ := Aside0.mk (blk_below (g := gb320) (o := .cells #[.slice Ao42 t310.length co42, .slice Ao46 t313.length co46, .slice Ao47 t316.length co47, .bool t319] 45 (0, 0)) (by exact lK BK320.out) hb)
                    have n15_ := Aside0.mk (blk_below (g := gb334) (o := .cells #[.int .i64 t327, .slice Ao59 t328.length co59] 54 (0, 0)) (by exact lK BK334.out) hb)
                    have n16_ := Aside0.mk (below_step (by repeat (first | (with_reducible first | exact HB.out | apply below_alloc | apply pw_below_drewN | apply below_drew1 | refine below_set ?_ (by first | exact GE284.out | exact GE309.out | exact GE320.out | exact GE334.out)) | exact HB.out)) hb)
                    clear HO_9
                    clear HO_11
                    clear HO_12
                    clear HO_14
                    clear HO_310001
                    clear HO_321000
                    clear HO_321001
                    clear HO_321002
                    clear HO_335001
                    clear BK284
                    clear BK309
                    clear BK320
                    clear BK334
                    clear HB
                    have HO_9 := n0_
                    have HO_11 := n1_
                    have HO_12 := n2_
                    have HO_14 := n3_
                    have HO_310001 := n4_
                    have HO_321000 := n5_
                    have HO_321001 := n6_
                    have HO_321002 := n7_
                    have HO_335001 := n8_
                    have HO339 := n9_
                    have HO342 := n10_
                    have HO345 := n11_
                    have BK284 := n12_
                    have BK309 := n13_
                    have BK320 := n14_
                    have BK334 := n15_
                    have HB := n16_
                    clear n0_ n1_ n2_ n3_ n4_ n5_ n6_ n7_ n8_ n9_ n10_ n11_ n12_ n13_ n14_ n15_ n16_
                    (try clear hb)
                    (try clear hb2)
                    (try clear hk)
                    (try clear hi)
                    (try clear ho0)
                    (try clear ho1)
                    (try clear ho2)
                    obtain ⟨Ao97, co97, eo97⟩ := Kd.S_slice HO339.out
                    (first | subst eo97 | (injection eo97 with f1_ f2_ f3_; have f4_ := f1_.symm; have f5_ := f3_.symm; clear f1_ f2_ f3_; subst f4_; subst f5_))
                    obtain ⟨Ao98, co98, eo98⟩ := Kd.S_slice HO342.out
                    (first | subst eo98 | (injection eo98 with f1_ f2_ f3_; have f4_ := f1_.symm; have f5_ := f3_.symm; clear f1_ f2_ f3_; subst f4_; subst f5_))
                    obtain ⟨Ao99, co99, eo99⟩ := Kd.S_slice HO345.out
                    (first | subst eo99 | (injection eo99 with f1_ f2_ f3_; have f4_ := f1_.symm; have f5_ := f3_.symm; clear f1_ f2_ f3_; subst f4_; subst f5_))
                    refine hK.out _ _ ⟨(blk_cell BK320.out 0).trans rfl, (blk_cell BK320.out 1).trans rfl, (blk_cell BK320.out 2).trans rfl, (blk_cell BK320.out 3).trans rfl, (blk_cell BK284.out 0).trans rfl, (blk_cell BK284.out 1).trans rfl, (blk_cell BK284.out 2).trans rfl, (blk_cell BK284.out 3).trans rfl⟩ (fun hHeld => ?_)
                    clear hK K
                    refine norm_ (a' := ?_) ?_ ?_
                    rotate_left
                    · show Act.put _ (some 66) _ = _
                      simp only [Act.put, List.setIfInBounds_toArray, List.set_cons_zero, List.set_cons_succ, i64_w, i32_w]
                      rfl
                    refine one_ (i := 3) (N := some 67) #[true, true, true, true, false] rfl rfl (by kernel_rfl) (by decide) (fun K hK => ?_)
                    refine goes_ Try.func25 (by kernel_rfl) rfl #[.agg #[.slice Ao42 t310.length co42, .slice Ao46 t313.length co46, .slice Ao47 t316.length co47, .bool t319], .agg #[.slice Ao97 t337.length co97, .slice Ao98 t340.length co98, .slice Ao99 t343.length co99, .bool t346]] (by rfl) rfl rfl (by (try simp only [List.map_toArray, List.map_cons, List.map_nil]); first | done | rfl | (simp only [List.length_drop, List.length_take]; rfl)) ?_
                    with_reducible refine (laws_eqRowRow.calls kj20 _ _ t310 _ _ t313 _ _ t316 t319 _ _ t337 _ _ t340 _ _ t343 t346 true _ ?side1 ?side2 ?side3 ?side4 ?side5 ?side6 ?side7 ?side8 ?side9 ?side10 ?side11 ?side12 A83.out).mono ?_
                    (case side1 => exact lC <| (Kd.S_reads' HO_321000.out).2.2)
                    (case side2 => exact (Kd.S_reads' HO_321000.out).2.1)
                    (case side3 => exact lC <| (Kd.S_reads' HO_321001.out).2.2)
                    (case side4 => exact (Kd.S_reads' HO_321001.out).2.1)
                    (case side5 => exact lC <| (Kd.S_reads' HO_321002.out).2.2)
                    (case side6 => exact (Kd.S_reads' HO_321002.out).2.1)
                    (case side7 => exact lC <| (Kd.S_reads' HO339.out).2.2)
                    (case side8 => exact (Kd.S_reads' HO339.out).2.1)
                    (case side9 => exact lC <| (Kd.S_reads' HO342.out).2.2)
                    (case side10 => exact (Kd.S_reads' HO342.out).2.1)
                    (case side11 => exact lC <| (Kd.S_reads' HO345.out).2.2)
                    (case side12 => exact (Kd.S_reads' HO345.out).2.1)
                    rintro e w100 ⟨rfl, hb⟩
                    refine ⟨_, rfl, ?_⟩
                    have n0_ := Aside0.mk (Kd.R_below (by exact lR HO_9.out) hb)
                    have n1_ := Aside0.mk (Kd.R_below (by exact lR HO_11.out) hb)
                    have n2_ := Aside0.mk (Kd.R_below (by exact lR HO_12.out) hb)
                    have n3_ := Aside0.mk (Kd.R_below (by exact lR HO_14.out) hb)
                    have n4_ := Aside0.mk (Kd.R_below (by exact lR HO_310001.out) hb)
                    have n5_ := Aside0.mk (Kd.S_below (by exact lS HO_321000.out) hb)
                    have n6_ := Aside0.mk (Kd.S_below (by exact lS HO_321001.out) hb)
                    have n7_ := Aside0.mk (Kd.S_below (by exact lS HO_321002.out) hb)
                    have n8_ := Aside0.mk (Kd.R_below (by exact lR HO_335001.out) hb)
                    have n9_ := Aside0.mk (Kd.S_below (by exact lS HO339.out) hb)
                    have n10_ := Aside0.mk (Kd.S_below (by exact lS HO342.out) hb)
                    have n11_ := Aside0.mk (Kd.S_below (by exact lS HO345.out) hb)
                    have n12_ := Aside0.mk (blk_below (g := gb284) (o := .cells #[.slice A0_0 l0_0.length c0_0, .slice A0_1 l0_1.length c0_1, .slice A0_2 l0_2.length c0_2, .bool a0_3] 41 (0, 0)) (by exact lK BK284.out) hb)
                    have n13_ := Aside0.mk (blk_below (g := gb309) (o := .cells #[.int .i64 t302, .slice Ao38 t303.length co38] 54 (0, 0)) (by exact lK BK309.out) hb)
                    have n14_ := Aside0.mk (blk_below (g := gb320) (o := .cells #[.slice Ao42 t310.length co42, .slice Ao46 t313.length co46, .slice Ao47 t316.length co47, .bool t319] 45 (0, 0)) (by exact lK BK320.out) hb)
                    have n15_ := Aside0.mk (blk_below (g := gb334) (o := .cells #[.int .i64 t327, .slice Ao59 t328.length co59] 54 (0, 0)) (by exact lK BK334.out) hb)
                    have n16_ := Aside0.mk (below_step (by repeat (first | (with_reducible first | exact HB.out | apply below_alloc | apply pw_below_drewN | apply below_drew1 | refine below_set ?_ (by first | exact GE284.out | exact GE309.out | exact GE320.out | exact GE334.out)) | exact HB.out)) hb)
                    clear HO_9
                    clear HO_11
                    clear HO_12
                    clear HO_14
                    clear HO_310001
                    clear HO_321000
                    clear HO_321001
                    clear HO_321002
                    clear HO_335001
                    clear HO339
                    clear HO342
                    clear HO345
                    clear BK284
                    clear BK309
                    clear BK320
                    clear BK334
                    clear HB
                    have HO_9 := n0_
                    have HO_11 := n1_
                    have HO_12 := n2_
                    have HO_14 := n3_
                    have HO_310001 := n4_
                    have HO_321000 := n5_
                    have HO_321001 := n6_
                    have HO_321002 := n7_
                    have HO_335001 := n8_
                    have HO339 := n9_
                    have HO342 := n10_
                    have HO345 := n11_
                    have BK284 := n12_
                    have BK309 := n13_
                    have BK320 := n14_
                    have BK334 := n15_
                    have HB := n16_
                    clear n0_ n1_ n2_ n3_ n4_ n5_ n6_ n7_ n8_ n9_ n10_ n11_ n12_ n13_ n14_ n15_ n16_
                    (try clear hb)
                    (try clear hb2)
                    (try clear hk)
                    (try clear hi)
                    refine hK.out _ _ ⟨(blk_cell BK320.out 0).trans rfl, (blk_cell BK320.out 1).trans rfl, (blk_cell BK320.out 2).trans rfl, (blk_cell BK320.out 3).trans rfl, (blk_cell BK284.out 0).trans rfl, (blk_cell BK284.out 1).trans rfl, (blk_cell BK284.out 2).trans rfl, (blk_cell BK284.out 3).trans rfl⟩ (fun hHeld => ?_)
                    clear hK K
                    refine norm_ (a' := ?_) ?_ ?_
                    rotate_left
                    · show Act.put _ (some 67) _ = _
                      simp only [Act.put, List.setIfInBounds_toArray, List.set_cons_zero, List.set_cons_succ, i64_w, i32_w]
                      rfl
                    refine pure_ (i := 4) (N := some 68) (v := ?_) (a' := ?_) #[true, true, true, true, true] rfl rfl (by kernel_rfl) (fun _ _ _ h => h) (Or.inl ⟨by rfl, ?_⟩) ?_ ?_
                    rotate_left
                    · intro w'
                      go_simp
                      with_reducible rfl
                    rotate_left
                    · simp only [Act.put, List.setIfInBounds_toArray, List.set_cons_zero, List.set_cons_succ, i64_w, i32_w]
                      rfl
                    refine done_ (by kernel_rfl) ?_
                    have n_ := Aside0.mk (Kd.S_mono (ok' := fun k_ => (some k_ ≠ (v307 : Value).ownBlock ∧ (some k_ ≠ (.slice Ao51 t321.length co51 : Value).ownBlock ∧ (some k_ ≠ (.slice Ao52 t324.length co52 : Value).ownBlock ∧ (some k_ ≠ (v332 : Value).ownBlock ∧ (some k_ ≠ (.slice Ao38 t303.length co38 : Value).ownBlock ∧ (some k_ ≠ (.slice Ao46 t313.length co46 : Value).ownBlock ∧ (some k_ ≠ (.slice Ao47 t316.length co47 : Value).ownBlock ∧ some k_ ≠ (.slice Ao59 t328.length co59 : Value).ownBlock)))))))) HO_321000.out (fun _ hk => ⟨hk.1.1.1.1, ⟨hk.1.1.1.2.1, ⟨hk.1.1.1.2.2.1, ⟨hk.1.1.1.2.2.2.1, ⟨hk.1.1.1.2.2.2.2.1, ⟨hk.1.1.1.2.2.2.2.2.1, ⟨hk.1.1.1.2.2.2.2.2.2.1, hk.1.1.1.2.2.2.2.2.2.2⟩⟩⟩⟩⟩⟩⟩))
                    clear HO_321000
                    have HO_321000 := n_
                    clear n_
                    have n_ := Aside0.mk (Kd.S_mono (ok' := fun k_ => (some k_ ≠ (v307 : Value).ownBlock ∧ (some k_ ≠ (.slice Ao51 t321.length co51 : Value).ownBlock ∧ (some k_ ≠ (.slice Ao52 t324.length co52 : Value).ownBlock ∧ (some k_ ≠ (v332 : Value).ownBlock ∧ (some k_ ≠ (.slice Ao38 t303.length co38 : Value).ownBlock ∧ (some k_ ≠ (.slice Ao42 t310.length co42 : Value).ownBlock ∧ (some k_ ≠ (.slice Ao47 t316.length co47 : Value).ownBlock ∧ some k_ ≠ (.slice Ao59 t328.length co59 : Value).ownBlock)))))))) HO_321001.out (fun _ hk => ⟨hk.1.1.1.1, ⟨hk.1.1.1.2.1, ⟨hk.1.1.1.2.2.1, ⟨hk.1.1.1.2.2.2.1, ⟨hk.1.1.1.2.2.2.2.1, ⟨hk.1.1.1.2.2.2.2.2.1, ⟨hk.1.1.1.2.2.2.2.2.2.1, hk.1.1.1.2.2.2.2.2.2.2⟩⟩⟩⟩⟩⟩⟩))
                    clear HO_321001
                    have HO_321001 := n_
                    clear n_
                    have n_ := Aside0.mk (Kd.S_mono (ok' := fun k_ => (some k_ ≠ (v307 : Value).ownBlock ∧ (some k_ ≠ (.slice Ao51 t321.length co51 : Value).ownBlock ∧ (some k_ ≠ (.slice Ao52 t324.length co52 : Value).ownBlock ∧ (some k_ ≠ (v332 : Value).ownBlock ∧ (some k_ ≠ (.slice Ao38 t303.length co38 : Value).ownBlock ∧ (some k_ ≠ (.slice Ao42 t310.length co42 : Value).ownBlock ∧ (some k_ ≠ (.slice Ao46 t313.length co46 : Value).ownBlock ∧ some k_ ≠ (.slice Ao59 t328.length co59 : Value).ownBlock)))))))) HO_321002.out (fun _ hk => ⟨hk.1.1.1.1, ⟨hk.1.1.1.2.1, ⟨hk.1.1.1.2.2.1, ⟨hk.1.1.1.2.2.2.1, ⟨hk.1.1.1.2.2.2.2.1, ⟨hk.1.1.1.2.2.2.2.2.1, ⟨hk.1.1.1.2.2.2.2.2.2.1, hk.1.1.1.2.2.2.2.2.2.2⟩⟩⟩⟩⟩⟩⟩))
                    clear HO_321002
                    have HO_321002 := n_
                    clear n_
                    go_upto_region 26 with (first | ((with_reducible refine gate_callee (f := 27) rfl ?_); refine goesL_ (some 71) rfl rfl Try.func27 (by kernel_rfl) rfl #[.slice A1 l1.length c1] rfl (by (try simp only [List.map_toArray, List.map_cons, List.map_nil]); first | done | rfl | (simp only [List.length_drop, List.length_take]; rfl)) ?_; (with_reducible refine (laws_toIntS.calls kj20 _ _ l1 t348 _ ?side1 ?side2 A85.out).mono ?_); (case side1 => exact lC <| (Kd.C_below HR1.out HB.out)); (case side2 => exact HC1.out); rintro e w101 ⟨v349, rfl, ho0, hb⟩; refine ⟨_, rfl, ?_⟩; have n0_ := Aside0.mk (Kd.R_elder' (by exact lR HO_9.out) (Kd.R_base ho0) hb); have n1_ := Aside0.mk (Kd.R_elder' (by exact lR HO_11.out) (Kd.R_base ho0) hb); have n2_ := Aside0.mk (Kd.R_elder' (by exact lR HO_12.out) (Kd.R_base ho0) hb); have n3_ := Aside0.mk (Kd.R_elder' (by exact lR HO_14.out) (Kd.R_base ho0) hb); have n4_ := Aside0.mk (Kd.R_elder' (by exact lR HO_310001.out) (Kd.R_base ho0) hb); have n5_ := Aside0.mk (Kd.S_elder' (by exact lS HO_321000.out) (Kd.R_base ho0) hb); have n6_ := Aside0.mk (Kd.S_elder' (by exact lS HO_321001.out) (Kd.R_base ho0) hb); have n7_ := Aside0.mk (Kd.S_elder' (by exact lS HO_321002.out) (Kd.R_base ho0) hb); have n8_ := Aside0.mk (Kd.R_elder' (by exact lR HO_335001.out) (Kd.R_base ho0) hb); have n9_ := Aside0.mk (Kd.R_lower (Kd.R_new' (Kd.R_new' (Kd.R_new' (Kd.R_new' (Kd.R_new' (Kd.R_new' ho0 (Kd.R_lt (by exact lR HO_9.out))) (Kd.R_lt (by exact lR HO_11.out))) (Kd.R_lt (by exact lR HO_12.out))) (Kd.R_lt (by exact lR HO_14.out))) (Kd.R_lt (by exact lR HO_310001.out))) (Kd.R_lt (by exact lR HO_335001.out))) (below_size (by repeat (first | (with_reducible first | exact HB.out | apply below_alloc | apply pw_below_drewN | apply below_drew1 | refine below_set ?_ (by first | exact GE284.out | exact GE309.out | exact GE320.out | exact GE334.out)) | exact HB.out)))); have n10_ := Aside0.mk (blk_below (g := gb284) (o := .cells #[.slice A0_0 l0_0.length c0_0, .slice A0_1 l0_1.length c0_1, .slice A0_2 l0_2.length c0_2, .bool a0_3] 41 (0, 0)) (by exact lK BK284.out) hb); have n11_ := Aside0.mk (blk_below (g := gb309) (o := .cells #[.int .i64 t302, .slice Ao38 t303.length co38] 54 (0, 0)) (by exact lK BK309.out) hb); have n12_ := Aside0.mk (blk_below (g := gb320) (o := .cells #[.slice Ao42 t310.length co42, .slice Ao46 t313.length co46, .slice Ao47 t316.length co47, .bool t319] 45 (0, 0)) (by exact lK BK320.out) hb); have n13_ := Aside0.mk (blk_below (g := gb334) (o := .cells #[.int .i64 t327, .slice Ao59 t328.length co59] 54 (0, 0)) (by exact lK BK334.out) hb); have n14_ := Aside0.mk (below_step (by repeat (first | (with_reducible first | exact HB.out | apply below_alloc | apply pw_below_drewN | apply below_drew1 | refine below_set ?_ (by first | exact GE284.out | exact GE309.out | exact GE320.out | exact GE334.out)) | exact HB.out)) hb); clear HO_9; clear HO_11; clear HO_12; clear HO_14; clear HO_310001; clear HO_321000; clear HO_321001; clear HO_321002; clear HO_335001; clear BK284; clear BK309; clear BK320; clear BK334; clear HB; have HO_9 := n0_; have HO_11 := n1_; have HO_12 := n2_; have HO_14 := n3_; have HO_310001 := n4_; have HO_321000 := n5_; have HO_321001 := n6_; have HO_321002 := n7_; have HO_335001 := n8_; have HO350 := n9_; have BK284 := n10_; have BK309 := n11_; have BK320 := n12_; have BK334 := n13_; have HB := n14_; clear n0_ n1_ n2_ n3_ n4_ n5_ n6_ n7_ n8_ n9_ n10_ n11_ n12_ n13_ n14_; (try clear hb); (try clear hb2); (try clear hk); (try clear hi); (try clear ho0); obtain ⟨Ao102, co102, eo102⟩ := Kd.R_slice HO350.out; subst eo102) | ((with_reducible refine gate_callee (f := 29) rfl ?_); refine goesL_ (some 72) rfl rfl Try.func29 (by kernel_rfl) rfl #[.slice Ao51 t321.length co51, .slice Ao102 t348.length co102] rfl (by (try simp only [List.map_toArray, List.map_cons, List.map_nil]); first | done | rfl | (simp only [List.length_drop, List.length_take]; rfl)) ?_; (with_reducible refine (laws_eqIntS.calls kj20 _ _ t321 _ _ t348 true _ ?side1 ?side2 ?side3 ?side4 A86.out).mono ?_); (case side1 => exact lC <| (Kd.R_reads' HO_11.out).2.2); (case side2 => exact (Kd.R_reads' HO_11.out).2.1); (case side3 => exact lC <| (Kd.R_reads' HO350.out).2.2); (case side4 => exact (Kd.R_reads' HO350.out).2.1); rintro e w' ⟨rfl, ⟨nd, rfl⟩⟩; refine ⟨_, rfl, ?_⟩; have n_ := Aside0.mk (Kd.R_mono (ok' := fun k_ => (some k_ ≠ (.slice Ao51 t321.length co51 : Value).ownBlock ∧ (some k_ ≠ (.slice Ao52 t324.length co52 : Value).ownBlock ∧ (some k_ ≠ (v332 : Value).ownBlock ∧ (some k_ ≠ (.slice Ao38 t303.length co38 : Value).ownBlock ∧ some k_ ≠ (.slice Ao59 t328.length co59 : Value).ownBlock))))) HO_9.out (fun _ hk => ⟨hk.1.1, ⟨hk.1.2.1, ⟨hk.1.2.2.1, ⟨hk.1.2.2.2.1, hk.1.2.2.2.2⟩⟩⟩⟩)); clear HO_9; have HO_9 := n_; clear n_; have n_ := Aside0.mk (Kd.R_mono (ok' := fun k_ => (some k_ ≠ (v307 : Value).ownBlock ∧ (some k_ ≠ (.slice Ao52 t324.length co52 : Value).ownBlock ∧ (some k_ ≠ (v332 : Value).ownBlock ∧ (some k_ ≠ (.slice Ao38 t303.length co38 : Value).ownBlock ∧ some k_ ≠ (.slice Ao59 t328.length co59 : Value).ownBlock))))) HO_11.out (fun _ hk => ⟨hk.1.1, ⟨hk.1.2.1, ⟨hk.1.2.2.1, ⟨hk.1.2.2.2.1, hk.1.2.2.2.2⟩⟩⟩⟩)); clear HO_11; have HO_11 := n_; clear n_; have n_ := Aside0.mk (Kd.R_mono (ok' := fun k_ => (some k_ ≠ (v307 : Value).ownBlock ∧ (some k_ ≠ (.slice Ao51 t321.length co51 : Value).ownBlock ∧ (some k_ ≠ (v332 : Value).ownBlock ∧ (some k_ ≠ (.slice Ao38 t303.length co38 : Value).ownBlock ∧ some k_ ≠ (.slice Ao59 t328.length co59 : Value).ownBlock))))) HO_12.out (fun _ hk => ⟨hk.1.1, ⟨hk.1.2.1, ⟨hk.1.2.2.1, ⟨hk.1.2.2.2.1, hk.1.2.2.2.2⟩⟩⟩⟩)); clear HO_12; have HO_12 := n_; clear n_; have n_ := Aside0.mk (Kd.R_mono (ok' := fun k_ => (some k_ ≠ (v307 : Value).ownBlock ∧ (some k_ ≠ (.slice Ao51 t321.length co51 : Value).ownBlock ∧ (some k_ ≠ (.slice Ao52 t324.length co52 : Value).ownBlock ∧ (some k_ ≠ (.slice Ao38 t303.length co38 : Value).ownBlock ∧ some k_ ≠ (.slice Ao59 t328.length co59 : Value).ownBlock))))) HO_14.out (fun _ hk => ⟨hk.1.1, ⟨hk.1.2.1, ⟨hk.1.2.2.1, ⟨hk.1.2.2.2.1, hk.1.2.2.2.2⟩⟩⟩⟩)); clear HO_14; have HO_14 := n_; clear n_; have n_ := Aside0.mk (Kd.R_mono (ok' := fun k_ => (some k_ ≠ (v307 : Value).ownBlock ∧ (some k_ ≠ (.slice Ao51 t321.length co51 : Value).ownBlock ∧ (some k_ ≠ (.slice Ao52 t324.length co52 : Value).ownBlock ∧ (some k_ ≠ (v332 : Value).ownBlock ∧ some k_ ≠ (.slice Ao59 t328.length co59 : Value).ownBlock))))) HO_310001.out (fun _ hk => ⟨hk.1.1, ⟨hk.1.2.1, ⟨hk.1.2.2.1, ⟨hk.1.2.2.2.1, hk.1.2.2.2.2⟩⟩⟩⟩)); clear HO_310001; have HO_310001 := n_; clear n_; have n_ := Aside0.mk (Kd.S_mono (ok' := fun k_ => (some k_ ≠ (v307 : Value).ownBlock ∧ (some k_ ≠ (.slice Ao51 t321.length co51 : Value).ownBlock ∧ (some k_ ≠ (.slice Ao52 t324.length co52 : Value).ownBlock ∧ (some k_ ≠ (v332 : Value).ownBlock ∧ (some k_ ≠ (.slice Ao38 t303.length co38 : Value).ownBlock ∧ (some k_ ≠ (.slice Ao46 t313.length co46 : Value).ownBlock ∧ (some k_ ≠ (.slice Ao47 t316.length co47 : Value).ownBlock ∧ some k_ ≠ (.slice Ao59 t328.length co59 : Value).ownBlock)))))))) HO_321000.out (fun _ hk => ⟨hk.1.1, ⟨hk.1.2.1, ⟨hk.1.2.2.1, ⟨hk.1.2.2.2.1, ⟨hk.1.2.2.2.2.1, ⟨hk.1.2.2.2.2.2.1, ⟨hk.1.2.2.2.2.2.2.1, hk.1.2.2.2.2.2.2.2⟩⟩⟩⟩⟩⟩⟩)); clear HO_321000; have HO_321000 := n_; clear n_; have n_ := Aside0.mk (Kd.S_mono (ok' := fun k_ => (some k_ ≠ (v307 : Value).ownBlock ∧ (some k_ ≠ (.slice Ao51 t321.length co51 : Value).ownBlock ∧ (some k_ ≠ (.slice Ao52 t324.length co52 : Value).ownBlock ∧ (some k_ ≠ (v332 : Value).ownBlock ∧ (some k_ ≠ (.slice Ao38 t303.length co38 : Value).ownBlock ∧ (some k_ ≠ (.slice Ao42 t310.length co42 : Value).ownBlock ∧ (some k_ ≠ (.slice Ao47 t316.length co47 : Value).ownBlock ∧ some k_ ≠ (.slice Ao59 t328.length co59 : Value).ownBlock)))))))) HO_321001.out (fun _ hk => ⟨hk.1.1, ⟨hk.1.2.1, ⟨hk.1.2.2.1, ⟨hk.1.2.2.2.1, ⟨hk.1.2.2.2.2.1, ⟨hk.1.2.2.2.2.2.1, ⟨hk.1.2.2.2.2.2.2.1, hk.1.2.2.2.2.2.2.2⟩⟩⟩⟩⟩⟩⟩)); clear HO_321001; have HO_321001 := n_; clear n_; have n_ := Aside0.mk (Kd.S_mono (ok' := fun k_ => (some k_ ≠ (v307 : Value).ownBlock ∧ (some k_ ≠ (.slice Ao51 t321.length co51 : Value).ownBlock ∧ (some k_ ≠ (.slice Ao52 t324.length co52 : Value).ownBlock ∧ (some k_ ≠ (v332 : Value).ownBlock ∧ (some k_ ≠ (.slice Ao38 t303.length co38 : Value).ownBlock ∧ (some k_ ≠ (.slice Ao42 t310.length co42 : Value).ownBlock ∧ (some k_ ≠ (.slice Ao46 t313.length co46 : Value).ownBlock ∧ some k_ ≠ (.slice Ao59 t328.length co59 : Value).ownBlock)))))))) HO_321002.out (fun _ hk => ⟨hk.1.1, ⟨hk.1.2.1, ⟨hk.1.2.2.1, ⟨hk.1.2.2.2.1, ⟨hk.1.2.2.2.2.1, ⟨hk.1.2.2.2.2.2.1, ⟨hk.1.2.2.2.2.2.2.1, hk.1.2.2.2.2.2.2.2⟩⟩⟩⟩⟩⟩⟩)); clear HO_321002; have HO_321002 := n_; clear n_; have n_ := Aside0.mk (Kd.R_mono (ok' := fun k_ => (some k_ ≠ (v307 : Value).ownBlock ∧ (some k_ ≠ (.slice Ao51 t321.length co51 : Value).ownBlock ∧ (some k_ ≠ (.slice Ao52 t324.length co52 : Value).ownBlock ∧ (some k_ ≠ (v332 : Value).ownBlock ∧ some k_ ≠ (.slice Ao38 t303.length co38 : Value).ownBlock))))) HO_335001.out (fun _ hk => ⟨hk.1.1, ⟨hk.1.2.1, ⟨hk.1.2.2.1, ⟨hk.1.2.2.2.1, hk.1.2.2.2.2⟩⟩⟩⟩)); clear HO_335001; have HO_335001 := n_; clear n_) | ((with_reducible refine gate_callee (f := 27) rfl ?_); refine goesL_ (some 76) rfl rfl Try.func27 (by kernel_rfl) rfl #[.slice A2 l2.length c2] rfl (by (try simp only [List.map_toArray, List.map_cons, List.map_nil]); first | done | rfl | (simp only [List.length_drop, List.length_take]; rfl)) ?_; (with_reducible refine (laws_toIntS.calls kj20 _ _ l2 t352 _ ?side1 ?side2 A88.out).mono ?_); (case side1 => repeat (first | exact (Kd.C_below HR2.out (by repeat (first | (with_reducible first | exact HB.out | apply below_alloc | apply pw_below_drewN | apply below_drew1 | refine below_set ?_ (by first | exact GE284.out | exact GE309.out | exact GE320.out | exact GE334.out)) | exact HB.out))) | (with_reducible refine Kd.C_alloc ?_ _) | (with_reducible refine Kd.C_drewN ?_ _) | (with_reducible refine Kd.C_drew ?_))); (case side2 => exact HC2.out); rintro e w103 ⟨v353, rfl, ho0, hb⟩; refine ⟨_, rfl, ?_⟩; have n0_ := Aside0.mk (Kd.R_elder' (by exact lR HO_9.out) (Kd.R_base ho0) hb); have n1_ := Aside0.mk (Kd.R_elder' (by exact lR HO_11.out) (Kd.R_base ho0) hb); have n2_ := Aside0.mk (Kd.R_elder' (by exact lR HO_12.out) (Kd.R_base ho0) hb); have n3_ := Aside0.mk (Kd.R_elder' (by exact lR HO_14.out) (Kd.R_base ho0) hb); have n4_ := Aside0.mk (Kd.R_elder' (by exact lR HO_310001.out) (Kd.R_base ho0) hb); have n5_ := Aside0.mk (Kd.S_elder' (by exact lS HO_321000.out) (Kd.R_base ho0) hb); have n6_ := Aside0.mk (Kd.S_elder' (by exact lS HO_321001.out) (Kd.R_base ho0) hb); have n7_ := Aside0.mk (Kd.S_elder' (by exact lS HO_321002.out) (Kd.R_base ho0) hb); have n8_ := Aside0.mk (Kd.R_elder' (by exact lR HO_335001.out) (Kd.R_base ho0) hb); have n9_ := Aside0.mk (Kd.R_lower (Kd.R_new' (Kd.R_new' (Kd.R_new' (Kd.R_new' (Kd.R_new' (Kd.R_new' ho0 (Kd.R_lt (by exact lR HO_9.out))) (Kd.R_lt (by exact lR HO_11.out))) (Kd.R_lt (by exact lR HO_12.out))) (Kd.R_lt (by exact lR HO_14.out))) (Kd.R_lt (by exact lR HO_310001.out))) (Kd.R_lt (by exact lR HO_335001.out))) (below_size (by repeat (first | (with_reducible first | exact HB.out | apply below_alloc | apply pw_below_drewN | apply below_drew1 | refine below_set ?_ (by first | exact GE284.out | exact GE309.out | exact GE320.out | exact GE334.out)) | exact HB.out)))); have n10_ := Aside0.mk (blk_below (g := gb284) (o := .cells #[.slice A0_0 l0_0.length c0_0, .slice A0_1 l0_1.length c0_1, .slice A0_2 l0_2.length c0_2, .bool a0_3] 41 (0, 0)) (by exact lK BK284.out) hb); have n11_ := Aside0.mk (blk_below (g := gb309) (o := .cells #[.int .i64 t302, .slice Ao38 t303.length co38] 54 (0, 0)) (by exact lK BK309.out) hb); have n12_ := Aside0.mk (blk_below (g := gb320) (o := .cells #[.slice Ao42 t310.length co42, .slice Ao46 t313.length co46, .slice Ao47 t316.length co47, .bool t319] 45 (0, 0)) (by exact lK BK320.out) hb); have n13_ := Aside0.mk (blk_below (g := gb334) (o := .cells #[.int .i64 t327, .slice Ao59 t328.length co59] 54 (0, 0)) (by exact lK BK334.out) hb); have n14_ := Aside0.mk (below_step (by repeat (first | (with_reducible first | exact HB.out | apply below_alloc | apply pw_below_drewN | apply below_drew1 | refine below_set ?_ (by first | exact GE284.out | exact GE309.out | exact GE320.out | exact GE334.out)) | exact HB.out)) hb); clear HO_9; clear HO_11; clear HO_12; clear HO_14; clear HO_310001; clear HO_321000; clear HO_321001; clear HO_321002; clear HO_335001; clear BK284; clear BK309; clear BK320; clear BK334; clear HB; have HO_9 := n0_; have HO_11 := n1_; have HO_12 := n2_; have HO_14 := n3_; have HO_310001 := n4_; have HO_321000 := n5_; have HO_321001 := n6_; have HO_321002 := n7_; have HO_335001 := n8_; have HO354 := n9_; have BK284 := n10_; have BK309 := n11_; have BK320 := n12_; have BK334 := n13_; have HB := n14_; clear n0_ n1_ n2_ n3_ n4_ n5_ n6_ n7_ n8_ n9_ n10_ n11_ n12_ n13_ n14_; (try clear hb); (try clear hb2); (try clear hk); (try clear hi); (try clear ho0); obtain ⟨Ao104, co104, eo104⟩ := Kd.R_slice HO354.out; subst eo104) | ((with_reducible refine gate_callee (f := 29) rfl ?_); refine goesL_ (some 77) rfl rfl Try.func29 (by kernel_rfl) rfl #[.slice Ao52 t324.length co52, .slice Ao104 t352.length co104] rfl (by (try simp only [List.map_toArray, List.map_cons, List.map_nil]); first | done | rfl | (simp only [List.length_drop, List.length_take]; rfl)) ?_; (with_reducible refine (laws_eqIntS.calls kj20 _ _ t324 _ _ t352 true _ ?side1 ?side2 ?side3 ?side4 A89.out).mono ?_); (case side1 => exact lC <| (Kd.R_reads' HO_12.out).2.2); (case side2 => exact (Kd.R_reads' HO_12.out).2.1); (case side3 => exact lC <| (Kd.R_reads' HO354.out).2.2); (case side4 => exact (Kd.R_reads' HO354.out).2.1); rintro e w' ⟨rfl, ⟨nd, rfl⟩⟩; refine ⟨_, rfl, ?_⟩; have n_ := Aside0.mk (Kd.R_mono (ok' := fun k_ => (some k_ ≠ (.slice Ao51 t321.length co51 : Value).ownBlock ∧ (some k_ ≠ (.slice Ao52 t324.length co52 : Value).ownBlock ∧ (some k_ ≠ (v332 : Value).ownBlock ∧ (some k_ ≠ (.slice Ao38 t303.length co38 : Value).ownBlock ∧ some k_ ≠ (.slice Ao59 t328.length co59 : Value).ownBlock))))) HO_9.out (fun _ hk => ⟨hk.1.1, ⟨hk.1.2.1, ⟨hk.1.2.2.1, ⟨hk.1.2.2.2.1, hk.1.2.2.2.2⟩⟩⟩⟩)); clear HO_9; have HO_9 := n_; clear n_; have n_ := Aside0.mk (Kd.R_mono (ok' := fun k_ => (some k_ ≠ (v307 : Value).ownBlock ∧ (some k_ ≠ (.slice Ao52 t324.length co52 : Value).ownBlock ∧ (some k_ ≠ (v332 : Value).ownBlock ∧ (some k_ ≠ (.slice Ao38 t303.length co38 : Value).ownBlock ∧ some k_ ≠ (.slice Ao59 t328.length co59 : Value).ownBlock))))) HO_11.out (fun _ hk => ⟨hk.1.1, ⟨hk.1.2.1, ⟨hk.1.2.2.1, ⟨hk.1.2.2.2.1, hk.1.2.2.2.2⟩⟩⟩⟩)); clear HO_11; have HO_11 := n_; clear n_; have n_ := Aside0.mk (Kd.R_mono (ok' := fun k_ => (some k_ ≠ (v307 : Value).ownBlock ∧ (some k_ ≠ (.slice Ao51 t321.length co51 : Value).ownBlock ∧ (some k_ ≠ (v332 : Value).ownBlock ∧ (some k_ ≠ (.slice Ao38 t303.length co38 : Value).ownBlock ∧ some k_ ≠ (.slice Ao59 t328.length co59 : Value).ownBlock))))) HO_12.out (fun _ hk => ⟨hk.1.1, ⟨hk.1.2.1, ⟨hk.1.2.2.1, ⟨hk.1.2.2.2.1, hk.1.2.2.2.2⟩⟩⟩⟩)); clear HO_12; have HO_12 := n_; clear n_; have n_ := Aside0.mk (Kd.R_mono (ok' := fun k_ => (some k_ ≠ (v307 : Value).ownBlock ∧ (some k_ ≠ (.slice Ao51 t321.length co51 : Value).ownBlock ∧ (some k_ ≠ (.slice Ao52 t324.length co52 : Value).ownBlock ∧ (some k_ ≠ (.slice Ao38 t303.length co38 : Value).ownBlock ∧ some k_ ≠ (.slice Ao59 t328.length co59 : Value).ownBlock))))) HO_14.out (fun _ hk => ⟨hk.1.1, ⟨hk.1.2.1, ⟨hk.1.2.2.1, ⟨hk.1.2.2.2.1, hk.1.2.2.2.2⟩⟩⟩⟩)); clear HO_14; have HO_14 := n_; clear n_; have n_ := Aside0.mk (Kd.R_mono (ok' := fun k_ => (some k_ ≠ (v307 : Value).ownBlock ∧ (some k_ ≠ (.slice Ao51 t321.length co51 : Value).ownBlock ∧ (some k_ ≠ (.slice Ao52 t324.length co52 : Value).ownBlock ∧ (some k_ ≠ (v332 : Value).ownBlock ∧ some k_ ≠ (.slice Ao59 t328.length co59 : Value).ownBlock))))) HO_310001.out (fun _ hk => ⟨hk.1.1, ⟨hk.1.2.1, ⟨hk.1.2.2.1, ⟨hk.1.2.2.2.1, hk.1.2.2.2.2⟩⟩⟩⟩)); clear HO_310001; have HO_310001 := n_; clear n_; have n_ := Aside0.mk (Kd.S_mono (ok' := fun k_ => (some k_ ≠ (v307 : Value).ownBlock ∧ (some k_ ≠ (.slice Ao51 t321.length co51 : Value).ownBlock ∧ (some k_ ≠ (.slice Ao52 t324.length co52 : Value).ownBlock ∧ (some k_ ≠ (v332 : Value).ownBlock ∧ (some k_ ≠ (.slice Ao38 t303.length co38 : Value).ownBlock ∧ (some k_ ≠ (.slice Ao46 t313.length co46 : Value).ownBlock ∧ (some k_ ≠ (.slice Ao47 t316.length co47 : Value).ownBlock ∧ some k_ ≠ (.slice Ao59 t328.length co59 : Value).ownBlock)))))))) HO_321000.out (fun _ hk => ⟨hk.1.1, ⟨hk.1.2.1, ⟨hk.1.2.2.1, ⟨hk.1.2.2.2.1, ⟨hk.1.2.2.2.2.1, ⟨hk.1.2.2.2.2.2.1, ⟨hk.1.2.2.2.2.2.2.1, hk.1.2.2.2.2.2.2.2⟩⟩⟩⟩⟩⟩⟩)); clear HO_321000; have HO_321000 := n_; clear n_; have n_ := Aside0.mk (Kd.S_mono (ok' := fun k_ => (some k_ ≠ (v307 : Value).ownBlock ∧ (some k_ ≠ (.slice Ao51 t321.length co51 : Value).ownBlock ∧ (some k_ ≠ (.slice Ao52 t324.length co52 : Value).ownBlock ∧ (some k_ ≠ (v332 : Value).ownBlock ∧ (some k_ ≠ (.slice Ao38 t303.length co38 : Value).ownBlock ∧ (some k_ ≠ (.slice Ao42 t310.length co42 : Value).ownBlock ∧ (some k_ ≠ (.slice Ao47 t316.length co47 : Value).ownBlock ∧ some k_ ≠ (.slice Ao59 t328.length co59 : Value).ownBlock)))))))) HO_321001.out (fun _ hk => ⟨hk.1.1, ⟨hk.1.2.1, ⟨hk.1.2.2.1, ⟨hk.1.2.2.2.1, ⟨hk.1.2.2.2.2.1, ⟨hk.1.2.2.2.2.2.1, ⟨hk.1.2.2.2.2.2.2.1, hk.1.2.2.2.2.2.2.2⟩⟩⟩⟩⟩⟩⟩)); clear HO_321001; have HO_321001 := n_; clear n_; have n_ := Aside0.mk (Kd.S_mono (ok' := fun k_ => (some k_ ≠ (v307 : Value).ownBlock ∧ (some k_ ≠ (.slice Ao51 t321.length co51 : Value).ownBlock ∧ (some k_ ≠ (.slice Ao52 t324.length co52 : Value).ownBlock ∧ (some k_ ≠ (v332 : Value).ownBlock ∧ (some k_ ≠ (.slice Ao38 t303.length co38 : Value).ownBlock ∧ (some k_ ≠ (.slice Ao42 t310.length co42 : Value).ownBlock ∧ (some k_ ≠ (.slice Ao46 t313.length co46 : Value).ownBlock ∧ some k_ ≠ (.slice Ao59 t328.length co59 : Value).ownBlock)))))))) HO_321002.out (fun _ hk => ⟨hk.1.1, ⟨hk.1.2.1, ⟨hk.1.2.2.1, ⟨hk.1.2.2.2.1, ⟨hk.1.2.2.2.2.1, ⟨hk.1.2.2.2.2.2.1, ⟨hk.1.2.2.2.2.2.2.1, hk.1.2.2.2.2.2.2.2⟩⟩⟩⟩⟩⟩⟩)); clear HO_321002; have HO_321002 := n_; clear n_; have n_ := Aside0.mk (Kd.R_mono (ok' := fun k_ => (some k_ ≠ (v307 : Value).ownBlock ∧ (some k_ ≠ (.slice Ao51 t321.length co51 : Value).ownBlock ∧ (some k_ ≠ (.slice Ao52 t324.length co52 : Value).ownBlock ∧ (some k_ ≠ (v332 : Value).ownBlock ∧ some k_ ≠ (.slice Ao38 t303.length co38 : Value).ownBlock))))) HO_335001.out (fun _ hk => ⟨hk.1.1, ⟨hk.1.2.1, ⟨hk.1.2.2.1, ⟨hk.1.2.2.2.1, hk.1.2.2.2.2⟩⟩⟩⟩)); clear HO_335001; have HO_335001 := n_; clear n_; have hnb105 := NB320_284.out; have hnc105 := NB284_320.out; have hnb106 := NB320_309.out; have hnc106 := NB309_320.out; have hnb107 := NB320_334.out; have hnc107 := NB334_320.out; have hcz108_0 : w103.cell? ⟨gb320, 0, none⟩ = some (.slice Ao42 t310.length co42) := (blk_cell BK320.out 0).trans rfl; have hcz108_1 : w103.cell? ⟨gb320, 1, none⟩ = some (.slice Ao46 t313.length co46) := (blk_cell BK320.out 1).trans rfl; have hcz108_2 : w103.cell? ⟨gb320, 2, none⟩ = some (.slice Ao47 t316.length co47) := (blk_cell BK320.out 2).trans rfl; have hcz108_3 : w103.cell? ⟨gb320, 3, none⟩ = some (.bool t319) := (blk_cell BK320.out 3).trans rfl; have hfz108_0 := blk_frozen BK320.out 0; have hfz108_1 := blk_frozen BK320.out 1; have hfz108_2 := blk_frozen BK320.out 2; have hfz108_3 := blk_frozen BK320.out 3) | ((with_reducible refine gate_callee (f := 33) rfl ?_); refine goesL_ (some 81) rfl rfl Try.func33 (by kernel_rfl) rfl #[.agg #[.slice Ao42 t310.length co42, .slice Ao46 t313.length co46, .slice Ao47 t316.length co47, .bool t319], .int .i64 1] rfl (by (try simp only [List.map_toArray, List.map_cons, List.map_nil]); first | done | rfl | (simp only [List.length_drop, List.length_take]; rfl)) ?_; (with_reducible refine (laws_markRowRow.calls (fun k_ => ((some k_ ≠ (v307 : Value).ownBlock ∧ (some k_ ≠ (.slice Ao51 t321.length co51 : Value).ownBlock ∧ (some k_ ≠ (.slice Ao52 t324.length co52 : Value).ownBlock ∧ (some k_ ≠ (v332 : Value).ownBlock ∧ (some k_ ≠ (.slice Ao38 t303.length co38 : Value).ownBlock ∧ (some k_ ≠ (.slice Ao46 t313.length co46 : Value).ownBlock ∧ (some k_ ≠ (.slice Ao47 t316.length co47 : Value).ownBlock ∧ some k_ ≠ (.slice Ao59 t328.length co59 : Value).ownBlock)))))))) ∧ w.heap.size ≤ k_ ∧ k_ < w103.heap.size ∧ ∃ q_, q_ ∈ 26 :: (k26).E ∧ ∃ cells_, w103.heap[k_]? = some (.cells cells_ q_ (0, 0))) (.slice Ao42 t310.length co42) t310 (fun k_ => ((some k_ ≠ (v307 : Value).ownBlock ∧ (some k_ ≠ (.slice Ao51 t321.length co51 : Value).ownBlock ∧ (some k_ ≠ (.slice Ao52 t324.length co52 : Value).ownBlock ∧ (some k_ ≠ (v332 : Value).ownBlock ∧ (some k_ ≠ (.slice Ao38 t303.length co38 : Value).ownBlock ∧ (some k_ ≠ (.slice Ao42 t310.length co42 : Value).ownBlock ∧ (some k_ ≠ (.slice Ao47 t316.length co47 : Value).ownBlock ∧ some k_ ≠ (.slice Ao59 t328.length co59 : Value).ownBlock)))))))) ∧ w.heap.size ≤ k_ ∧ k_ < w103.heap.size ∧ ∃ q_, q_ ∈ 26 :: (k26).E ∧ ∃ cells_, w103.heap[k_]? = some (.cells cells_ q_ (0, 0))) (.slice Ao46 t313.length co46) t313 (fun k_ => ((some k_ ≠ (v307 : Value).ownBlock ∧ (some k_ ≠ (.slice Ao51 t321.length co51 : Value).ownBlock ∧ (some k_ ≠ (.slice Ao52 t324.length co52 : Value).ownBlock ∧ (some k_ ≠ (v332 : Value).ownBlock ∧ (some k_ ≠ (.slice Ao38 t303.length co38 : Value).ownBlock ∧ (some k_ ≠ (.slice Ao42 t310.length co42 : Value).ownBlock ∧ (some k_ ≠ (.slice Ao46 t313.length co46 : Value).ownBlock ∧ some k_ ≠ (.slice Ao59 t328.length co59 : Value).ownBlock)))))))) ∧ w.heap.size ≤ k_ ∧ k_ < w103.heap.size ∧ ∃ q_, q_ ∈ 26 :: (k26).E ∧ ∃ cells_, w103.heap[k_]? = some (.cells cells_ q_ (0, 0))) (.slice Ao47 t316.length co47) t316 t319 1 t356 w _ ?side1 ?side2 ?side3 ?side4 A91.out).mono ?_); (case side1 => repeat (first | (with_reducible first | exact HB.out | apply below_alloc | apply pw_below_drewN | apply below_drew1 | refine below_set ?_ (by first | exact GE284.out | exact GE309.out | exact GE320.out | exact GE334.out)) | exact HB.out)); (case side2 => exact lS (Kd.S_bound (HO_321000.out))); (case side3 => exact lS (Kd.S_bound (HO_321001.out))); (case side4 => exact lS (Kd.S_bound (HO_321002.out))); rintro e w109 ⟨rfl, hb, hkp⟩; refine ⟨_, rfl, ?_⟩; have n0_ := Aside0.mk (Kd.R_mono (ok' := fun k_ => some k_ ≠ (.slice Ao51 t321.length co51 : Value).ownBlock ∧ some k_ ≠ (.slice Ao52 t324.length co52 : Value).ownBlock ∧ some k_ ≠ (v332 : Value).ownBlock ∧ some k_ ≠ (.slice Ao38 t303.length co38 : Value).ownBlock ∧ some k_ ≠ (.slice Ao59 t328.length co59 : Value).ownBlock) (R_marked (ok := fun k_ => (some k_ ≠ (.slice Ao51 t321.length co51 : Value).ownBlock ∧ (some k_ ≠ (.slice Ao52 t324.length co52 : Value).ownBlock ∧ (some k_ ≠ (v332 : Value).ownBlock ∧ (some k_ ≠ (.slice Ao38 t303.length co38 : Value).ownBlock ∧ some k_ ≠ (.slice Ao59 t328.length co59 : Value).ownBlock))))) (by exact lR HO_9.out) hkp (fun k_ e_ hp_ => Or.elim hp_ (fun q_ => (q_.1.1) e_.symm) (fun q_ => Or.elim q_ (fun q_ => (q_.1.1) e_.symm) (fun q_ => (q_.1.1) e_.symm)))) (fun k_ hk_ => ⟨hk_.1, hk_.2.1, hk_.2.2.1, hk_.2.2.2.1, hk_.2.2.2.2⟩)); have n1_ := Aside0.mk (Kd.R_mono (ok' := fun k_ => some k_ ≠ (v307 : Value).ownBlock ∧ some k_ ≠ (.slice Ao52 t324.length co52 : Value).ownBlock ∧ some k_ ≠ (v332 : Value).ownBlock ∧ some k_ ≠ (.slice Ao38 t303.length co38 : Value).ownBlock ∧ some k_ ≠ (.slice Ao59 t328.length co59 : Value).ownBlock) (R_marked (ok := fun k_ => (some k_ ≠ (v307 : Value).ownBlock ∧ (some k_ ≠ (.slice Ao52 t324.length co52 : Value).ownBlock ∧ (some k_ ≠ (v332 : Value).ownBlock ∧ (some k_ ≠ (.slice Ao38 t303.length co38 : Value).ownBlock ∧ some k_ ≠ (.slice Ao59 t328.length co59 : Value).ownBlock))))) (by exact lR HO_11.out) hkp (fun k_ e_ hp_ => Or.elim hp_ (fun q_ => (q_.1.2.1) e_.symm) (fun q_ => Or.elim q_ (fun q_ => (q_.1.2.1) e_.symm) (fun q_ => (q_.1.2.1) e_.symm)))) (fun k_ hk_ => ⟨hk_.1, hk_.2.1, hk_.2.2.1, hk_.2.2.2.1, hk_.2.2.2.2⟩)); have n2_ := Aside0.mk (Kd.R_mono (ok' := fun k_ => some k_ ≠ (v307 : Value).ownBlock ∧ some k_ ≠ (.slice Ao51 t321.length co51 : Value).ownBlock ∧ some k_ ≠ (v332 : Value).ownBlock ∧ some k_ ≠ (.slice Ao38 t303.length co38 : Value).ownBlock ∧ some k_ ≠ (.slice Ao59 t328.length co59 : Value).ownBlock) (R_marked (ok := fun k_ => (some k_ ≠ (v307 : Value).ownBlock ∧ (some k_ ≠ (.slice Ao51 t321.length co51 : Value).ownBlock ∧ (some k_ ≠ (v332 : Value).ownBlock ∧ (some k_ ≠ (.slice Ao38 t303.length co38 : Value).ownBlock ∧ some k_ ≠ (.slice Ao59 t328.length co59 : Value).ownBlock))))) (by exact lR HO_12.out) hkp (fun k_ e_ hp_ => Or.elim hp_ (fun q_ => (q_.1.2.2.1) e_.symm) (fun q_ => Or.elim q_ (fun q_ => (q_.1.2.2.1) e_.symm) (fun q_ => (q_.1.2.2.1) e_.symm)))) (fun k_ hk_ => ⟨hk_.1, hk_.2.1, hk_.2.2.1, hk_.2.2.2.1, hk_.2.2.2.2⟩)); have n3_ := Aside0.mk (Kd.R_mono (ok' := fun k_ => some k_ ≠ (v307 : Value).ownBlock ∧ some k_ ≠ (.slice Ao51 t321.length co51 : Value).ownBlock ∧ some k_ ≠ (.slice Ao52 t324.length co52 : Value).ownBlock ∧ some k_ ≠ (.slice Ao38 t303.length co38 : Value).ownBlock ∧ some k_ ≠ (.slice Ao59 t328.length co59 : Value).ownBlock) (R_marked (ok := fun k_ => (some k_ ≠ (v307 : Value).ownBlock ∧ (some k_ ≠ (.slice Ao51 t321.length co51 : Value).ownBlock ∧ (some k_ ≠ (.slice Ao52 t324.length co52 : Value).ownBlock ∧ (some k_ ≠ (.slice Ao38 t303.length co38 : Value).ownBlock ∧ some k_ ≠ (.slice Ao59 t328.length co59 : Value).ownBlock))))) (by exact lR HO_14.out) hkp (fun k_ e_ hp_ => Or.elim hp_ (fun q_ => (q_.1.2.2.2.1) e_.symm) (fun q_ => Or.elim q_ (fun q_ => (q_.1.2.2.2.1) e_.symm) (fun q_ => (q_.1.2.2.2.1) e_.symm)))) (fun k_ hk_ => ⟨hk_.1, hk_.2.1, hk_.2.2.1, hk_.2.2.2.1, hk_.2.2.2.2⟩)); have n4_ := Aside0.mk (Kd.R_mono (ok' := fun k_ => some k_ ≠ (v307 : Value).ownBlock ∧ some k_ ≠ (.slice Ao51 t321.length co51 : Value).ownBlock ∧ some k_ ≠ (.slice Ao52 t324.length co52 : Value).ownBlock ∧ some k_ ≠ (v332 : Value).ownBlock ∧ some k_ ≠ (.slice Ao59 t328.length co59 : Value).ownBlock) (R_marked (ok := fun k_ => (some k_ ≠ (v307 : Value).ownBlock ∧ (some k_ ≠ (.slice Ao51 t321.length co51 : Value).ownBlock ∧ (some k_ ≠ (.slice Ao52 t324.length co52 : Value).ownBlock ∧ (some k_ ≠ (v332 : Value).ownBlock ∧ some k_ ≠ (.slice Ao59 t328.length co59 : Value).ownBlock))))) (by exact lR HO_310001.out) hkp (fun k_ e_ hp_ => Or.elim hp_ (fun q_ => (q_.1.2.2.2.2.1) e_.symm) (fun q_ => Or.elim q_ (fun q_ => (q_.1.2.2.2.2.1) e_.symm) (fun q_ => (q_.1.2.2.2.2.1) e_.symm)))) (fun k_ hk_ => ⟨hk_.1, hk_.2.1, hk_.2.2.1, hk_.2.2.2.1, hk_.2.2.2.2⟩)); have n5_ := Aside0.mk (Kd.R_mono (ok' := fun k_ => some k_ ≠ (v307 : Value).ownBlock ∧ some k_ ≠ (.slice Ao51 t321.length co51 : Value).ownBlock ∧ some k_ ≠ (.slice Ao52 t324.length co52 : Value).ownBlock ∧ some k_ ≠ (v332 : Value).ownBlock ∧ some k_ ≠ (.slice Ao38 t303.length co38 : Value).ownBlock) (R_marked (ok := fun k_ => (some k_ ≠ (v307 : Value).ownBlock ∧ (some k_ ≠ (.slice Ao51 t321.length co51 : Value).ownBlock ∧ (some k_ ≠ (.slice Ao52 t324.length co52 : Value).ownBlock ∧ (some k_ ≠ (v332 : Value).ownBlock ∧ some k_ ≠ (.slice Ao38 t303.length co38 : Value).ownBlock))))) (by exact lR HO_335001.out) hkp (fun k_ e_ hp_ => Or.elim hp_ (fun q_ => (q_.1.2.2.2.2.2.2.2) e_.symm) (fun q_ => Or.elim q_ (fun q_ => (q_.1.2.2.2.2.2.2.2) e_.symm) (fun q_ => (q_.1.2.2.2.2.2.2.2) e_.symm)))) (fun k_ hk_ => ⟨hk_.1, hk_.2.1, hk_.2.2.1, hk_.2.2.2.1, hk_.2.2.2.2⟩)); have n6_ := Aside0.mk (blk_kept (by exact lK BK284.out) hkp (fun hs_ => Or.elim hs_ (fun e_ => (fun e_ => nest_ne e_.2.2.2 (by exact lK BK284.out) (by decide)) e_) (fun e_ => Or.elim e_ (fun e_ => (fun e_ => nest_ne e_.2.2.2 (by exact lK BK284.out) (by decide)) e_) (fun e_ => (fun e_ => nest_ne e_.2.2.2 (by exact lK BK284.out) (by decide)) e_)))); have n7_ := Aside0.mk (blk_kept (by exact lK BK309.out) hkp (fun hs_ => Or.elim hs_ (fun e_ => (fun e_ => nest_ne e_.2.2.2 (by exact lK BK309.out) (by decide)) e_) (fun e_ => Or.elim e_ (fun e_ => (fun e_ => nest_ne e_.2.2.2 (by exact lK BK309.out) (by decide)) e_) (fun e_ => (fun e_ => nest_ne e_.2.2.2 (by exact lK BK309.out) (by decide)) e_)))); have n8_ := Aside0.mk (blk_kept (by exact lK BK320.out) hkp (fun hs_ => Or.elim hs_ (fun e_ => (fun e_ => nest_ne e_.2.2.2 (by exact lK BK320.out) (by decide)) e_) (fun e_ => Or.elim e_ (fun e_ => (fun e_ => nest_ne e_.2.2.2 (by exact lK BK320.out) (by decide)) e_) (fun e_ => (fun e_ => nest_ne e_.2.2.2 (by exact lK BK320.out) (by decide)) e_)))); have n9_ := Aside0.mk (blk_kept (by exact lK BK334.out) hkp (fun hs_ => Or.elim hs_ (fun e_ => (fun e_ => nest_ne e_.2.2.2 (by exact lK BK334.out) (by decide)) e_) (fun e_ => Or.elim e_ (fun e_ => (fun e_ => nest_ne e_.2.2.2 (by exact lK BK334.out) (by decide)) e_) (fun e_ => (fun e_ => nest_ne e_.2.2.2 (by exact lK BK334.out) (by decide)) e_)))); have n10_ := Aside0.mk (hb); clear HO_9; clear HO_11; clear HO_12; clear HO_14; clear HO_310001; clear HO_335001; clear BK284; clear BK309; clear BK320; clear BK334; clear HB; clear HO_321000; clear HO_321001; clear HO_321002; have HO_9 := n0_; have HO_11 := n1_; have HO_12 := n2_; have HO_14 := n3_; have HO_310001 := n4_; have HO_335001 := n5_; have BK284 := n6_; have BK309 := n7_; have BK320 := n8_; have BK334 := n9_; have HB := n10_; clear n0_ n1_ n2_ n3_ n4_ n5_ n6_ n7_ n8_ n9_ n10_; (try clear hb); (try clear hkp)) | ((with_reducible refine gate_callee (f := 34) rfl ?_); refine goesL_ (some 84) rfl rfl Try.func34 (by kernel_rfl) rfl #[.slice Ao51 t321.length co51, .int .i64 t356] rfl (by (try simp only [List.map_toArray, List.map_cons, List.map_nil]); first | done | rfl | (simp only [List.length_drop, List.length_take]; rfl)) ?_; (with_reducible refine (laws_markIntS.calls kj20 (fun k_ => some k_ = (.slice Ao51 t321.length co51 : Value).ownBlock) (.slice Ao51 t321.length co51) t321 t356 t357 t358 w _ ?side1 ?side2 A92.out).mono ?_); (case side1 => repeat (first | (with_reducible first | exact HB.out | apply below_alloc | apply pw_below_drewN | apply below_drew1 | refine below_set ?_ (by first | exact GE284.out | exact GE309.out | exact GE320.out | exact GE334.out)) | exact HB.out)); (case side2 => exact Kd.R_tight rfl HO_11.out); rintro e w110 ⟨rfl, hy0, hb, hkp⟩; refine ⟨_, rfl, ?_⟩; have n0_ := Aside0.mk (Kd.R_mono (ok' := fun k_ => some k_ ≠ (.slice Ao51 t321.length co51 : Value).ownBlock ∧ some k_ ≠ (.slice Ao52 t324.length co52 : Value).ownBlock ∧ some k_ ≠ (v332 : Value).ownBlock ∧ some k_ ≠ (.slice Ao38 t303.length co38 : Value).ownBlock ∧ some k_ ≠ (.slice Ao59 t328.length co59 : Value).ownBlock) (Kd.R_keptB (HO_9.out) hkp (fun k_ hk_ hs_ => (hk_.1) hs_)) (fun k_ hk_ => ⟨hk_.1.1, hk_.1.2.1, hk_.1.2.2.1, hk_.1.2.2.2.1, hk_.1.2.2.2.2⟩)); have n1_ := Aside0.mk (Kd.R_reok rfl hy0 (fun k_ e_ => HO_11.out.1 k_ e_)); have n2_ := Aside0.mk (Kd.R_mono (ok' := fun k_ => some k_ ≠ (v307 : Value).ownBlock ∧ some k_ ≠ (.slice Ao51 t321.length co51 : Value).ownBlock ∧ some k_ ≠ (v332 : Value).ownBlock ∧ some k_ ≠ (.slice Ao38 t303.length co38 : Value).ownBlock ∧ some k_ ≠ (.slice Ao59 t328.length co59 : Value).ownBlock) (Kd.R_keptB (HO_12.out) hkp (fun k_ hk_ hs_ => (hk_.2.1) hs_)) (fun k_ hk_ => ⟨hk_.1.1, hk_.1.2.1, hk_.1.2.2.1, hk_.1.2.2.2.1, hk_.1.2.2.2.2⟩)); have n3_ := Aside0.mk (Kd.R_mono (ok' := fun k_ => some k_ ≠ (v307 : Value).ownBlock ∧ some k_ ≠ (.slice Ao51 t321.length co51 : Value).ownBlock ∧ some k_ ≠ (.slice Ao52 t324.length co52 : Value).ownBlock ∧ some k_ ≠ (.slice Ao38 t303.length co38 : Value).ownBlock ∧ some k_ ≠ (.slice Ao59 t328.length co59 : Value).ownBlock) (Kd.R_keptB (HO_14.out) hkp (fun k_ hk_ hs_ => (hk_.2.1) hs_)) (fun k_ hk_ => ⟨hk_.1.1, hk_.1.2.1, hk_.1.2.2.1, hk_.1.2.2.2.1, hk_.1.2.2.2.2⟩)); have n4_ := Aside0.mk (Kd.R_mono (ok' := fun k_ => some k_ ≠ (v307 : Value).ownBlock ∧ some k_ ≠ (.slice Ao51 t321.length co51 : Value).ownBlock ∧ some k_ ≠ (.slice Ao52 t324.length co52 : Value).ownBlock ∧ some k_ ≠ (v332 : Value).ownBlock ∧ some k_ ≠ (.slice Ao59 t328.length co59 : Value).ownBlock) (Kd.R_keptB (HO_310001.out) hkp (fun k_ hk_ hs_ => (hk_.2.1) hs_)) (fun k_ hk_ => ⟨hk_.1.1, hk_.1.2.1, hk_.1.2.2.1, hk_.1.2.2.2.1, hk_.1.2.2.2.2⟩)); have n5_ := Aside0.mk (Kd.R_mono (ok' := fun k_ => some k_ ≠ (v307 : Value).ownBlock ∧ some k_ ≠ (.slice Ao51 t321.length co51 : Value).ownBlock ∧ some k_ ≠ (.slice Ao52 t324.length co52 : Value).ownBlock ∧ some k_ ≠ (v332 : Value).ownBlock ∧ some k_ ≠ (.slice Ao38 t303.length co38 : Value).ownBlock) (Kd.R_keptB (HO_335001.out) hkp (fun k_ hk_ hs_ => (hk_.2.1) hs_)) (fun k_ hk_ => ⟨hk_.1.1, hk_.1.2.1, hk_.1.2.2.1, hk_.1.2.2.2.1, hk_.1.2.2.2.2⟩)); have n6_ := Aside0.mk (blk_kept (by exact lK BK284.out) hkp (fun hs_ => (fun e_ => (Kd.R_ne HO_11.out BK284.out (by decide)) e_) hs_)); have n7_ := Aside0.mk (blk_kept (by exact lK BK309.out) hkp (fun hs_ => (fun e_ => (Kd.R_ne HO_11.out BK309.out (by decide)) e_) hs_)); have n8_ := Aside0.mk (blk_kept (by exact lK BK320.out) hkp (fun hs_ => (fun e_ => (Kd.R_ne HO_11.out BK320.out (by decide)) e_) hs_)); have n9_ := Aside0.mk (blk_kept (by exact lK BK334.out) hkp (fun hs_ => (fun e_ => (Kd.R_ne HO_11.out BK334.out (by decide)) e_) hs_)); have n10_ := Aside0.mk (hb); clear HO_9; clear HO_11; clear HO_12; clear HO_14; clear HO_310001; clear HO_335001; clear BK284; clear BK309; clear BK320; clear BK334; clear HB; have HO_9 := n0_; have HO_11 := n1_; have HO_12 := n2_; have HO_14 := n3_; have HO_310001 := n4_; have HO_335001 := n5_; have BK284 := n6_; have BK309 := n7_; have BK320 := n8_; have BK334 := n9_; have HB := n10_; clear n0_ n1_ n2_ n3_ n4_ n5_ n6_ n7_ n8_ n9_ n10_; (try clear hb); (try clear hkp); (try clear hy0); have n_ := Aside0.mk (Kd.R_mono (ok' := fun k_ => (some k_ ≠ (.slice Ao52 t324.length co52 : Value).ownBlock ∧ (some k_ ≠ (v332 : Value).ownBlock ∧ (some k_ ≠ (.slice Ao38 t303.length co38 : Value).ownBlock ∧ some k_ ≠ (.slice Ao59 t328.length co59 : Value).ownBlock)))) HO_9.out (fun _ hk => ⟨hk.2.1, ⟨hk.2.2.1, ⟨hk.2.2.2.1, hk.2.2.2.2⟩⟩⟩)); clear HO_9; have HO_9 := n_; clear n_; have n_ := Aside0.mk (Kd.R_mono (ok' := fun k_ => (some k_ ≠ (v307 : Value).ownBlock ∧ (some k_ ≠ (v332 : Value).ownBlock ∧ (some k_ ≠ (.slice Ao38 t303.length co38 : Value).ownBlock ∧ some k_ ≠ (.slice Ao59 t328.length co59 : Value).ownBlock)))) HO_12.out (fun _ hk => ⟨hk.1, ⟨hk.2.2.1, ⟨hk.2.2.2.1, hk.2.2.2.2⟩⟩⟩)); clear HO_12; have HO_12 := n_; clear n_; have n_ := Aside0.mk (Kd.R_mono (ok' := fun k_ => (some k_ ≠ (v307 : Value).ownBlock ∧ (some k_ ≠ (.slice Ao52 t324.length co52 : Value).ownBlock ∧ (some k_ ≠ (.slice Ao38 t303.length co38 : Value).ownBlock ∧ some k_ ≠ (.slice Ao59 t328.length co59 : Value).ownBlock)))) HO_14.out (fun _ hk => ⟨hk.1, ⟨hk.2.2.1, ⟨hk.2.2.2.1, hk.2.2.2.2⟩⟩⟩)); clear HO_14; have HO_14 := n_; clear n_; have n_ := Aside0.mk (Kd.R_mono (ok' := fun k_ => (some k_ ≠ (v307 : Value).ownBlock ∧ (some k_ ≠ (.slice Ao52 t324.length co52 : Value).ownBlock ∧ (some k_ ≠ (v332 : Value).ownBlock ∧ some k_ ≠ (.slice Ao59 t328.length co59 : Value).ownBlock)))) HO_310001.out (fun _ hk => ⟨hk.1, ⟨hk.2.2.1, ⟨hk.2.2.2.1, hk.2.2.2.2⟩⟩⟩)); clear HO_310001; have HO_310001 := n_; clear n_; have n_ := Aside0.mk (Kd.R_mono (ok' := fun k_ => (some k_ ≠ (v307 : Value).ownBlock ∧ (some k_ ≠ (.slice Ao52 t324.length co52 : Value).ownBlock ∧ (some k_ ≠ (v332 : Value).ownBlock ∧ some k_ ≠ (.slice Ao38 t303.length co38 : Value).ownBlock)))) HO_335001.out (fun _ hk => ⟨hk.1, ⟨hk.2.2.1, ⟨hk.2.2.2.1, hk.2.2.2.2⟩⟩⟩)); clear HO_335001; have HO_335001 := n_; clear n_) | ((with_reducible refine gate_callee (f := 34) rfl ?_); refine goesL_ (some 87) rfl rfl Try.func34 (by kernel_rfl) rfl #[.slice Ao52 t324.length co52, .int .i64 t357] rfl (by (try simp only [List.map_toArray, List.map_cons, List.map_nil]); first | done | rfl | (simp only [List.length_drop, List.length_take]; rfl)) ?_; (with_reducible refine (laws_markIntS.calls kj20 (fun k_ => some k_ = (.slice Ao52 t324.length co52 : Value).ownBlock) (.slice Ao52 t324.length co52) t324 t357 t359 t360 w _ ?side1 ?side2 A93.out).mono ?_); (case side1 => repeat (first | (with_reducible first | exact HB.out | apply below_alloc | apply pw_below_drewN | apply below_drew1 | refine below_set ?_ (by first | exact GE284.out | exact GE309.out | exact GE320.out | exact GE334.out)) | exact HB.out)); (case side2 => exact Kd.R_tight rfl HO_12.out); rintro e w111 ⟨rfl, hy0, hb, hkp⟩; refine ⟨_, rfl, ?_⟩; have n0_ := Aside0.mk (Kd.R_mono (ok' := fun k_ => some k_ ≠ (.slice Ao52 t324.length co52 : Value).ownBlock ∧ some k_ ≠ (v332 : Value).ownBlock ∧ some k_ ≠ (.slice Ao38 t303.length co38 : Value).ownBlock ∧ some k_ ≠ (.slice Ao59 t328.length co59 : Value).ownBlock) (Kd.R_keptB (HO_9.out) hkp (fun k_ hk_ hs_ => (hk_.1) hs_)) (fun k_ hk_ => ⟨hk_.1.1, hk_.1.2.1, hk_.1.2.2.1, hk_.1.2.2.2⟩)); have n1_ := Aside0.mk (Kd.R_reok rfl hy0 (fun k_ e_ => HO_12.out.1 k_ e_)); have n2_ := Aside0.mk (Kd.R_mono (ok' := fun k_ => some k_ ≠ (v307 : Value).ownBlock ∧ some k_ ≠ (.slice Ao52 t324.length co52 : Value).ownBlock ∧ some k_ ≠ (.slice Ao38 t303.length co38 : Value).ownBlock ∧ some k_ ≠ (.slice Ao59 t328.length co59 : Value).ownBlock) (Kd.R_keptB (HO_14.out) hkp (fun k_ hk_ hs_ => (hk_.2.1) hs_)) (fun k_ hk_ => ⟨hk_.1.1, hk_.1.2.1, hk_.1.2.2.1, hk_.1.2.2.2⟩)); have n3_ := Aside0.mk (Kd.R_mono (ok' := fun k_ => some k_ ≠ (v307 : Value).ownBlock ∧ some k_ ≠ (.slice Ao52 t324.length co52 : Value).ownBlock ∧ some k_ ≠ (v332 : Value).ownBlock ∧ some k_ ≠ (.slice Ao59 t328.length co59 : Value).ownBlock) (Kd.R_keptB (HO_310001.out) hkp (fun k_ hk_ hs_ => (hk_.2.1) hs_)) (fun k_ hk_ => ⟨hk_.1.1, hk_.1.2.1, hk_.1.2.2.1, hk_.1.2.2.2⟩)); have n4_ := Aside0.mk (Kd.R_mono (ok' := fun k_ => some k_ ≠ (v307 : Value).ownBlock ∧ some k_ ≠ (.slice Ao52 t324.length co52 : Value).ownBlock ∧ some k_ ≠ (v332 : Value).ownBlock ∧ some k_ ≠ (.slice Ao38 t303.length co38 : Value).ownBlock) (Kd.R_keptB (HO_335001.out) hkp (fun k_ hk_ hs_ => (hk_.2.1) hs_)) (fun k_ hk_ => ⟨hk_.1.1, hk_.1.2.1, hk_.1.2.2.1, hk_.1.2.2.2⟩)); have n5_ := Aside0.mk (blk_kept (by exact lK BK284.out) hkp (fun hs_ => (fun e_ => (Kd.R_ne HO_12.out BK284.out (by decide)) e_) hs_)); have n6_ := Aside0.mk (blk_kept (by exact lK BK309.out) hkp (fun hs_ => (fun e_ => (Kd.R_ne HO_12.out BK309.out (by decide)) e_) hs_)); have n7_ := Aside0.mk (blk_kept (by exact lK BK320.out) hkp (fun hs_ => (fun e_ => (Kd.R_ne HO_12.out BK320.out (by decide)) e_) hs_)); have n8_ := Aside0.mk (blk_kept (by exact lK BK334.out) hkp (fun hs_ => (fun e_ => (Kd.R_ne HO_12.out BK334.out (by decide)) e_) hs_)); have n9_ := Aside0.mk (hb); clear HO_9; clear HO_12; clear HO_14; clear HO_310001; clear HO_335001; clear BK284; clear BK309; clear BK320; clear BK334; clear HB; have HO_9 := n0_; have HO_12 := n1_; have HO_14 := n2_; have HO_310001 := n3_; have HO_335001 := n4_; have BK284 := n5_; have BK309 := n6_; have BK320 := n7_; have BK334 := n8_; have HB := n9_; clear n0_ n1_ n2_ n3_ n4_ n5_ n6_ n7_ n8_ n9_; (try clear hb); (try clear hkp); (try clear hy0)))
                    (try simp only [Act.put, List.setIfInBounds_toArray, List.set_cons_zero, List.set_cons_succ])
                    go_cut [101] (fun v101 wc => ∃ (kq : Nat) (x101_93 : Bool), v101 = .bool x101_93 ∧ Aside0 (laws_FnExactRowDo.j1 kq l1 l2 t306 t331 x101_93 l0_0 l0_1 l0_2 a0_3 t302 t303 t327 t328 = some r) ∧ Aside0 (kq ≤ kj20) ∧ Aside0 (Kd.R (Kd.int .i64) 3 wc w.heap.size (fun k_ => some k_ ≠ (v332 : Value).ownBlock ∧ some k_ ≠ ((.slice Ao38 t303.length co38) : Value).ownBlock ∧ some k_ ≠ ((.slice Ao59 t328.length co59) : Value).ownBlock) v307 t306) ∧ Aside0 (Kd.R (Kd.int .i64) 3 wc w.heap.size (fun k_ => some k_ ≠ (v307 : Value).ownBlock ∧ some k_ ≠ ((.slice Ao38 t303.length co38) : Value).ownBlock ∧ some k_ ≠ ((.slice Ao59 t328.length co59) : Value).ownBlock) v332 t331) ∧ Aside0 (Kd.R (Kd.int .i64) 3 wc w.heap.size (fun k_ => some k_ ≠ (v307 : Value).ownBlock ∧ some k_ ≠ (v332 : Value).ownBlock ∧ some k_ ≠ ((.slice Ao59 t328.length co59) : Value).ownBlock) (.slice Ao38 t303.length co38) t303) ∧ Aside0 (Kd.R (Kd.int .i64) 3 wc w.heap.size (fun k_ => some k_ ≠ (v307 : Value).ownBlock ∧ some k_ ≠ (v332 : Value).ownBlock ∧ some k_ ≠ ((.slice Ao38 t303.length co38) : Value).ownBlock) (.slice Ao59 t328.length co59) t328) ∧ Aside0 (wc.heap[gb284]? = some (.cells #[(.slice A0_0 l0_0.length c0_0), (.slice A0_1 l0_1.length c0_1), (.slice A0_2 l0_2.length c0_2), .bool a0_3] 41 (0, 0))) ∧ Aside0 (wc.heap[gb309]? = some (.cells #[.int .i64 t302, (.slice Ao38 t303.length co38)] 54 (0, 0))) ∧ Aside0 (wc.heap[gb334]? = some (.cells #[.int .i64 t327, (.slice Ao59 t328.length co59)] 54 (0, 0))) ∧ Aside0 (Below w.heap.size w wc))
                    case first =>
                      have H := HC94.out
                      clear HC94
                      by_cases c112 : t359 < 0
                      · rw [if_pos c112] at H
                        have c112b0 : decide (t359 < 0) = true := decide_eq_true c112
                        clear c112
                        (first | rw [c112b0] | (simp only [i64_w, i32_w]; rw [c112b0]) | skip)
                        have H' := Aside0.mk H
                        clear H
                        go_wp2
                        go_meet
                        case rel => exact ⟨_, (true), (by first | rfl | (simp; done) | (simp [*]; done)), H', ⟨by have := HJ20.out; first | omega | exact Nat.le_refl _⟩, ⟨by exact lR <| Kd.R_mono HO_9.out (fun _ hk => ⟨hk.2.1, ⟨hk.2.2.1, hk.2.2.2⟩⟩)⟩, ⟨by exact lR <| Kd.R_mono HO_14.out (fun _ hk => ⟨hk.1, ⟨hk.2.2.1, hk.2.2.2⟩⟩)⟩, ⟨by exact lR <| Kd.R_mono HO_310001.out (fun _ hk => ⟨hk.1, ⟨hk.2.2.1, hk.2.2.2⟩⟩)⟩, ⟨by exact lR <| Kd.R_mono HO_335001.out (fun _ hk => ⟨hk.1, ⟨hk.2.2.1, hk.2.2.2⟩⟩)⟩, ⟨by exact lK <| BK284.out⟩, ⟨by exact lK <| BK309.out⟩, ⟨by exact lK <| BK334.out⟩, ⟨by repeat (first | (with_reducible first | exact HB.out | apply below_alloc | apply pw_below_drewN | apply below_drew1 | refine below_set ?_ (by first | exact GE284.out | exact GE309.out | exact GE320.out | exact GE334.out)) | exact HB.out)⟩⟩
                      · rw [if_neg c112] at H
                        have c112b0 : decide (t359 < 0) = false := decide_eq_false c112
                        clear c112
                        (first | rw [c112b0] | (simp only [i64_w, i32_w]; rw [c112b0]) | skip)
                        replace H := Option.bind_eq_some_iff.mp H
                        obtain ⟨t361, A1130, H⟩ := H
                        replace H : (if t361 = true then ((laws_eqIntS.f kj20 t331 t306).bind fun t362 => (laws_FnExactRowDo.j1 kj20 l1 l2 t306 t331 (!t362) l0_0 l0_1 l0_2 a0_3 t302 t303 t327 t328)) else (laws_FnExactRowDo.j1 kj20 l1 l2 t306 t331 true l0_0 l0_1 l0_2 a0_3 t302 t303 t327 t328)) = some r := H
                        have A113 := Aside0.mk A1130
                        clear A1130
                        by_cases c114 : t361 = true
                        · subst c114
                          have H1 : ((laws_eqIntS.f kj20 t331 t306).bind fun t362 => (laws_FnExactRowDo.j1 kj20 l1 l2 t306 t331 (!t362) l0_0 l0_1 l0_2 a0_3 t302 t303 t327 t328)) = some r := by rw [if_pos rfl] at H; exact H
                          clear H
                          have H := H1
                          clear H1
                          replace H := Option.bind_eq_some_iff.mp H
                          obtain ⟨t362, A1150, H⟩ := H
                          replace H : (laws_FnExactRowDo.j1 kj20 l1 l2 t306 t331 (!t362) l0_0 l0_1 l0_2 a0_3 t302 t303 t327 t328) = some r := H
                          have A115 := Aside0.mk A1150
                          clear A1150
                          have H' := Aside0.mk H
                          clear H
                          have n_ := Aside0.mk (Kd.R_mono (ok' := fun k_ => (some k_ ≠ (v332 : Value).ownBlock ∧ (some k_ ≠ (.slice Ao38 t303.length co38 : Value).ownBlock ∧ some k_ ≠ (.slice Ao59 t328.length co59 : Value).ownBlock))) HO_9.out (fun _ hk => ⟨hk.2.1, ⟨hk.2.2.1, hk.2.2.2⟩⟩))
                          clear HO_9
                          have HO_9 := n_
                          clear n_
                          have n_ := Aside0.mk (Kd.R_mono (ok' := fun k_ => (some k_ ≠ (v307 : Value).ownBlock ∧ (some k_ ≠ (.slice Ao38 t303.length co38 : Value).ownBlock ∧ some k_ ≠ (.slice Ao59 t328.length co59 : Value).ownBlock))) HO_14.out (fun _ hk => ⟨hk.1, ⟨hk.2.2.1, hk.2.2.2⟩⟩))
                          clear HO_14
                          have HO_14 := n_
                          clear n_
                          have n_ := Aside0.mk (Kd.R_mono (ok' := fun k_ => (some k_ ≠ (v307 : Value).ownBlock ∧ (some k_ ≠ (v332 : Value).ownBlock ∧ some k_ ≠ (.slice Ao59 t328.length co59 : Value).ownBlock))) HO_310001.out (fun _ hk => ⟨hk.1, ⟨hk.2.2.1, hk.2.2.2⟩⟩))
                          clear HO_310001
                          have HO_310001 := n_
                          clear n_
                          have n_ := Aside0.mk (Kd.R_mono (ok' := fun k_ => (some k_ ≠ (v307 : Value).ownBlock ∧ (some k_ ≠ (v332 : Value).ownBlock ∧ some k_ ≠ (.slice Ao38 t303.length co38 : Value).ownBlock))) HO_335001.out (fun _ hk => ⟨hk.1, ⟨hk.2.2.1, hk.2.2.2⟩⟩))
                          clear HO_335001
                          have HO_335001 := n_
                          clear n_
                          have hnb116 := NB334_284.out
                          have hnc116 := NB284_334.out
                          have hnb117 := NB334_309.out
                          have hnc117 := NB309_334.out
                          have hnb118 := NB334_320.out
                          have hnc118 := NB320_334.out
                          have hcz119_0 : w111.cell? ⟨gb334, 0, none⟩ = some (.int .i64 t327) := (blk_cell BK334.out 0).trans rfl
                          have hcz119_1 : w111.cell? ⟨gb334, 1, none⟩ = some (.slice Ao59 t328.length co59) := (blk_cell BK334.out 1).trans rfl
                          have hfz119_0 := blk_frozen BK334.out 0
                          have hfz119_1 := blk_frozen BK334.out 1
                          have hnb120 := NB309_284.out
                          have hnc120 := NB284_309.out
                          have hnb121 := NB309_320.out
                          have hnc121 := NB320_309.out
                          have hcz122_0 : w111.cell? ⟨gb309, 0, none⟩ = some (.int .i64 t302) := (blk_cell BK309.out 0).trans rfl
                          have hcz122_1 : w111.cell? ⟨gb309, 1, none⟩ = some (.slice Ao38 t303.length co38) := (blk_cell BK309.out 1).trans rfl
                          have hfz122_0 := blk_frozen BK309.out 0
                          have hfz122_1 := blk_frozen BK309.out 1
                          go_wp2_with (first | (go_at_call 32; (with_reducible refine (laws_eqResResult.calls kj20 t327 _ _ t328 t302 _ _ t303 true _ ?side1 ?side2 ?side3 ?side4 A113.out).mono ?_); (case side1 => exact lC <| (Kd.R_reads' HO_335001.out).2.2); (case side2 => exact (Kd.R_reads' HO_335001.out).2.1); (case side3 => exact lC <| (Kd.R_reads' HO_310001.out).2.2); (case side4 => exact (Kd.R_reads' HO_310001.out).2.1); rintro e w123 ⟨rfl, hb⟩; have n0_ := Aside0.mk (Kd.R_below (by exact lR HO_9.out) hb); have n1_ := Aside0.mk (Kd.R_below (by exact lR HO_14.out) hb); have n2_ := Aside0.mk (Kd.R_below (by exact lR HO_310001.out) hb); have n3_ := Aside0.mk (Kd.R_below (by exact lR HO_335001.out) hb); have n4_ := Aside0.mk (blk_below (g := gb284) (o := .cells #[.slice A0_0 l0_0.length c0_0, .slice A0_1 l0_1.length c0_1, .slice A0_2 l0_2.length c0_2, .bool a0_3] 41 (0, 0)) (by exact lK BK284.out) hb); have n5_ := Aside0.mk (blk_below (g := gb309) (o := .cells #[.int .i64 t302, .slice Ao38 t303.length co38] 54 (0, 0)) (by exact lK BK309.out) hb); have n6_ := Aside0.mk (blk_below (g := gb320) (o := .cells #[.slice Ao42 t310.length co42, .slice Ao46 t313.length co46, .slice Ao47 t316.length co47, .bool t319] 45 (0, 0)) (by exact lK BK320.out) hb); have n7_ := Aside0.mk (blk_below (g := gb334) (o := .cells #[.int .i64 t327, .slice Ao59 t328.length co59] 54 (0, 0)) (by exact lK BK334.out) hb); have n8_ := Aside0.mk (below_step (by repeat (first | (with_reducible first | exact HB.out | apply below_alloc | apply pw_below_drewN | apply below_drew1 | refine below_set ?_ (by first | exact GE284.out | exact GE309.out | exact GE320.out | exact GE334.out)) | exact HB.out)) hb); clear HO_9; clear HO_14; clear HO_310001; clear HO_335001; clear BK284; clear BK309; clear BK320; clear BK334; clear HB; have HO_9 := n0_; have HO_14 := n1_; have HO_310001 := n2_; have HO_335001 := n3_; have BK284 := n4_; have BK309 := n5_; have BK320 := n6_; have BK334 := n7_; have HB := n8_; clear n0_ n1_ n2_ n3_ n4_ n5_ n6_ n7_ n8_; (try clear hb); (try clear hb2); (try clear hk); (try clear hi); obtain ⟨Ao124, co124, eo124⟩ := Kd.R_slice HO_14.out; subst eo124; obtain ⟨Ao125, co125, eo125⟩ := Kd.R_slice HO_9.out; subst eo125) | (go_at_call 29; (with_reducible refine (laws_eqIntS.calls kj20 _ _ t331 _ _ t306 t362 _ ?side1 ?side2 ?side3 ?side4 A115.out).mono ?_); (case side1 => exact lC <| (Kd.R_reads' HO_14.out).2.2); (case side2 => exact (Kd.R_reads' HO_14.out).2.1); (case side3 => exact lC <| (Kd.R_reads' HO_9.out).2.2); (case side4 => exact (Kd.R_reads' HO_9.out).2.1); rintro e w' ⟨rfl, ⟨nd, rfl⟩⟩))
                          go_meet
                          case rel => exact ⟨_, (!t362), (by first | rfl | (simp; done) | (simp [*]; done)), H', ⟨by have := HJ20.out; first | omega | exact Nat.le_refl _⟩, ⟨by exact lR <| HO_9.out⟩, ⟨by exact lR <| HO_14.out⟩, ⟨by exact lR <| HO_310001.out⟩, ⟨by exact lR <| HO_335001.out⟩, ⟨by exact lK <| BK284.out⟩, ⟨by exact lK <| BK309.out⟩, ⟨by exact lK <| BK334.out⟩, ⟨by repeat (first | (with_reducible first | exact HB.out | apply below_alloc | apply pw_below_drewN | apply below_drew1 | refine below_set ?_ (by first | exact GE284.out | exact GE309.out | exact GE320.out | exact GE334.out)) | exact HB.out)⟩⟩
                        · replace c114 := Bool.eq_false_iff.mpr c114
                          subst c114
                          have H1 : (laws_FnExactRowDo.j1 kj20 l1 l2 t306 t331 true l0_0 l0_1 l0_2 a0_3 t302 t303 t327 t328) = some r := by rw [if_neg (show ¬ (false = true) by decide)] at H; exact H
                          clear H
                          have H := H1
                          clear H1
                          have H' := Aside0.mk H
                          clear H
                          have n_ := Aside0.mk (Kd.R_mono (ok' := fun k_ => (some k_ ≠ (v332 : Value).ownBlock ∧ (some k_ ≠ (.slice Ao38 t303.length co38 : Value).ownBlock ∧ some k_ ≠ (.slice Ao59 t328.length co59 : Value).ownBlock))) HO_9.out (fun _ hk => ⟨hk.2.1, ⟨hk.2.2.1, hk.2.2.2⟩⟩))
                          clear HO_9
                          have HO_9 := n_
                          clear n_
                          have n_ := Aside0.mk (Kd.R_mono (ok' := fun k_ => (some k_ ≠ (v307 : Value).ownBlock ∧ (some k_ ≠ (.slice Ao38 t303.length co38 : Value).ownBlock ∧ some k_ ≠ (.slice Ao59 t328.length co59 : Value).ownBlock))) HO_14.out (fun _ hk => ⟨hk.1, ⟨hk.2.2.1, hk.2.2.2⟩⟩))
                          clear HO_14
                          have HO_14 := n_
                          clear n_
                          have n_ := Aside0.mk (Kd.R_mono (ok' := fun k_ => (some k_ ≠ (v307 : Value).ownBlock ∧ (some k_ ≠ (v332 : Value).ownBlock ∧ some k_ ≠ (.slice Ao59 t328.length co59 : Value).ownBlock))) HO_310001.out (fun _ hk => ⟨hk.1, ⟨hk.2.2.1, hk.2.2.2⟩⟩))
                          clear HO_310001
                          have HO_310001 := n_
                          clear n_
                          have n_ := Aside0.mk (Kd.R_mono (ok' := fun k_ => (some k_ ≠ (v307 : Value).ownBlock ∧ (some k_ ≠ (v332 : Value).ownBlock ∧ some k_ ≠ (.slice Ao38 t303.length co38 : Value).ownBlock))) HO_335001.out (fun _ hk => ⟨hk.1, ⟨hk.2.2.1, hk.2.2.2⟩⟩))
                          clear HO_335001
                          have HO_335001 := n_
                          clear n_
                          have hnb126 := NB334_284.out
                          have hnc126 := NB284_334.out
                          have hnb127 := NB334_309.out
                          have hnc127 := NB309_334.out
                          have hnb128 := NB334_320.out
                          have hnc128 := NB320_334.out
                          have hcz129_0 : w111.cell? ⟨gb334, 0, none⟩ = some (.int .i64 t327) := (blk_cell BK334.out 0).trans rfl
                          have hcz129_1 : w111.cell? ⟨gb334, 1, none⟩ = some (.slice Ao59 t328.length co59) := (blk_cell BK334.out 1).trans rfl
                          have hfz129_0 := blk_frozen BK334.out 0
                          have hfz129_1 := blk_frozen BK334.out 1
                          have hnb130 := NB309_284.out
                          have hnc130 := NB284_309.out
                          have hnb131 := NB309_320.out
                          have hnc131 := NB320_309.out
                          have hcz132_0 : w111.cell? ⟨gb309, 0, none⟩ = some (.int .i64 t302) := (blk_cell BK309.out 0).trans rfl
                          have hcz132_1 : w111.cell? ⟨gb309, 1, none⟩ = some (.slice Ao38 t303.length co38) := (blk_cell BK309.out 1).trans rfl
                          have hfz132_0 := blk_frozen BK309.out 0
                          have hfz132_1 := blk_frozen BK309.out 1
                          go_wp2_with (first | (go_at_call 32; (with_reducible refine (laws_eqResResult.calls kj20 t327 _ _ t328 t302 _ _ t303 false _ ?side1 ?side2 ?side3 ?side4 A113.out).mono ?_); (case side1 => exact lC <| (Kd.R_reads' HO_335001.out).2.2); (case side2 => exact (Kd.R_reads' HO_335001.out).2.1); (case side3 => exact lC <| (Kd.R_reads' HO_310001.out).2.2); (case side4 => exact (Kd.R_reads' HO_310001.out).2.1); rintro e w133 ⟨rfl, hb⟩; have n0_ := Aside0.mk (Kd.R_below (by exact lR HO_9.out) hb); have n1_ := Aside0.mk (Kd.R_below (by exact lR HO_14.out) hb); have n2_ := Aside0.mk (Kd.R_below (by exact lR HO_310001.out) hb); have n3_ := Aside0.mk (Kd.R_below (by exact lR HO_335001.out) hb); have n4_ := Aside0.mk (blk_below (g := gb284) (o := .cells #[.slice A0_0 l0_0.length c0_0, .slice A0_1 l0_1.length c0_1, .slice A0_2 l0_2.length c0_2, .bool a0_3] 41 (0, 0)) (by exact lK BK284.out) hb); have n5_ := Aside0.mk (blk_below (g := gb309) (o := .cells #[.int .i64 t302, .slice Ao38 t303.length co38] 54 (0, 0)) (by exact lK BK309.out) hb); have n6_ := Aside0.mk (blk_below (g := gb320) (o := .cells #[.slice Ao42 t310.length co42, .slice Ao46 t313.length co46, .slice Ao47 t316.length co47, .bool t319] 45 (0, 0)) (by exact lK BK320.out) hb); have n7_ := Aside0.mk (blk_below (g := gb334) (o := .cells #[.int .i64 t327, .slice Ao59 t328.length co59] 54 (0, 0)) (by exact lK BK334.out) hb); have n8_ := Aside0.mk (below_step (by repeat (first | (with_reducible first | exact HB.out | apply below_alloc | apply pw_below_drewN | apply below_drew1 | refine below_set ?_ (by first | exact GE284.out | exact GE309.out | exact GE320.out | exact GE334.out)) | exact HB.out)) hb); clear HO_9; clear HO_14; clear HO_310001; clear HO_335001; clear BK284; clear BK309; clear BK320; clear BK334; clear HB; have HO_9 := n0_; have HO_14 := n1_; have HO_310001 := n2_; have HO_335001 := n3_; have BK284 := n4_; have BK309 := n5_; have BK320 := n6_; have BK334 := n7_; have HB := n8_; clear n0_ n1_ n2_ n3_ n4_ n5_ n6_ n7_ n8_; (try clear hb); (try clear hb2); (try clear hk); (try clear hi)))
                          go_meet
                          case rel => exact ⟨_, (true), (by first | rfl | (simp; done) | (simp [*]; done)), H', ⟨by have := HJ20.out; first | omega | exact Nat.le_refl _⟩, ⟨by exact lR <| HO_9.out⟩, ⟨by exact lR <| HO_14.out⟩, ⟨by exact lR <| HO_310001.out⟩, ⟨by exact lR <| HO_335001.out⟩, ⟨by exact lK <| BK284.out⟩, ⟨by exact lK <| BK309.out⟩, ⟨by exact lK <| BK334.out⟩, ⟨by repeat (first | (with_reducible first | exact HB.out | apply below_alloc | apply pw_below_drewN | apply below_drew1 | refine below_set ?_ (by first | exact GE284.out | exact GE309.out | exact GE320.out | exact GE334.out)) | exact HB.out)⟩⟩
                    case rest =>
                      clear HC94
                      try clear c1
                      try clear c2
                      try clear p2
                      try clear c3
                      try clear c4
                      try clear c4b0
                      try clear c4b1
                      try clear c5
                      try clear c6
                      try clear c6b0
                      try clear c6b1
                      try clear c7
                      try clear c8
                      try clear c9
                      try clear c9b0
                      try clear c10
                      try clear c11
                      try clear c12
                      try clear c13
                      try clear c21
                      try clear c23
                      try clear c25
                      try clear c27
                      try clear c29
                      try clear c30
                      try clear c31
                      try clear c32
                      try clear c33
                      try clear c34
                      try clear c36
                      try clear c43
                      try clear c44
                      try clear c55
                      try clear c56
                      try clear c57
                      try clear c61
                      try clear c63
                      try clear c64
                      try clear c65
                      try clear c67
                      try clear c68
                      try clear c73
                      try clear c74
                      try clear c75
                      try clear c77
                      try clear c78
                      try clear c81
                      try clear c84
                      try clear c87
                      try clear c90
                      try clear c105
                      try clear c106
                      try clear c107
                      try clear c112
                      try clear c112b0
                      try clear c114
                      try clear c116
                      try clear c117
                      try clear c118
                      try clear c120
                      try clear c121
                      try clear c126
                      try clear c127
                      try clear c128
                      try clear c130
                      try clear c131
                      try clear hcz108_0
                      try clear hcz108_1
                      try clear hcz108_2
                      try clear hcz108_3
                      try clear hcz119_0
                      try clear hcz119_1
                      try clear hcz11_0
                      try clear hcz11_1
                      try clear hcz11_2
                      try clear hcz11_3
                      try clear hcz122_0
                      try clear hcz122_1
                      try clear hcz129_0
                      try clear hcz129_1
                      try clear hcz132_0
                      try clear hcz132_1
                      try clear hcz23_0
                      try clear hcz23_1
                      try clear hcz23_2
                      try clear hcz23_3
                      try clear hcz25_0
                      try clear hcz25_1
                      try clear hcz25_2
                      try clear hcz25_3
                      try clear hcz37_0
                      try clear hcz37_1
                      try clear hcz39_0
                      try clear hcz39_1
                      try clear hcz39_2
                      try clear hcz39_3
                      try clear hcz45_0
                      try clear hcz45_1
                      try clear hcz45_2
                      try clear hcz45_3
                      try clear hcz50_0
                      try clear hcz50_1
                      try clear hcz50_2
                      try clear hcz50_3
                      try clear hcz58_0
                      try clear hcz58_1
                      try clear hcz66_0
                      try clear hcz66_1
                      try clear hcz69_0
                      try clear hcz69_1
                      try clear hcz76_0
                      try clear hcz76_1
                      try clear hcz79_0
                      try clear hcz79_1
                      try clear hfz108_0
                      try clear hfz108_1
                      try clear hfz108_2
                      try clear hfz108_3
                      try clear hfz119_0
                      try clear hfz119_1
                      try clear hfz11_0
                      try clear hfz11_1
                      try clear hfz11_2
                      try clear hfz11_3
                      try clear hfz122_0
                      try clear hfz122_1
                      try clear hfz129_0
                      try clear hfz129_1
                      try clear hfz132_0
                      try clear hfz132_1
                      try clear hfz23_0
                      try clear hfz23_1
                      try clear hfz23_2
                      try clear hfz23_3
                      try clear hfz25_0
                      try clear hfz25_1
                      try clear hfz25_2
                      try clear hfz25_3
                      try clear hfz37_0
                      try clear hfz37_1
                      try clear hfz39_0
                      try clear hfz39_1
                      try clear hfz39_2
                      try clear hfz39_3
                      try clear hfz45_0
                      try clear hfz45_1
                      try clear hfz45_2
                      try clear hfz45_3
                      try clear hfz50_0
                      try clear hfz50_1
                      try clear hfz50_2
                      try clear hfz50_3
                      try clear hfz58_0
                      try clear hfz58_1
                      try clear hfz66_0
                      try clear hfz66_1
                      try clear hfz69_0
                      try clear hfz69_1
                      try clear hfz76_0
                      try clear hfz76_1
                      try clear hfz79_0
                      try clear hfz79_1
                      try clear p2
                      obtain ⟨kq, x101_93, rfl, HA, HJ93, HO_9, HO_14, HO_310001, HO_335001, BK284, BK309, BK334, HB⟩ := hcut
                      cases kq with
                      | zero => exact absurd HA.out (by simp [laws_FnExactRowDo.j1])
                      | succ kj93 =>
                        have H := HA.out
                        clear HA
                        simp only [laws_FnExactRowDo.j1] at H
                        by_cases c134 : x101_93 = true
                        · subst c134
                          have H1 : (some false) = some r := by rw [if_pos rfl] at H; exact H
                          clear H
                          have H := H1
                          clear H1
                          exact absurd (Option.some.inj H) (by rw [hr.out]; decide)
                        · replace c134 := Bool.eq_false_iff.mpr c134
                          subst c134
                          have H1 : ((laws_markResResult.f kj93 t327 t328 1).bind fun bt363 => ((laws_markIntS.f kj93 t331 bt363.1).bind fun bt365 => ((laws_heldResResult.f kj93 t327 bt363.2 1).bind fun t367 => (if t367 < 0 then (some false) else ((laws_heldIntS.f kj93 bt365.2 t367).bind fun t368 => (if t368 < 0 then (some false) else (if t368 = bt365.1 then ((laws_toRowRow.f kj93 l0_0 l0_1 l0_2 a0_3).bind fun bt369 => ((laws_toIntS.f kj93 l1).bind fun t379 => ((laws_toIntS.f kj93 l2).bind fun t382 => ((impl_RowDo.f kj93 bt369.1 bt369.2.1 bt369.2.2.1 bt369.2.2.2 t379 t382).bind fun bt385 => ((laws_eqResResult.f kj93 bt385.1 bt385.2.1 t302 t303).bind fun t393 => (if t393 = true then ((laws_eqIntS.f kj93 bt385.2.2 t306).bind fun t394 => (laws_FnExactRowDo.j2 kj93 bt365.2 bt365.1 (!t394) t327 bt363.2)) else (laws_FnExactRowDo.j2 kj93 bt365.2 bt365.1 true t327 bt363.2))))))) else (some false)))))))) = some r := by rw [if_neg (show ¬ (false = true) by decide)] at H; exact H
                          clear H
                          have H := H1
                          clear H1
                          replace H := Option.bind_eq_some_iff.mp H
                          obtain ⟨⟨t363, t364⟩, A1350, H⟩ := H
                          replace H : ((laws_markIntS.f kj93 t331 t363).bind fun bt365 => ((laws_heldResResult.f kj93 t327 t364 1).bind fun t367 => (if t367 < 0 then (some false) else ((laws_heldIntS.f kj93 bt365.2 t367).bind fun t368 => (if t368 < 0 then (some false) else (if t368 = bt365.1 then ((laws_toRowRow.f kj93 l0_0 l0_1 l0_2 a0_3).bind fun bt369 => ((laws_toIntS.f kj93 l1).bind fun t379 => ((laws_toIntS.f kj93 l2).bind fun t382 => ((impl_RowDo.f kj93 bt369.1 bt369.2.1 bt369.2.2.1 bt369.2.2.2 t379 t382).bind fun bt385 => ((laws_eqResResult.f kj93 bt385.1 bt385.2.1 t302 t303).bind fun t393 => (if t393 = true then ((laws_eqIntS.f kj93 bt385.2.2 t306).bind fun t394 => (laws_FnExactRowDo.j2 kj93 bt365.2 bt365.1 (!t394) t327 t364)) else (laws_FnExactRowDo.j2 kj93 bt365.2 bt365.1 true t327 t364))))))) else (some false))))))) = some r := H
                          have A135 := Aside0.mk A1350
                          clear A1350
                          replace H := Option.bind_eq_some_iff.mp H
                          obtain ⟨⟨t365, t366⟩, A1360, H⟩ := H
                          replace H : ((laws_heldResResult.f kj93 t327 t364 1).bind fun t367 => (if t367 < 0 then (some false) else ((laws_heldIntS.f kj93 t366 t367).bind fun t368 => (if t368 < 0 then (some false) else (if t368 = t365 then ((laws_toRowRow.f kj93 l0_0 l0_1 l0_2 a0_3).bind fun bt369 => ((laws_toIntS.f kj93 l1).bind fun t379 => ((laws_toIntS.f kj93 l2).bind fun t382 => ((impl_RowDo.f kj93 bt369.1 bt369.2.1 bt369.2.2.1 bt369.2.2.2 t379 t382).bind fun bt385 => ((laws_eqResResult.f kj93 bt385.1 bt385.2.1 t302 t303).bind fun t393 => (if t393 = true then ((laws_eqIntS.f kj93 bt385.2.2 t306).bind fun t394 => (laws_FnExactRowDo.j2 kj93 t366 t365 (!t394) t327 t364)) else (laws_FnExactRowDo.j2 kj93 t366 t365 true t327 t364))))))) else (some false)))))) = some r := H
                          have A136 := Aside0.mk A1360
                          clear A1360
                          replace H := Option.bind_eq_some_iff.mp H
                          obtain ⟨t367, A1370, H⟩ := H
                          replace H : (if t367 < 0 then (some false) else ((laws_heldIntS.f kj93 t366 t367).bind fun t368 => (if t368 < 0 then (some false) else (if t368 = t365 then ((laws_toRowRow.f kj93 l0_0 l0_1 l0_2 a0_3).bind fun bt369 => ((laws_toIntS.f kj93 l1).bind fun t379 => ((laws_toIntS.f kj93 l2).bind fun t382 => ((impl_RowDo.f kj93 bt369.1 bt369.2.1 bt369.2.2.1 bt369.2.2.2 t379 t382).bind fun bt385 => ((laws_eqResResult.f kj93 bt385.1 bt385.2.1 t302 t303).bind fun t393 => (if t393 = true then ((laws_eqIntS.f kj93 bt385.2.2 t306).bind fun t394 => (laws_FnExactRowDo.j2 kj93 t366 t365 (!t394) t327 t364)) else (laws_FnExactRowDo.j2 kj93 t366 t365 true t327 t364))))))) else (some false))))) = some r := H
                          have A137 := Aside0.mk A1370
                          clear A1370
                          by_cases c138 : t367 < 0
                          · rw [if_pos c138] at H
                            have c138b0 : decide (t367 < 0) = true := decide_eq_true c138
                            clear c138
                            exact absurd (Option.some.inj H) (by rw [hr.out]; decide)
                          · rw [if_neg c138] at H
                            have c138b0 : decide (t367 < 0) = false := decide_eq_false c138
                            clear c138
                            replace H := Option.bind_eq_some_iff.mp H
                            obtain ⟨t368, A1390, H⟩ := H
                            replace H : (if t368 < 0 then (some false) else (if t368 = t365 then ((laws_toRowRow.f kj93 l0_0 l0_1 l0_2 a0_3).bind fun bt369 => ((laws_toIntS.f kj93 l1).bind fun t379 => ((laws_toIntS.f kj93 l2).bind fun t382 => ((impl_RowDo.f kj93 bt369.1 bt369.2.1 bt369.2.2.1 bt369.2.2.2 t379 t382).bind fun bt385 => ((laws_eqResResult.f kj93 bt385.1 bt385.2.1 t302 t303).bind fun t393 => (if t393 = true then ((laws_eqIntS.f kj93 bt385.2.2 t306).bind fun t394 => (laws_FnExactRowDo.j2 kj93 t366 t365 (!t394) t327 t364)) else (laws_FnExactRowDo.j2 kj93 t366 t365 true t327 t364))))))) else (some false))) = some r := H
                            have A139 := Aside0.mk A1390
                            clear A1390
                            by_cases c140 : t368 < 0
                            · rw [if_pos c140] at H
                              have c140b0 : decide (t368 < 0) = true := decide_eq_true c140
                              clear c140
                              exact absurd (Option.some.inj H) (by rw [hr.out]; decide)
                            · rw [if_neg c140] at H
                              have c140b0 : decide (t368 < 0) = false := decide_eq_false c140
                              clear c140
                              by_cases c141 : t368 = t365
                              · rw [if_pos c141] at H
                                have c141b0 : (t368 == t365) = true := beq_iff_eq.mpr c141
                                have c141b1 : (t368 != t365) = false := bne_eq_false_iff_eq.mpr c141
                                clear c141
                                replace H := Option.bind_eq_some_iff.mp H
                                obtain ⟨⟨t369, t372, t375, t378⟩, A1420, H⟩ := H
                                replace H : ((laws_toIntS.f kj93 l1).bind fun t379 => ((laws_toIntS.f kj93 l2).bind fun t382 => ((impl_RowDo.f kj93 t369 t372 t375 t378 t379 t382).bind fun bt385 => ((laws_eqResResult.f kj93 bt385.1 bt385.2.1 t302 t303).bind fun t393 => (if t393 = true then ((laws_eqIntS.f kj93 bt385.2.2 t306).bind fun t394 => (laws_FnExactRowDo.j2 kj93 t366 t365 (!t394) t327 t364)) else (laws_FnExactRowDo.j2 kj93 t366 t365 true t327 t364)))))) = some r := H
                                have A142 := Aside0.mk A1420
                                clear A1420
                                replace H := Option.bind_eq_some_iff.mp H
                                obtain ⟨t379, A1430, H⟩ := H
                                replace H : ((laws_toIntS.f kj93 l2).bind fun t382 => ((impl_RowDo.f kj93 t369 t372 t375 t378 t379 t382).bind fun bt385 => ((laws_eqResResult.f kj93 bt385.1 bt385.2.1 t302 t303).bind fun t393 => (if t393 = true then ((laws_eqIntS.f kj93 bt385.2.2 t306).bind fun t394 => (laws_FnExactRowDo.j2 kj93 t366 t365 (!t394) t327 t364)) else (laws_FnExactRowDo.j2 kj93 t366 t365 true t327 t364))))) = some r := H
                                have A143 := Aside0.mk A1430
                                clear A1430
                                replace H := Option.bind_eq_some_iff.mp H
                                obtain ⟨t382, A1440, H⟩ := H
                                replace H : ((impl_RowDo.f kj93 t369 t372 t375 t378 t379 t382).bind fun bt385 => ((laws_eqResResult.f kj93 bt385.1 bt385.2.1 t302 t303).bind fun t393 => (if t393 = true then ((laws_eqIntS.f kj93 bt385.2.2 t306).bind fun t394 => (laws_FnExactRowDo.j2 kj93 t366 t365 (!t394) t327 t364)) else (laws_FnExactRowDo.j2 kj93 t366 t365 true t327 t364)))) = some r := H
                                have A144 := Aside0.mk A1440
                                clear A1440
                                replace H := Option.bind_eq_some_iff.mp H
                                obtain ⟨⟨t385, t386, t389⟩, A1450, H⟩ := H
                                replace H : ((laws_eqResResult.f kj93 t385 t386 t302 t303).bind fun t393 => (if t393 = true then ((laws_eqIntS.f kj93 t389 t306).bind fun t394 => (laws_FnExactRowDo.j2 kj93 t366 t365 (!t394) t327 t364)) else (laws_FnExactRowDo.j2 kj93 t366 t365 true t327 t364))) = some r := H
                                have A145 := Aside0.mk A1450
                                clear A1450
                                have HC146 := Aside0.mk H
                                clear H
                                have hnb147 := NB334_284.out
                                have hnc147 := NB284_334.out
                                have hnb148 := NB334_309.out
                                have hnc148 := NB309_334.out
                                have hcz149_0 : wc.cell? ⟨gb334, 0, none⟩ = some (.int .i64 t327) := (blk_cell BK334.out 0).trans rfl
                                have hcz149_1 : wc.cell? ⟨gb334, 1, none⟩ = some (.slice Ao59 t328.length co59) := (blk_cell BK334.out 1).trans rfl
                                have hfz149_0 := blk_frozen BK334.out 0
                                have hfz149_1 := blk_frozen BK334.out 1
                                go_upto_region 41 with (first | ((with_reducible refine gate_callee (f := 35) rfl ?_); refine goesL_ (some 104) rfl rfl Try.func35 (by kernel_rfl) rfl #[.agg #[.int .i64 t327, .slice Ao59 t328.length co59], .int .i64 1] rfl (by (try simp only [List.map_toArray, List.map_cons, List.map_nil]); first | done | rfl | (simp only [List.length_drop, List.length_take]; rfl)) ?_; (with_reducible refine (laws_markResResult.calls kj93 t327 (fun k_ => some k_ = (.slice Ao59 t328.length co59 : Value).ownBlock) (.slice Ao59 t328.length co59) t328 1 t363 t364 w _ ?side1 ?side2 A135.out).mono ?_); (case side1 => repeat (first | (with_reducible first | exact HB.out | apply below_alloc | apply pw_below_drewN | apply below_drew1 | refine below_set ?_ (by first | exact GE284.out | exact GE309.out | exact GE334.out)) | exact HB.out)); (case side2 => exact Kd.R_tight rfl HO_335001.out); rintro e w150 ⟨rfl, hy0, hb, hkp⟩; refine ⟨_, rfl, ?_⟩; have n0_ := Aside0.mk (Kd.R_mono (ok' := fun k_ => some k_ ≠ (v332 : Value).ownBlock ∧ some k_ ≠ (.slice Ao38 t303.length co38 : Value).ownBlock ∧ some k_ ≠ (.slice Ao59 t328.length co59 : Value).ownBlock) (Kd.R_keptB (HO_9.out) hkp (fun k_ hk_ hs_ => (hk_.2.2) hs_)) (fun k_ hk_ => ⟨hk_.1.1, hk_.1.2.1, hk_.1.2.2⟩)); have n1_ := Aside0.mk (Kd.R_mono (ok' := fun k_ => some k_ ≠ (v307 : Value).ownBlock ∧ some k_ ≠ (.slice Ao38 t303.length co38 : Value).ownBlock ∧ some k_ ≠ (.slice Ao59 t328.length co59 : Value).ownBlock) (Kd.R_keptB (HO_14.out) hkp (fun k_ hk_ hs_ => (hk_.2.2) hs_)) (fun k_ hk_ => ⟨hk_.1.1, hk_.1.2.1, hk_.1.2.2⟩)); have n2_ := Aside0.mk (Kd.R_mono (ok' := fun k_ => some k_ ≠ (v307 : Value).ownBlock ∧ some k_ ≠ (v332 : Value).ownBlock ∧ some k_ ≠ (.slice Ao59 t328.length co59 : Value).ownBlock) (Kd.R_keptB (HO_310001.out) hkp (fun k_ hk_ hs_ => (hk_.2.2) hs_)) (fun k_ hk_ => ⟨hk_.1.1, hk_.1.2.1, hk_.1.2.2⟩)); have n3_ := Aside0.mk (Kd.R_reok rfl hy0 (fun k_ e_ => HO_335001.out.1 k_ e_)); have n4_ := Aside0.mk (blk_kept (by exact lK BK284.out) hkp (fun hs_ => (fun e_ => (Kd.R_ne HO_335001.out BK284.out (by decide)) e_) hs_)); have n5_ := Aside0.mk (blk_kept (by exact lK BK309.out) hkp (fun hs_ => (fun e_ => (Kd.R_ne HO_335001.out BK309.out (by decide)) e_) hs_)); have n6_ := Aside0.mk (blk_kept (by exact lK BK334.out) hkp (fun hs_ => (fun e_ => (Kd.R_ne HO_335001.out BK334.out (by decide)) e_) hs_)); have n7_ := Aside0.mk (hb); clear HO_9; clear HO_14; clear HO_310001; clear HO_335001; clear BK284; clear BK309; clear BK334; clear HB; have HO_9 := n0_; have HO_14 := n1_; have HO_310001 := n2_; have HO_335001 := n3_; have BK284 := n4_; have BK309 := n5_; have BK334 := n6_; have HB := n7_; clear n0_ n1_ n2_ n3_ n4_ n5_ n6_ n7_; (try clear hb); (try clear hkp); (try clear hy0); obtain ⟨Ao151, co151, eo151⟩ := Kd.R_slice HO_14.out; subst eo151) | ((with_reducible refine gate_callee (f := 34) rfl ?_); refine goesL_ (some 107) rfl rfl Try.func34 (by kernel_rfl) rfl #[.slice Ao151 t331.length co151, .int .i64 t363] rfl (by (try simp only [List.map_toArray, List.map_cons, List.map_nil]); first | done | rfl | (simp only [List.length_drop, List.length_take]; rfl)) ?_; (with_reducible refine (laws_markIntS.calls kj93 (fun k_ => some k_ = (.slice Ao151 t331.length co151 : Value).ownBlock) (.slice Ao151 t331.length co151) t331 t363 t365 t366 w _ ?side1 ?side2 A136.out).mono ?_); (case side1 => repeat (first | (with_reducible first | exact HB.out | apply below_alloc | apply pw_below_drewN | apply below_drew1 | refine below_set ?_ (by first | exact GE284.out | exact GE309.out | exact GE334.out)) | exact HB.out)); (case side2 => exact Kd.R_tight rfl HO_14.out); rintro e w152 ⟨rfl, hy0, hb, hkp⟩; refine ⟨_, rfl, ?_⟩; have n0_ := Aside0.mk (Kd.R_mono (ok' := fun k_ => some k_ ≠ (.slice Ao151 t331.length co151 : Value).ownBlock ∧ some k_ ≠ (.slice Ao38 t303.length co38 : Value).ownBlock ∧ some k_ ≠ (.slice Ao59 t328.length co59 : Value).ownBlock) (Kd.R_keptB (HO_9.out) hkp (fun k_ hk_ hs_ => (hk_.1) hs_)) (fun k_ hk_ => ⟨hk_.1.1, hk_.1.2.1, hk_.1.2.2⟩)); have n1_ := Aside0.mk (Kd.R_reok rfl hy0 (fun k_ e_ => HO_14.out.1 k_ e_)); have n2_ := Aside0.mk (Kd.R_mono (ok' := fun k_ => some k_ ≠ (v307 : Value).ownBlock ∧ some k_ ≠ (.slice Ao151 t331.length co151 : Value).ownBlock ∧ some k_ ≠ (.slice Ao59 t328.length co59 : Value).ownBlock) (Kd.R_keptB (HO_310001.out) hkp (fun k_ hk_ hs_ => (hk_.2.1) hs_)) (fun k_ hk_ => ⟨hk_.1.1, hk_.1.2.1, hk_.1.2.2⟩)); have n3_ := Aside0.mk (Kd.R_mono (ok' := fun k_ => some k_ ≠ (v307 : Value).ownBlock ∧ some k_ ≠ (.slice Ao151 t331.length co151 : Value).ownBlock ∧ some k_ ≠ (.slice Ao38 t303.length co38 : Value).ownBlock) (Kd.R_keptB (HO_335001.out) hkp (fun k_ hk_ hs_ => (hk_.2.1) hs_)) (fun k_ hk_ => ⟨hk_.1.1, hk_.1.2.1, hk_.1.2.2⟩)); have n4_ := Aside0.mk (blk_kept (by exact lK BK284.out) hkp (fun hs_ => (fun e_ => (Kd.R_ne HO_14.out BK284.out (by decide)) e_) hs_)); have n5_ := Aside0.mk (blk_kept (by exact lK BK309.out) hkp (fun hs_ => (fun e_ => (Kd.R_ne HO_14.out BK309.out (by decide)) e_) hs_)); have n6_ := Aside0.mk (blk_kept (by exact lK BK334.out) hkp (fun hs_ => (fun e_ => (Kd.R_ne HO_14.out BK334.out (by decide)) e_) hs_)); have n7_ := Aside0.mk (hb); clear HO_9; clear HO_14; clear HO_310001; clear HO_335001; clear BK284; clear BK309; clear BK334; clear HB; have HO_9 := n0_; have HO_14 := n1_; have HO_310001 := n2_; have HO_335001 := n3_; have BK284 := n4_; have BK309 := n5_; have BK334 := n6_; have HB := n7_; clear n0_ n1_ n2_ n3_ n4_ n5_ n6_ n7_; (try clear hb); (try clear hkp); (try clear hy0); have hcz153_0 : w152.cell? ⟨gb334, 0, none⟩ = some (.int .i64 t327) := (blk_cell BK334.out 0).trans rfl; have hcz153_1 : w152.cell? ⟨gb334, 1, none⟩ = some (.slice Ao59 t328.length co59) := (blk_cell BK334.out 1).trans rfl; have hfz153_0 := blk_frozen BK334.out 0; have hfz153_1 := blk_frozen BK334.out 1) | ((with_reducible refine gate_callee (f := 36) rfl ?_); refine goesL_ (some 110) rfl rfl Try.func36 (by kernel_rfl) rfl #[.agg #[.int .i64 t327, .slice Ao59 t364.length co59], .int .i64 1] rfl (by (try simp only [List.map_toArray, List.map_cons, List.map_nil]); first | done | (rw [show t364.length = t328.length from (Kd.R_reads' HO_335001.out).1.symm] <;> rfl) | rfl | (simp only [List.length_drop, List.length_take]; rfl)) ?_; (with_reducible refine (laws_heldResResult.calls kj93 t327 _ _ t364 1 t367 _ ?side1 ?side2 A137.out).mono ?_); (case side1 => exact lC <| (Kd.R_reads' HO_335001.out).2.2); (case side2 => rw [show t364.length = t328.length from (Kd.R_reads' HO_335001.out).1.symm]; exact (Kd.R_reads' HO_335001.out).2.1); rintro e w154 ⟨rfl, hb⟩; refine ⟨_, rfl, ?_⟩; have n0_ := Aside0.mk (Kd.R_below (by exact lR HO_9.out) hb); have n1_ := Aside0.mk (Kd.R_below (by exact lR HO_14.out) hb); have n2_ := Aside0.mk (Kd.R_below (by exact lR HO_310001.out) hb); have n3_ := Aside0.mk (Kd.R_below (by exact lR HO_335001.out) hb); have n4_ := Aside0.mk (blk_below (g := gb284) (o := .cells #[.slice A0_0 l0_0.length c0_0, .slice A0_1 l0_1.length c0_1, .slice A0_2 l0_2.length c0_2, .bool a0_3] 41 (0, 0)) (by exact lK BK284.out) hb); have n5_ := Aside0.mk (blk_below (g := gb309) (o := .cells #[.int .i64 t302, .slice Ao38 t303.length co38] 54 (0, 0)) (by exact lK BK309.out) hb); have n6_ := Aside0.mk (blk_below (g := gb334) (o := .cells #[.int .i64 t327, .slice Ao59 t328.length co59] 54 (0, 0)) (by exact lK BK334.out) hb); have n7_ := Aside0.mk (below_step (by repeat (first | (with_reducible first | exact HB.out | apply below_alloc | apply pw_below_drewN | apply below_drew1 | refine below_set ?_ (by first | exact GE284.out | exact GE309.out | exact GE334.out)) | exact HB.out)) hb); clear HO_9; clear HO_14; clear HO_310001; clear HO_335001; clear BK284; clear BK309; clear BK334; clear HB; have HO_9 := n0_; have HO_14 := n1_; have HO_310001 := n2_; have HO_335001 := n3_; have BK284 := n4_; have BK309 := n5_; have BK334 := n6_; have HB := n7_; clear n0_ n1_ n2_ n3_ n4_ n5_ n6_ n7_; (try clear hb); (try clear hb2); (try clear hk); (try clear hi)) | ((with_reducible refine gate_callee (f := 37) rfl ?_); refine goesL_ (some 115) rfl rfl Try.func37 (by kernel_rfl) rfl #[.slice Ao151 t366.length co151, .int .i64 t367] rfl (by (try simp only [List.map_toArray, List.map_cons, List.map_nil]); first | done | (rw [show t366.length = t331.length from (Kd.R_reads' HO_14.out).1.symm] <;> rfl) | rfl | (simp only [List.length_drop, List.length_take]; rfl)) ?_; (with_reducible refine (laws_heldIntS.calls kj93 _ _ t366 t367 t368 _ ?side1 ?side2 A139.out).mono ?_); (case side1 => exact lC <| (Kd.R_reads' HO_14.out).2.2); (case side2 => rw [show t366.length = t331.length from (Kd.R_reads' HO_14.out).1.symm]; exact (Kd.R_reads' HO_14.out).2.1); rintro e w' ⟨rfl, ⟨nd, rfl⟩⟩; refine ⟨_, rfl, ?_⟩; (try (rw [drewN_self w154]; generalize hq_ : World.drewN w154 _ = w154; have n0_ : Aside0 (Kd.R (Kd.int .i64) 3 w154 w.heap.size (fun k_ => (some k_ ≠ (v307 : Value).ownBlock ∧ (some k_ ≠ (.slice Ao38 t303.length co38 : Value).ownBlock ∧ some k_ ≠ (.slice Ao59 t328.length co59 : Value).ownBlock))) (.slice Ao151 t331.length co151) t366) := ⟨by rw [← hq_]; exact (by exact lR HO_14.out)⟩; have n1_ : Aside0 (Kd.R (Kd.int .i64) 3 w154 w.heap.size (fun k_ => (some k_ ≠ (v307 : Value).ownBlock ∧ (some k_ ≠ (.slice Ao151 t331.length co151 : Value).ownBlock ∧ some k_ ≠ (.slice Ao59 t328.length co59 : Value).ownBlock))) (.slice Ao38 t303.length co38) t303) := ⟨by rw [← hq_]; exact (by exact lR HO_310001.out)⟩; have n2_ : Aside0 (Kd.R (Kd.int .i64) 3 w154 w.heap.size (fun k_ => (some k_ ≠ (v307 : Value).ownBlock ∧ (some k_ ≠ (.slice Ao151 t331.length co151 : Value).ownBlock ∧ some k_ ≠ (.slice Ao38 t303.length co38 : Value).ownBlock))) (.slice Ao59 t328.length co59) t364) := ⟨by rw [← hq_]; exact (by exact lR HO_335001.out)⟩; have n3_ : Aside0 (Kd.R (Kd.int .i64) 3 w154 w.heap.size (fun k_ => (some k_ ≠ (.slice Ao151 t331.length co151 : Value).ownBlock ∧ (some k_ ≠ (.slice Ao38 t303.length co38 : Value).ownBlock ∧ some k_ ≠ (.slice Ao59 t328.length co59 : Value).ownBlock))) v307 t306) := ⟨by rw [← hq_]; exact (by exact lR HO_9.out)⟩; have n4_ : Aside0 (w154.heap[gb284]? = some (.cells #[.slice A0_0 l0_0.length c0_0, .slice A0_1 l0_1.length c0_1, .slice A0_2 l0_2.length c0_2, .bool a0_3] 41 (0, 0))) := ⟨by rw [← hq_]; exact (by exact lK BK284.out)⟩; have n5_ : Aside0 (w154.heap[gb309]? = some (.cells #[.int .i64 t302, .slice Ao38 t303.length co38] 54 (0, 0))) := ⟨by rw [← hq_]; exact (by exact lK BK309.out)⟩; have n6_ : Aside0 (w154.heap[gb334]? = some (.cells #[.int .i64 t327, .slice Ao59 t328.length co59] 54 (0, 0))) := ⟨by rw [← hq_]; exact (by exact lK BK334.out)⟩; have n7_ : Aside0 (Below w.heap.size w w154) := ⟨by rw [← hq_]; exact (by repeat (first | (with_reducible first | exact HB.out | apply below_alloc | apply pw_below_drewN | apply below_drew1 | refine below_set ?_ (by first | exact GE284.out | exact GE309.out | exact GE334.out)) | exact HB.out))⟩; clear HO_14 HO_310001 HO_335001 HO_9 BK284 BK309 BK334 HB hq_; have HO_14 := n0_; have HO_310001 := n1_; have HO_335001 := n2_; have HO_9 := n3_; have BK284 := n4_; have BK309 := n5_; have BK334 := n6_; have HB := n7_; clear n0_ n1_ n2_ n3_ n4_ n5_ n6_ n7_)); have hnb155 := NB284_309.out; have hnc155 := NB309_284.out; have hcz156_0 : w154.cell? ⟨gb284, 0, none⟩ = some (.slice A0_0 l0_0.length c0_0) := (blk_cell BK284.out 0).trans rfl; have hcz156_1 : w154.cell? ⟨gb284, 1, none⟩ = some (.slice A0_1 l0_1.length c0_1) := (blk_cell BK284.out 1).trans rfl; have hcz156_2 : w154.cell? ⟨gb284, 2, none⟩ = some (.slice A0_2 l0_2.length c0_2) := (blk_cell BK284.out 2).trans rfl; have hcz156_3 : w154.cell? ⟨gb284, 3, none⟩ = some (.bool a0_3) := (blk_cell BK284.out 3).trans rfl; have hfz156_0 := blk_frozen BK284.out 0; have hfz156_1 := blk_frozen BK284.out 1; have hfz156_2 := blk_frozen BK284.out 2; have hfz156_3 := blk_frozen BK284.out 3) | ((with_reducible refine gate_callee (f := 23) rfl ?_); refine goesL_ (some 123) rfl rfl Try.func23 (by kernel_rfl) rfl #[.agg #[.slice A0_0 l0_0.length c0_0, .slice A0_1 l0_1.length c0_1, .slice A0_2 l0_2.length c0_2, .bool a0_3]] rfl (by (try simp only [List.map_toArray, List.map_cons, List.map_nil]); first | done | rfl | (simp only [List.length_drop, List.length_take]; rfl)) ?_; (with_reducible refine (laws_toRowRow.calls kj93 _ _ l0_0 _ _ l0_1 _ _ l0_2 a0_3 t369 t372 t375 t378 _ ?side1 ?side2 ?side3 ?side4 ?side5 ?side6 A142.out).mono ?_); (case side1 => exact lC <| (Kd.C_below HR0_0.out HB.out)); (case side2 => exact HC0_0.out); (case side3 => exact lC <| (Kd.C_below HR0_1.out HB.out)); (case side4 => exact HC0_1.out); (case side5 => exact lC <| (Kd.C_below HR0_2.out HB.out)); (case side6 => exact HC0_2.out); rintro e w157 ⟨v370, v373, v376, rfl, ho0, ho1, ho2, hb⟩; refine ⟨_, rfl, ?_⟩; have n0_ := Aside0.mk (Kd.R_below (by exact lR HO_9.out) hb); have n1_ := Aside0.mk (Kd.R_below (by exact lR HO_14.out) hb); have n2_ := Aside0.mk (Kd.R_below (by exact lR HO_310001.out) hb); have n3_ := Aside0.mk (Kd.R_below (by exact lR HO_335001.out) hb); have n4_ := Aside0.mk (Kd.S_lower (Kd.S_new' (Kd.S_new' (Kd.S_new' (Kd.S_new' ho0 (Kd.R_lt (by exact lR HO_9.out))) (Kd.R_lt (by exact lR HO_14.out))) (Kd.R_lt (by exact lR HO_310001.out))) (Kd.R_lt (by exact lR HO_335001.out))) (below_size (by repeat (first | (with_reducible first | exact HB.out | apply below_alloc | apply pw_below_drewN | apply below_drew1 | refine below_set ?_ (by first | exact GE284.out | exact GE309.out | exact GE334.out)) | exact HB.out)))); have n5_ := Aside0.mk (Kd.S_lower (Kd.S_new' (Kd.S_new' (Kd.S_new' (Kd.S_new' ho1 (Kd.R_lt (by exact lR HO_9.out))) (Kd.R_lt (by exact lR HO_14.out))) (Kd.R_lt (by exact lR HO_310001.out))) (Kd.R_lt (by exact lR HO_335001.out))) (below_size (by repeat (first | (with_reducible first | exact HB.out | apply below_alloc | apply pw_below_drewN | apply below_drew1 | refine below_set ?_ (by first | exact GE284.out | exact GE309.out | exact GE334.out)) | exact HB.out)))); have n6_ := Aside0.mk (Kd.S_lower (Kd.S_new' (Kd.S_new' (Kd.S_new' (Kd.S_new' ho2 (Kd.R_lt (by exact lR HO_9.out))) (Kd.R_lt (by exact lR HO_14.out))) (Kd.R_lt (by exact lR HO_310001.out))) (Kd.R_lt (by exact lR HO_335001.out))) (below_size (by repeat (first | (with_reducible first | exact HB.out | apply below_alloc | apply pw_below_drewN | apply below_drew1 | refine below_set ?_ (by first | exact GE284.out | exact GE309.out | exact GE334.out)) | exact HB.out)))); have n7_ := Aside0.mk (blk_below (g := gb284) (o := .cells #[.slice A0_0 l0_0.length c0_0, .slice A0_1 l0_1.length c0_1, .slice A0_2 l0_2.length c0_2, .bool a0_3] 41 (0, 0)) (by exact lK BK284.out) hb); have n8_ := Aside0.mk (blk_below (g := gb309) (o := .cells #[.int .i64 t302, .slice Ao38 t303.length co38] 54 (0, 0)) (by exact lK BK309.out) hb); have n9_ := Aside0.mk (blk_below (g := gb334) (o := .cells #[.int .i64 t327, .slice Ao59 t328.length co59] 54 (0, 0)) (by exact lK BK334.out) hb); have n10_ := Aside0.mk (below_step (by repeat (first | (with_reducible first | exact HB.out | apply below_alloc | apply pw_below_drewN | apply below_drew1 | refine below_set ?_ (by first | exact GE284.out | exact GE309.out | exact GE334.out)) | exact HB.out)) hb); clear HO_9; clear HO_14; clear HO_310001; clear HO_335001; clear BK284; clear BK309; clear BK334; clear HB; have HO_9 := n0_; have HO_14 := n1_; have HO_310001 := n2_; have HO_335001 := n3_; have HO371 := n4_; have HO374 := n5_; have HO377 := n6_; have BK284 := n7_; have BK309 := n8_; have BK334 := n9_; have HB := n10_; clear n0_ n1_ n2_ n3_ n4_ n5_ n6_ n7_ n8_ n9_ n10_; (try clear hb); (try clear hb2); (try clear hk); (try clear hi); (try clear ho0); (try clear ho1); (try clear ho2)) | ((with_reducible refine gate_callee (f := 27) rfl ?_); refine goesL_ (some 125) rfl rfl Try.func27 (by kernel_rfl) rfl #[.slice A1 l1.length c1] rfl (by (try simp only [List.map_toArray, List.map_cons, List.map_nil]); first | done | rfl | (simp only [List.length_drop, List.length_take]; rfl)) ?_; (with_reducible refine (laws_toIntS.calls kj93 _ _ l1 t379 _ ?side1 ?side2 A143.out).mono ?_); (case side1 => exact lC <| (Kd.C_below HR1.out HB.out)); (case side2 => exact HC1.out); rintro e w158 ⟨v380, rfl, ho0, hb⟩; refine ⟨_, rfl, ?_⟩; have n0_ := Aside0.mk (Kd.R_elder' (by exact lR HO_9.out) (Kd.R_base ho0) hb); have n1_ := Aside0.mk (Kd.R_elder' (by exact lR HO_14.out) (Kd.R_base ho0) hb); have n2_ := Aside0.mk (Kd.R_elder' (by exact lR HO_310001.out) (Kd.R_base ho0) hb); have n3_ := Aside0.mk (Kd.R_elder' (by exact lR HO_335001.out) (Kd.R_base ho0) hb); have n4_ := Aside0.mk (Kd.S_elder' (by exact lS HO371.out) (Kd.R_base ho0) hb); have n5_ := Aside0.mk (Kd.S_elder' (by exact lS HO374.out) (Kd.R_base ho0) hb); have n6_ := Aside0.mk (Kd.S_elder' (by exact lS HO377.out) (Kd.R_base ho0) hb); have n7_ := Aside0.mk (Kd.R_lower (Kd.R_new' (Kd.R_new' (Kd.R_new' (Kd.R_new' ho0 (Kd.R_lt (by exact lR HO_9.out))) (Kd.R_lt (by exact lR HO_14.out))) (Kd.R_lt (by exact lR HO_310001.out))) (Kd.R_lt (by exact lR HO_335001.out))) (below_size (by repeat (first | (with_reducible first | exact HB.out | apply below_alloc | apply pw_below_drewN | apply below_drew1 | refine below_set ?_ (by first | exact GE284.out | exact GE309.out | exact GE334.out)) | exact HB.out)))); have n8_ := Aside0.mk (blk_below (g := gb284) (o := .cells #[.slice A0_0 l0_0.length c0_0, .slice A0_1 l0_1.length c0_1, .slice A0_2 l0_2.length c0_2, .bool a0_3] 41 (0, 0)) (by exact lK BK284.out) hb); have n9_ := Aside0.mk (blk_below (g := gb309) (o := .cells #[.int .i64 t302, .slice Ao38 t303.length co38] 54 (0, 0)) (by exact lK BK309.out) hb); have n10_ := Aside0.mk (blk_below (g := gb334) (o := .cells #[.int .i64 t327, .slice Ao59 t328.length co59] 54 (0, 0)) (by exact lK BK334.out) hb); have n11_ := Aside0.mk (below_step (by repeat (first | (with_reducible first | exact HB.out | apply below_alloc | apply pw_below_drewN | apply below_drew1 | refine below_set ?_ (by first | exact GE284.out | exact GE309.out | exact GE334.out)) | exact HB.out)) hb); clear HO_9; clear HO_14; clear HO_310001; clear HO_335001; clear HO371; clear HO374; clear HO377; clear BK284; clear BK309; clear BK334; clear HB; have HO_9 := n0_; have HO_14 := n1_; have HO_310001 := n2_; have HO_335001 := n3_; have HO371 := n4_; have HO374 := n5_; have HO377 := n6_; have HO381 := n7_; have BK284 := n8_; have BK309 := n9_; have BK334 := n10_; have HB := n11_; clear n0_ n1_ n2_ n3_ n4_ n5_ n6_ n7_ n8_ n9_ n10_ n11_; (try clear hb); (try clear hb2); (try clear hk); (try clear hi); (try clear ho0)) | ((with_reducible refine gate_callee (f := 27) rfl ?_); refine goesL_ (some 127) rfl rfl Try.func27 (by kernel_rfl) rfl #[.slice A2 l2.length c2] rfl (by (try simp only [List.map_toArray, List.map_cons, List.map_nil]); first | done | rfl | (simp only [List.length_drop, List.length_take]; rfl)) ?_; (with_reducible refine (laws_toIntS.calls kj93 _ _ l2 t382 _ ?side1 ?side2 A144.out).mono ?_); (case side1 => exact lC <| (Kd.C_below HR2.out HB.out)); (case side2 => exact HC2.out); rintro e w159 ⟨v383, rfl, ho0, hb⟩; refine ⟨_, rfl, ?_⟩; have n0_ := Aside0.mk (Kd.R_elder' (by exact lR HO_9.out) (Kd.R_base ho0) hb); have n1_ := Aside0.mk (Kd.R_elder' (by exact lR HO_14.out) (Kd.R_base ho0) hb); have n2_ := Aside0.mk (Kd.R_elder' (by exact lR HO_310001.out) (Kd.R_base ho0) hb); have n3_ := Aside0.mk (Kd.R_elder' (by exact lR HO_335001.out) (Kd.R_base ho0) hb); have n4_ := Aside0.mk (Kd.S_elder' (by exact lS HO371.out) (Kd.R_base ho0) hb); have n5_ := Aside0.mk (Kd.S_elder' (by exact lS HO374.out) (Kd.R_base ho0) hb); have n6_ := Aside0.mk (Kd.S_elder' (by exact lS HO377.out) (Kd.R_base ho0) hb); have n7_ := Aside0.mk (Kd.R_elder' (by exact lR HO381.out) (Kd.R_base ho0) hb); have n8_ := Aside0.mk (Kd.R_lower (Kd.R_new' (Kd.R_new' (Kd.R_new' (Kd.R_new' (Kd.R_new' ho0 (Kd.R_lt (by exact lR HO_9.out))) (Kd.R_lt (by exact lR HO_14.out))) (Kd.R_lt (by exact lR HO_310001.out))) (Kd.R_lt (by exact lR HO_335001.out))) (Kd.R_lt (by exact lR HO381.out))) (below_size (by repeat (first | (with_reducible first | exact HB.out | apply below_alloc | apply pw_below_drewN | apply below_drew1 | refine below_set ?_ (by first | exact GE284.out | exact GE309.out | exact GE334.out)) | exact HB.out)))); have n9_ := Aside0.mk (blk_below (g := gb284) (o := .cells #[.slice A0_0 l0_0.length c0_0, .slice A0_1 l0_1.length c0_1, .slice A0_2 l0_2.length c0_2, .bool a0_3] 41 (0, 0)) (by exact lK BK284.out) hb); have n10_ := Aside0.mk (blk_below (g := gb309) (o := .cells #[.int .i64 t302, .slice Ao38 t303.length co38] 54 (0, 0)) (by exact lK BK309.out) hb); have n11_ := Aside0.mk (blk_below (g := gb334) (o := .cells #[.int .i64 t327, .slice Ao59 t328.length co59] 54 (0, 0)) (by exact lK BK334.out) hb); have n12_ := Aside0.mk (below_step (by repeat (first | (with_reducible first | exact HB.out | apply below_alloc | apply pw_below_drewN | apply below_drew1 | refine below_set ?_ (by first | exact GE284.out | exact GE309.out | exact GE334.out)) | exact HB.out)) hb); clear HO_9; clear HO_14; clear HO_310001; clear HO_335001; clear HO371; clear HO374; clear HO377; clear HO381; clear BK284; clear BK309; clear BK334; clear HB; have HO_9 := n0_; have HO_14 := n1_; have HO_310001 := n2_; have HO_335001 := n3_; have HO371 := n4_; have HO374 := n5_; have HO377 := n6_; have HO381 := n7_; have HO384 := n8_; have BK284 := n9_; have BK309 := n10_; have BK334 := n11_; have HB := n12_; clear n0_ n1_ n2_ n3_ n4_ n5_ n6_ n7_ n8_ n9_ n10_ n11_ n12_; (try clear hb); (try clear hb2); (try clear hk); (try clear hi); (try clear ho0); obtain ⟨Ao160, co160, eo160⟩ := Kd.S_slice HO371.out; subst eo160; obtain ⟨Ao161, co161, eo161⟩ := Kd.S_slice HO374.out; subst eo161; obtain ⟨Ao162, co162, eo162⟩ := Kd.S_slice HO377.out; subst eo162; obtain ⟨Ao163, co163, eo163⟩ := Kd.R_slice HO381.out; subst eo163; obtain ⟨Ao164, co164, eo164⟩ := Kd.R_slice HO384.out; subst eo164) | ((with_reducible refine gate_callee (f := 31) rfl ?_); refine goesL_ (some 128) rfl rfl Try.func31 (by kernel_rfl) rfl #[.agg #[.slice Ao160 t369.length co160, .slice Ao161 t372.length co161, .slice Ao162 t375.length co162, .bool t378], .slice Ao163 t379.length co163, .slice Ao164 t382.length co164] rfl (by (try simp only [List.map_toArray, List.map_cons, List.map_nil]); first | done | rfl | (simp only [List.length_drop, List.length_take]; rfl)) ?_; (with_reducible refine (impl_RowDo.calls kj93 _ _ t369 _ _ t372 _ _ t375 t378 _ _ t379 _ _ t382 t385 t386 t389 _ ?side1 ?side2 ?side3 ?side4 ?side5 ?side6 ?side7 ?side8 ?side9 ?side10 A145.out).mono ?_); (case side1 => exact lC <| (Kd.S_reads' HO371.out).2.2); (case side2 => exact (Kd.S_reads' HO371.out).2.1); (case side3 => exact lC <| (Kd.S_reads' HO374.out).2.2); (case side4 => exact (Kd.S_reads' HO374.out).2.1); (case side5 => exact lC <| (Kd.S_reads' HO377.out).2.2); (case side6 => exact (Kd.S_reads' HO377.out).2.1); (case side7 => exact lC <| (Kd.R_reads' HO381.out).2.2); (case side8 => exact (Kd.R_reads' HO381.out).2.1); (case side9 => exact lC <| (Kd.R_reads' HO384.out).2.2); (case side10 => exact (Kd.R_reads' HO384.out).2.1); rintro e w165 ⟨v387, v390, rfl, ho0, ho1, hb⟩; refine ⟨_, rfl, ?_⟩; have n0_ := Aside0.mk (Kd.R_mono (Kd.R_told (Kd.R_told (Kd.R_old (by exact lR HO_9.out) hb) (Kd.R_base ho0)) (Kd.R_base ho1)) (fun _ h_ => h_.1)); have n1_ := Aside0.mk (Kd.R_mono (Kd.R_told (Kd.R_told (Kd.R_old (by exact lR HO_14.out) hb) (Kd.R_base ho0)) (Kd.R_base ho1)) (fun _ h_ => h_.1)); have n2_ := Aside0.mk (Kd.R_mono (Kd.R_told (Kd.R_told (Kd.R_old (by exact lR HO_310001.out) hb) (Kd.R_base ho0)) (Kd.R_base ho1)) (fun _ h_ => h_.1)); have n3_ := Aside0.mk (Kd.R_mono (Kd.R_told (Kd.R_told (Kd.R_old (by exact lR HO_335001.out) hb) (Kd.R_base ho0)) (Kd.R_base ho1)) (fun _ h_ => h_.1)); have n4_ := Aside0.mk (Kd.S_mono (Kd.S_told (Kd.S_told (Kd.S_old (by exact lS HO371.out) hb) (Kd.R_base ho0)) (Kd.R_base ho1)) (fun _ h_ => h_.1)); have n5_ := Aside0.mk (Kd.S_mono (Kd.S_told (Kd.S_told (Kd.S_old (by exact lS HO374.out) hb) (Kd.R_base ho0)) (Kd.R_base ho1)) (fun _ h_ => h_.1)); have n6_ := Aside0.mk (Kd.S_mono (Kd.S_told (Kd.S_told (Kd.S_old (by exact lS HO377.out) hb) (Kd.R_base ho0)) (Kd.R_base ho1)) (fun _ h_ => h_.1)); have n7_ := Aside0.mk (Kd.R_mono (Kd.R_told (Kd.R_told (Kd.R_old (by exact lR HO381.out) hb) (Kd.R_base ho0)) (Kd.R_base ho1)) (fun _ h_ => h_.1)); have n8_ := Aside0.mk (Kd.R_mono (Kd.R_told (Kd.R_told (Kd.R_old (by exact lR HO384.out) hb) (Kd.R_base ho0)) (Kd.R_base ho1)) (fun _ h_ => h_.1)); have n9_ := Aside0.mk (Kd.R_lower (Kd.R_new' (Kd.R_new' (Kd.R_new' (Kd.R_new' (Kd.R_new' (Kd.R_new' ho0 (Kd.R_lt (by exact lR HO_9.out))) (Kd.R_lt (by exact lR HO_14.out))) (Kd.R_lt (by exact lR HO_310001.out))) (Kd.R_lt (by exact lR HO_335001.out))) (Kd.R_lt (by exact lR HO381.out))) (Kd.R_lt (by exact lR HO384.out))) (below_size (by repeat (first | (with_reducible first | exact HB.out | apply below_alloc | apply pw_below_drewN | apply below_drew1 | refine below_set ?_ (by first | exact GE284.out | exact GE309.out | exact GE334.out)) | exact HB.out)))); have n10_ := Aside0.mk (Kd.R_lower (Kd.R_new' (Kd.R_new' (Kd.R_new' (Kd.R_new' (Kd.R_new' (Kd.R_new' ho1 (Kd.R_lt (by exact lR HO_9.out))) (Kd.R_lt (by exact lR HO_14.out))) (Kd.R_lt (by exact lR HO_310001.out))) (Kd.R_lt (by exact lR HO_335001.out))) (Kd.R_lt (by exact lR HO381.out))) (Kd.R_lt (by exact lR HO384.out))) (below_size (by repeat (first | (with_reducible first | exact HB.out | apply below_alloc | apply pw_below_drewN | apply below_drew1 | refine below_set ?_ (by first | exact GE284.out | exact GE309.out | exact GE334.out)) | exact HB.out)))); have n11_ := Aside0.mk (blk_below (g := gb284) (o := .cells #[.slice A0_0 l0_0.length c0_0, .slice A0_1 l0_1.length c0_1, .slice A0_2 l0_2.length c0_2, .bool a0_3] 41 (0, 0)) (by exact lK BK284.out) hb); have n12_ := Aside0.mk (blk_below (g := gb309) (o := .cells #[.int .i64 t302, .slice Ao38 t303.length co38] 54 (0, 0)) (by exact lK BK309.out) hb); have n13_ := Aside0.mk (blk_below (g := gb334) (o := .cells #[.int .i64 t327, .slice Ao59 t328.length co59] 54 (0, 0)) (by exact lK BK334.out) hb); have n14_ := Aside0.mk (below_step (by repeat (first | (with_reducible first | exact HB.out | apply below_alloc | apply pw_below_drewN | apply below_drew1 | refine below_set ?_ (by first | exact GE284.out | exact GE309.out | exact GE334.out)) | exact HB.out)) hb); clear HO_9; clear HO_14; clear HO_310001; clear HO_335001; clear HO371; clear HO374; clear HO377; clear HO381; clear HO384; clear BK284; clear BK309; clear BK334; clear HB; have HO_9 := n0_; have HO_14 := n1_; have HO_310001 := n2_; have HO_335001 := n3_; have HO371 := n4_; have HO374 := n5_; have HO377 := n6_; have HO381 := n7_; have HO384 := n8_; have HO388 := n9_; have HO391 := n10_; have BK284 := n11_; have BK309 := n12_; have BK334 := n13_; have HB := n14_; clear n0_ n1_ n2_ n3_ n4_ n5_ n6_ n7_ n8_ n9_ n10_ n11_ n12_ n13_ n14_; (try clear hb); (try clear hb2); (try clear hk); (try clear hi); (try clear ho0); (try clear ho1); have n_ := Aside0.mk (Kd.R_mono (ok' := fun k_ => (((some k_ ≠ (.slice Ao151 t331.length co151 : Value).ownBlock ∧ (some k_ ≠ (.slice Ao38 t303.length co38 : Value).ownBlock ∧ some k_ ≠ (.slice Ao59 t328.length co59 : Value).ownBlock)) ∧ some k_ ≠ (v387 : Value).ownBlock) ∧ some k_ ≠ (v390 : Value).ownBlock)) HO_9.out (fun _ hk => ⟨⟨⟨hk.1.1.1.1.1, ⟨hk.1.1.1.1.2.1, hk.1.1.1.1.2.2⟩⟩, hk.1.2⟩, hk.2⟩)); clear HO_9; have HO_9 := n_; clear n_; have n_ := Aside0.mk (Kd.R_mono (ok' := fun k_ => (((some k_ ≠ (v307 : Value).ownBlock ∧ (some k_ ≠ (.slice Ao38 t303.length co38 : Value).ownBlock ∧ some k_ ≠ (.slice Ao59 t328.length co59 : Value).ownBlock)) ∧ some k_ ≠ (v387 : Value).ownBlock) ∧ some k_ ≠ (v390 : Value).ownBlock)) HO_14.out (fun _ hk => ⟨⟨⟨hk.1.1.1.1.1, ⟨hk.1.1.1.1.2.1, hk.1.1.1.1.2.2⟩⟩, hk.1.2⟩, hk.2⟩)); clear HO_14; have HO_14 := n_; clear n_; have n_ := Aside0.mk (Kd.R_mono (ok' := fun k_ => (((some k_ ≠ (v307 : Value).ownBlock ∧ (some k_ ≠ (.slice Ao151 t331.length co151 : Value).ownBlock ∧ some k_ ≠ (.slice Ao59 t328.length co59 : Value).ownBlock)) ∧ some k_ ≠ (v387 : Value).ownBlock) ∧ some k_ ≠ (v390 : Value).ownBlock)) HO_310001.out (fun _ hk => ⟨⟨⟨hk.1.1.1.1.1, ⟨hk.1.1.1.1.2.1, hk.1.1.1.1.2.2⟩⟩, hk.1.2⟩, hk.2⟩)); clear HO_310001; have HO_310001 := n_; clear n_; have n_ := Aside0.mk (Kd.R_mono (ok' := fun k_ => (((some k_ ≠ (v307 : Value).ownBlock ∧ (some k_ ≠ (.slice Ao151 t331.length co151 : Value).ownBlock ∧ some k_ ≠ (.slice Ao38 t303.length co38 : Value).ownBlock)) ∧ some k_ ≠ (v387 : Value).ownBlock) ∧ some k_ ≠ (v390 : Value).ownBlock)) HO_335001.out (fun _ hk => ⟨⟨⟨hk.1.1.1.1.1, ⟨hk.1.1.1.1.2.1, hk.1.1.1.1.2.2⟩⟩, hk.1.2⟩, hk.2⟩)); clear HO_335001; have HO_335001 := n_; clear n_; have n_ := Aside0.mk (Kd.R_mono (ok' := fun k_ => ((((some k_ ≠ (v390 : Value).ownBlock ∧ some k_ ≠ (v307 : Value).ownBlock) ∧ some k_ ≠ (.slice Ao151 t331.length co151 : Value).ownBlock) ∧ some k_ ≠ (.slice Ao38 t303.length co38 : Value).ownBlock) ∧ some k_ ≠ (.slice Ao59 t328.length co59 : Value).ownBlock)) HO388.out (fun _ hk => ⟨⟨⟨⟨hk.1.1.1.1.1.1, hk.1.1.1.1.1.2⟩, hk.1.1.1.1.2⟩, hk.1.1.1.2⟩, hk.1.1.2⟩)); clear HO388; have HO388 := n_; clear n_; have n_ := Aside0.mk (Kd.R_mono (ok' := fun k_ => ((((some k_ ≠ (v387 : Value).ownBlock ∧ some k_ ≠ (v307 : Value).ownBlock) ∧ some k_ ≠ (.slice Ao151 t331.length co151 : Value).ownBlock) ∧ some k_ ≠ (.slice Ao38 t303.length co38 : Value).ownBlock) ∧ some k_ ≠ (.slice Ao59 t328.length co59 : Value).ownBlock)) HO391.out (fun _ hk => ⟨⟨⟨⟨hk.1.1.1.1.1.1, hk.1.1.1.1.1.2⟩, hk.1.1.1.1.2⟩, hk.1.1.1.2⟩, hk.1.1.2⟩)); clear HO391; have HO391 := n_; clear n_) | ((with_reducible refine gate_dst (N := 18) rfl ?_); refine box_event ?hg (N := 18) ?hd (cs := #[.int .i64 0, .slice none 0 0]) (t := 54) ?hr ?_; (case hd => rfl); (case hg => rfl); (case hr => first | (go_simp; done) | (go_simp; rfl)); intro gb392 hg w166 hbox hb; have n0_ := Aside0.mk (Kd.R_below (by exact lR HO_9.out) hb); have n1_ := Aside0.mk (Kd.R_below (by exact lR HO_14.out) hb); have n2_ := Aside0.mk (Kd.R_below (by exact lR HO_310001.out) hb); have n3_ := Aside0.mk (Kd.R_below (by exact lR HO_335001.out) hb); have n4_ := Aside0.mk (Kd.R_below (by exact lR HO388.out) hb); have n5_ := Aside0.mk (Kd.R_below (by exact lR HO391.out) hb); have n6_ := Aside0.mk (blk_below (g := gb284) (o := .cells #[.slice A0_0 l0_0.length c0_0, .slice A0_1 l0_1.length c0_1, .slice A0_2 l0_2.length c0_2, .bool a0_3] 41 (0, 0)) (by exact lK BK284.out) hb); have n7_ := Aside0.mk (blk_below (g := gb309) (o := .cells #[.int .i64 t302, .slice Ao38 t303.length co38] 54 (0, 0)) (by exact lK BK309.out) hb); have n8_ := Aside0.mk (blk_below (g := gb334) (o := .cells #[.int .i64 t327, .slice Ao59 t328.length co59] 54 (0, 0)) (by exact lK BK334.out) hb); have n9_ := Aside0.mk (below_step (by repeat (first | (with_reducible first | exact HB.out | apply below_alloc | apply pw_below_drewN | apply below_drew1 | refine below_set ?_ (by first | exact GE284.out | exact GE309.out | exact GE334.out)) | exact HB.out)) hb); have n10_ := Aside0.mk (hbox); have n11_ := Aside0.mk ((by rw [hg]; exact (below_size (by repeat (first | (with_reducible first | exact HB.out | apply below_alloc | apply pw_below_drewN | apply below_drew1 | refine below_set ?_ (by first | exact GE284.out | exact GE309.out | exact GE334.out)) | exact HB.out))) : w.heap.size ≤ gb392)); have n12_ := Aside0.mk ((by rw [hg]; exact (below_size (by repeat (first | (with_reducible first | exact HB.out | apply below_alloc | apply pw_below_drewN | apply below_drew1 | refine below_set ?_ (by first | exact GE284.out | exact GE309.out | exact GE334.out)) | exact HB.out))) : w.heap.size ≤ gb392)); have n13_ := Aside0.mk ((by rw [hg]; exact Nat.ne_of_lt (blk_lt (g := gb284) (o := .cells #[.slice A0_0 l0_0.length c0_0, .slice A0_1 l0_1.length c0_1, .slice A0_2 l0_2.length c0_2, .bool a0_3] 41 (0, 0)) (by exact lK BK284.out)) : gb284 ≠ gb392)); have n14_ := Aside0.mk ((by rw [hg]; exact Nat.ne_of_gt (blk_lt (g := gb284) (o := .cells #[.slice A0_0 l0_0.length c0_0, .slice A0_1 l0_1.length c0_1, .slice A0_2 l0_2.length c0_2, .bool a0_3] 41 (0, 0)) (by exact lK BK284.out)) : gb392 ≠ gb284)); have n15_ := Aside0.mk ((by rw [hg]; exact Nat.ne_of_lt (blk_lt (g := gb309) (o := .cells #[.int .i64 t302, .slice Ao38 t303.length co38] 54 (0, 0)) (by exact lK BK309.out)) : gb309 ≠ gb392)); have n16_ := Aside0.mk ((by rw [hg]; exact Nat.ne_of_gt (blk_lt (g := gb309) (o := .cells #[.int .i64 t302, .slice Ao38 t303.length co38] 54 (0, 0)) (by exact lK BK309.out)) : gb392 ≠ gb309)); have n17_ := Aside0.mk ((by rw [hg]; exact Nat.ne_of_lt (blk_lt (g := gb334) (o := .cells #[.int .i64 t327, .slice Ao59 t328.length co59] 54 (0, 0)) (by exact lK BK334.out)) : gb334 ≠ gb392)); have n18_ := Aside0.mk ((by rw [hg]; exact Nat.ne_of_gt (blk_lt (g := gb334) (o := .cells #[.int .i64 t327, .slice Ao59 t328.length co59] 54 (0, 0)) (by exact lK BK334.out)) : gb392 ≠ gb334)); clear HO_9; clear HO_14; clear HO_310001; clear HO_335001; clear HO388; clear HO391; clear BK284; clear BK309; clear BK334; clear HB; have HO_9 := n0_; have HO_14 := n1_; have HO_310001 := n2_; have HO_335001 := n3_; have HO388 := n4_; have HO391 := n5_; have BK284 := n6_; have BK309 := n7_; have BK334 := n8_; have HB := n9_; have BK392 := n10_; have GW392 := n11_; have GE392 := n12_; have NB284_392 := n13_; have NB392_284 := n14_; have NB309_392 := n15_; have NB392_309 := n16_; have NB334_392 := n17_; have NB392_334 := n18_; clear n0_ n1_ n2_ n3_ n4_ n5_ n6_ n7_ n8_ n9_ n10_ n11_ n12_ n13_ n14_ n15_ n16_ n17_ n18_; clear hb hbox hg; have hnb167 := NB392_284.out; have hnc167 := NB284_392.out; have hnb168 := NB392_309.out; have hnc168 := NB309_392.out; have hnb169 := NB392_334.out; have hnc169 := NB334_392.out; have hcz170_0 : w166.cell? ⟨gb392, 0, none⟩ = some (.int .i64 0) := (blk_cell BK392.out 0).trans rfl; have hcz170_1 : w166.cell? ⟨gb392, 1, none⟩ = some (.slice none 0 0) := (blk_cell BK392.out 1).trans rfl; have hfz170_0 := blk_frozen BK392.out 0; have hfz170_1 := blk_frozen BK392.out 1; obtain ⟨Ao171, co171, eo171⟩ := Kd.R_slice HO388.out; subst eo171))
                                (try simp only [Act.put, List.setIfInBounds_toArray, List.set_cons_zero, List.set_cons_succ])
                                go_cut [140] (fun v140 wc => ∃ (kq : Nat) (x140_145 : Bool), v140 = .bool x140_145 ∧ Aside0 (laws_FnExactRowDo.j2 kq t366 t365 x140_145 t327 t364 = some r) ∧ Aside0 (kq ≤ kj93) ∧ Aside0 (Kd.R (Kd.int .i64) 3 wc w.heap.size (fun k_ => some k_ ≠ ((.slice Ao38 t303.length co38) : Value).ownBlock ∧ some k_ ≠ ((.slice Ao59 t328.length co59) : Value).ownBlock ∧ some k_ ≠ ((.slice Ao171 t386.length co171) : Value).ownBlock) (.slice Ao151 t331.length co151) t366) ∧ Aside0 (Kd.R (Kd.int .i64) 3 wc w.heap.size (fun k_ => some k_ ≠ ((.slice Ao151 t331.length co151) : Value).ownBlock ∧ some k_ ≠ ((.slice Ao59 t328.length co59) : Value).ownBlock ∧ some k_ ≠ ((.slice Ao171 t386.length co171) : Value).ownBlock) (.slice Ao38 t303.length co38) t303) ∧ Aside0 (Kd.R (Kd.int .i64) 3 wc w.heap.size (fun k_ => some k_ ≠ ((.slice Ao151 t331.length co151) : Value).ownBlock ∧ some k_ ≠ ((.slice Ao38 t303.length co38) : Value).ownBlock ∧ some k_ ≠ ((.slice Ao171 t386.length co171) : Value).ownBlock) (.slice Ao59 t328.length co59) t364) ∧ Aside0 (Kd.R (Kd.int .i64) 3 wc w.heap.size (fun k_ => some k_ ≠ ((.slice Ao151 t331.length co151) : Value).ownBlock ∧ some k_ ≠ ((.slice Ao38 t303.length co38) : Value).ownBlock ∧ some k_ ≠ ((.slice Ao59 t328.length co59) : Value).ownBlock) (.slice Ao171 t386.length co171) t386) ∧ Aside0 (wc.heap[gb284]? = some (.cells #[(.slice A0_0 l0_0.length c0_0), (.slice A0_1 l0_1.length c0_1), (.slice A0_2 l0_2.length c0_2), .bool a0_3] 41 (0, 0))) ∧ Aside0 (wc.heap[gb309]? = some (.cells #[.int .i64 t302, (.slice Ao38 t303.length co38)] 54 (0, 0))) ∧ Aside0 (wc.heap[gb334]? = some (.cells #[.int .i64 t327, (.slice Ao59 t328.length co59)] 54 (0, 0))) ∧ Aside0 (wc.heap[gb392]? = some (.cells #[.int .i64 t385, (.slice Ao171 t386.length co171)] 54 (0, 0))) ∧ Aside0 (Below w.heap.size w wc))
                                case first =>
                                  have H := HC146.out
                                  clear HC146
                                  replace H := Option.bind_eq_some_iff.mp H
                                  obtain ⟨t393, A1720, H⟩ := H
                                  replace H : (if t393 = true then ((laws_eqIntS.f kj93 t389 t306).bind fun t394 => (laws_FnExactRowDo.j2 kj93 t366 t365 (!t394) t327 t364)) else (laws_FnExactRowDo.j2 kj93 t366 t365 true t327 t364)) = some r := H
                                  have A172 := Aside0.mk A1720
                                  clear A1720
                                  by_cases c173 : t393 = true
                                  · subst c173
                                    have H1 : ((laws_eqIntS.f kj93 t389 t306).bind fun t394 => (laws_FnExactRowDo.j2 kj93 t366 t365 (!t394) t327 t364)) = some r := by rw [if_pos rfl] at H; exact H
                                    clear H
                                    have H := H1
                                    clear H1
                                    replace H := Option.bind_eq_some_iff.mp H
                                    obtain ⟨t394, A1740, H⟩ := H
                                    replace H : (laws_FnExactRowDo.j2 kj93 t366 t365 (!t394) t327 t364) = some r := H
                                    have A174 := Aside0.mk A1740
                                    clear A1740
                                    have H' := Aside0.mk H
                                    clear H
                                    have hnb175 := NB392_284.out
                                    have hnc175 := NB284_392.out
                                    have hnb176 := NB392_309.out
                                    have hnc176 := NB309_392.out
                                    have hnb177 := NB392_334.out
                                    have hnc177 := NB334_392.out
                                    have hcz178_0 : w166.cell? ⟨gb392, 0, none⟩ = some (.int .i64 0) := (blk_cell BK392.out 0).trans rfl
                                    have hcz178_1 : w166.cell? ⟨gb392, 1, none⟩ = some (.slice none 0 0) := (blk_cell BK392.out 1).trans rfl
                                    have hfz178_0 := blk_frozen BK392.out 0
                                    have hfz178_1 := blk_frozen BK392.out 1
                                    have hnb179 := NB309_284.out
                                    have hnc179 := NB284_309.out
                                    have hnb180 := NB309_334.out
                                    have hnc180 := NB334_309.out
                                    have hcz181_0 : w166.cell? ⟨gb309, 0, none⟩ = some (.int .i64 t302) := (blk_cell BK309.out 0).trans rfl
                                    have hcz181_1 : w166.cell? ⟨gb309, 1, none⟩ = some (.slice Ao38 t303.length co38) := (blk_cell BK309.out 1).trans rfl
                                    have hfz181_0 := blk_frozen BK309.out 0
                                    have hfz181_1 := blk_frozen BK309.out 1
                                    go_wp2_with (first | ((with_reducible refine gate_callee (f := 32) rfl ?_); refine goesL_ (some 133) rfl rfl Try.func32 (by kernel_rfl) rfl #[.agg #[.int .i64 t385, .slice Ao171 t386.length co171], .agg #[.int .i64 t302, .slice Ao38 t303.length co38]] rfl (by (try simp only [List.map_toArray, List.map_cons, List.map_nil]); first | done | rfl | (simp only [List.length_drop, List.length_take]; rfl)) ?_; (with_reducible refine (laws_eqResResult.calls kj93 t385 _ _ t386 t302 _ _ t303 true _ ?side1 ?side2 ?side3 ?side4 A172.out).mono ?_); (case side1 => refine (Kd.R_reads' (e := 3) (base := w.heap.size) (ok := fun k_ => ((((some k_ ≠ (v390 : Value).ownBlock ∧ some k_ ≠ (v307 : Value).ownBlock) ∧ some k_ ≠ (.slice Ao151 t331.length co151 : Value).ownBlock) ∧ some k_ ≠ (.slice Ao38 t303.length co38 : Value).ownBlock) ∧ some k_ ≠ (.slice Ao59 t328.length co59 : Value).ownBlock)) (n := t386.length) (c := co171) ?_).2.2; exact (by exact lR <| (Kd.R_mono (Kd.R_far (p := ⟨gb392, 1, none⟩) (Kd.R_far (p := ⟨gb392, 0, none⟩) (Kd.R_types HO388.out BK392.out (by decide)) (fun _ hk => hk.2) (.int .i64 t385)) (fun _ hk => hk.2) (.slice Ao171 t386.length co171)) (fun _ h_ => h_.1)))); (case side2 => exact (Kd.R_reads' HO388.out).2.1); (case side3 => refine (Kd.R_reads' (e := 3) (base := w.heap.size) (ok := fun k_ => (((some k_ ≠ (v307 : Value).ownBlock ∧ (some k_ ≠ (.slice Ao151 t331.length co151 : Value).ownBlock ∧ some k_ ≠ (.slice Ao59 t328.length co59 : Value).ownBlock)) ∧ some k_ ≠ (.slice Ao171 t386.length co171 : Value).ownBlock) ∧ some k_ ≠ (v390 : Value).ownBlock)) (n := t303.length) (c := co38) ?_).2.2; exact (by exact lR <| (Kd.R_mono (Kd.R_far (p := ⟨gb392, 1, none⟩) (Kd.R_far (p := ⟨gb392, 0, none⟩) (Kd.R_types HO_310001.out BK392.out (by decide)) (fun _ hk => hk.2) (.int .i64 t385)) (fun _ hk => hk.2) (.slice Ao171 t386.length co171)) (fun _ h_ => h_.1)))); (case side4 => exact (Kd.R_reads' HO_310001.out).2.1); rintro e w182 ⟨rfl, hb⟩; refine ⟨_, rfl, ?_⟩; have n0_ := Aside0.mk (Kd.R_below (by exact lR <| (Kd.R_mono (Kd.R_far (p := ⟨gb392, 1, none⟩) (Kd.R_far (p := ⟨gb392, 0, none⟩) (Kd.R_types HO_9.out BK392.out (by decide)) (fun _ hk => hk.2) (.int .i64 t385)) (fun _ hk => hk.2) (.slice Ao171 t386.length co171)) (fun _ h_ => h_.1))) hb); have n1_ := Aside0.mk (Kd.R_below (by exact lR <| (Kd.R_mono (Kd.R_far (p := ⟨gb392, 1, none⟩) (Kd.R_far (p := ⟨gb392, 0, none⟩) (Kd.R_types HO_14.out BK392.out (by decide)) (fun _ hk => hk.2) (.int .i64 t385)) (fun _ hk => hk.2) (.slice Ao171 t386.length co171)) (fun _ h_ => h_.1))) hb); have n2_ := Aside0.mk (Kd.R_below (by exact lR <| (Kd.R_mono (Kd.R_far (p := ⟨gb392, 1, none⟩) (Kd.R_far (p := ⟨gb392, 0, none⟩) (Kd.R_types HO_310001.out BK392.out (by decide)) (fun _ hk => hk.2) (.int .i64 t385)) (fun _ hk => hk.2) (.slice Ao171 t386.length co171)) (fun _ h_ => h_.1))) hb); have n3_ := Aside0.mk (Kd.R_below (by exact lR <| (Kd.R_mono (Kd.R_far (p := ⟨gb392, 1, none⟩) (Kd.R_far (p := ⟨gb392, 0, none⟩) (Kd.R_types HO_335001.out BK392.out (by decide)) (fun _ hk => hk.2) (.int .i64 t385)) (fun _ hk => hk.2) (.slice Ao171 t386.length co171)) (fun _ h_ => h_.1))) hb); have n4_ := Aside0.mk (Kd.R_below (by exact lR <| (Kd.R_mono (Kd.R_far (p := ⟨gb392, 1, none⟩) (Kd.R_far (p := ⟨gb392, 0, none⟩) (Kd.R_types HO388.out BK392.out (by decide)) (fun _ hk => hk.2) (.int .i64 t385)) (fun _ hk => hk.2) (.slice Ao171 t386.length co171)) (fun _ h_ => h_.1))) hb); have n5_ := Aside0.mk (Kd.R_below (by exact lR <| (Kd.R_mono (Kd.R_far (p := ⟨gb392, 1, none⟩) (Kd.R_far (p := ⟨gb392, 0, none⟩) (Kd.R_types HO391.out BK392.out (by decide)) (fun _ hk => hk.2) (.int .i64 t385)) (fun _ hk => hk.2) (.slice Ao171 t386.length co171)) (fun _ h_ => h_.1))) hb); have n6_ := Aside0.mk (blk_below (g := gb284) (o := .cells #[.slice A0_0 l0_0.length c0_0, .slice A0_1 l0_1.length c0_1, .slice A0_2 l0_2.length c0_2, .bool a0_3] 41 (0, 0)) (by (with_reducible repeat (first | refine blk_drewN ?_ _ | refine blk_drew ?_ | refine blk_alloc ?_ _)); refine blk_far ?_ NB284_392.out _; (with_reducible repeat (first | refine blk_drewN ?_ _ | refine blk_drew ?_ | refine blk_alloc ?_ _)); refine blk_far ?_ NB284_392.out _; exact lK BK284.out) hb); have n7_ := Aside0.mk (blk_below (g := gb309) (o := .cells #[.int .i64 t302, .slice Ao38 t303.length co38] 54 (0, 0)) (by (with_reducible repeat (first | refine blk_drewN ?_ _ | refine blk_drew ?_ | refine blk_alloc ?_ _)); refine blk_far ?_ NB309_392.out _; (with_reducible repeat (first | refine blk_drewN ?_ _ | refine blk_drew ?_ | refine blk_alloc ?_ _)); refine blk_far ?_ NB309_392.out _; exact lK BK309.out) hb); have n8_ := Aside0.mk (blk_below (g := gb334) (o := .cells #[.int .i64 t327, .slice Ao59 t328.length co59] 54 (0, 0)) (by (with_reducible repeat (first | refine blk_drewN ?_ _ | refine blk_drew ?_ | refine blk_alloc ?_ _)); refine blk_far ?_ NB334_392.out _; (with_reducible repeat (first | refine blk_drewN ?_ _ | refine blk_drew ?_ | refine blk_alloc ?_ _)); refine blk_far ?_ NB334_392.out _; exact lK BK334.out) hb); have n9_ := Aside0.mk (blk_below (g := gb392) (o := .cells #[.int .i64 t385, .slice Ao171 t386.length co171] 54 (0, 0)) (by (with_reducible repeat (first | refine blk_drewN ?_ _ | refine blk_drew ?_ | refine blk_alloc ?_ _)); refine blk_put (cs := #[.int .i64 t385, .slice none 0 0]) ?_ 1 _ rfl; (with_reducible repeat (first | refine blk_drewN ?_ _ | refine blk_drew ?_ | refine blk_alloc ?_ _)); refine blk_put (cs := #[.int .i64 0, .slice none 0 0]) ?_ 0 _ rfl; exact lK BK392.out) hb); have n10_ := Aside0.mk (below_step (by repeat (first | (with_reducible first | exact HB.out | apply below_alloc | apply pw_below_drewN | apply below_drew1 | refine below_set ?_ (by first | exact GE284.out | exact GE309.out | exact GE334.out | exact GE392.out)) | exact HB.out)) hb); clear HO_9; clear HO_14; clear HO_310001; clear HO_335001; clear HO388; clear HO391; clear BK284; clear BK309; clear BK334; clear BK392; clear HB; have HO_9 := n0_; have HO_14 := n1_; have HO_310001 := n2_; have HO_335001 := n3_; have HO388 := n4_; have HO391 := n5_; have BK284 := n6_; have BK309 := n7_; have BK334 := n8_; have BK392 := n9_; have HB := n10_; clear n0_ n1_ n2_ n3_ n4_ n5_ n6_ n7_ n8_ n9_ n10_; (try clear hb); (try clear hb2); (try clear hk); (try clear hi); obtain ⟨Ao183, co183, eo183⟩ := Kd.R_slice HO391.out; subst eo183; obtain ⟨Ao184, co184, eo184⟩ := Kd.R_slice HO_9.out; subst eo184) | (go_at_call 29; (with_reducible refine (laws_eqIntS.calls kj93 _ _ t389 _ _ t306 t394 _ ?side1 ?side2 ?side3 ?side4 A174.out).mono ?_); (case side1 => exact lC <| (Kd.R_reads' HO391.out).2.2); (case side2 => exact (Kd.R_reads' HO391.out).2.1); (case side3 => exact lC <| (Kd.R_reads' HO_9.out).2.2); (case side4 => exact (Kd.R_reads' HO_9.out).2.1); rintro e w' ⟨rfl, ⟨nd, rfl⟩⟩))
                                    go_meet
                                    case rel => exact ⟨_, (!t394), (by first | rfl | (simp; done) | (simp [*]; done)), H', ⟨by have := HJ20.out; have := HJ93.out; first | omega | exact Nat.le_refl _⟩, ⟨by exact lR <| Kd.R_mono HO_14.out (fun _ hk => ⟨hk.1.1.2.1, ⟨hk.1.1.2.2, hk.1.2⟩⟩)⟩, ⟨by exact lR <| Kd.R_mono HO_310001.out (fun _ hk => ⟨hk.1.1.2.1, ⟨hk.1.1.2.2, hk.1.2⟩⟩)⟩, ⟨by exact lR <| Kd.R_mono HO_335001.out (fun _ hk => ⟨hk.1.1.2.1, ⟨hk.1.1.2.2, hk.1.2⟩⟩)⟩, ⟨by exact lR <| Kd.R_mono HO388.out (fun _ hk => ⟨hk.1.1.2, ⟨hk.1.2, hk.2⟩⟩)⟩, ⟨by exact lK <| BK284.out⟩, ⟨by exact lK <| BK309.out⟩, ⟨by exact lK <| BK334.out⟩, ⟨by exact lK <| BK392.out⟩, ⟨by repeat (first | (with_reducible first | exact HB.out | apply below_alloc | apply pw_below_drewN | apply below_drew1 | refine below_set ?_ (by first | exact GE284.out | exact GE309.out | exact GE334.out | exact GE392.out)) | exact HB.out)⟩⟩
                                  · replace c173 := Bool.eq_false_iff.mpr c173
                                    subst c173
                                    have H1 : (laws_FnExactRowDo.j2 kj93 t366 t365 true t327 t364) = some r := by rw [if_neg (show ¬ (false = true) by decide)] at H; exact H
                                    clear H
                                    have H := H1
                                    clear H1
                                    have H' := Aside0.mk H
                                    clear H
                                    have hnb185 := NB392_284.out
                                    have hnc185 := NB284_392.out
                                    have hnb186 := NB392_309.out
                                    have hnc186 := NB309_392.out
                                    have hnb187 := NB392_334.out
                                    have hnc187 := NB334_392.out
                                    have hcz188_0 : w166.cell? ⟨gb392, 0, none⟩ = some (.int .i64 0) := (blk_cell BK392.out 0).trans rfl
                                    have hcz188_1 : w166.cell? ⟨gb392, 1, none⟩ = some (.slice none 0 0) := (blk_cell BK392.out 1).trans rfl
                                    have hfz188_0 := blk_frozen BK392.out 0
                                    have hfz188_1 := blk_frozen BK392.out 1
                                    have hnb189 := NB309_284.out
                                    have hnc189 := NB284_309.out
                                    have hnb190 := NB309_334.out
                                    have hnc190 := NB334_309.out
                                    have hcz191_0 : w166.cell? ⟨gb309, 0, none⟩ = some (.int .i64 t302) := (blk_cell BK309.out 0).trans rfl
                                    have hcz191_1 : w166.cell? ⟨gb309, 1, none⟩ = some (.slice Ao38 t303.length co38) := (blk_cell BK309.out 1).trans rfl
                                    have hfz191_0 := blk_frozen BK309.out 0
                                    have hfz191_1 := blk_frozen BK309.out 1
                                    go_wp2_with (first | ((with_reducible refine gate_callee (f := 32) rfl ?_); refine goesL_ (some 133) rfl rfl Try.func32 (by kernel_rfl) rfl #[.agg #[.int .i64 t385, .slice Ao171 t386.length co171], .agg #[.int .i64 t302, .slice Ao38 t303.length co38]] rfl (by (try simp only [List.map_toArray, List.map_cons, List.map_nil]); first | done | rfl | (simp only [List.length_drop, List.length_take]; rfl)) ?_; (with_reducible refine (laws_eqResResult.calls kj93 t385 _ _ t386 t302 _ _ t303 false _ ?side1 ?side2 ?side3 ?side4 A172.out).mono ?_); (case side1 => refine (Kd.R_reads' (e := 3) (base := w.heap.size) (ok := fun k_ => ((((some k_ ≠ (v390 : Value).ownBlock ∧ some k_ ≠ (v307 : Value).ownBlock) ∧ some k_ ≠ (.slice Ao151 t331.length co151 : Value).ownBlock) ∧ some k_ ≠ (.slice Ao38 t303.length co38 : Value).ownBlock) ∧ some k_ ≠ (.slice Ao59 t328.length co59 : Value).ownBlock)) (n := t386.length) (c := co171) ?_).2.2; exact (by exact lR <| (Kd.R_mono (Kd.R_far (p := ⟨gb392, 1, none⟩) (Kd.R_far (p := ⟨gb392, 0, none⟩) (Kd.R_types HO388.out BK392.out (by decide)) (fun _ hk => hk.2) (.int .i64 t385)) (fun _ hk => hk.2) (.slice Ao171 t386.length co171)) (fun _ h_ => h_.1)))); (case side2 => exact (Kd.R_reads' HO388.out).2.1); (case side3 => refine (Kd.R_reads' (e := 3) (base := w.heap.size) (ok := fun k_ => (((some k_ ≠ (v307 : Value).ownBlock ∧ (some k_ ≠ (.slice Ao151 t331.length co151 : Value).ownBlock ∧ some k_ ≠ (.slice Ao59 t328.length co59 : Value).ownBlock)) ∧ some k_ ≠ (.slice Ao171 t386.length co171 : Value).ownBlock) ∧ some k_ ≠ (v390 : Value).ownBlock)) (n := t303.length) (c := co38) ?_).2.2; exact (by exact lR <| (Kd.R_mono (Kd.R_far (p := ⟨gb392, 1, none⟩) (Kd.R_far (p := ⟨gb392, 0, none⟩) (Kd.R_types HO_310001.out BK392.out (by decide)) (fun _ hk => hk.2) (.int .i64 t385)) (fun _ hk => hk.2) (.slice Ao171 t386.length co171)) (fun _ h_ => h_.1)))); (case side4 => exact (Kd.R_reads' HO_310001.out).2.1); rintro e w192 ⟨rfl, hb⟩; refine ⟨_, rfl, ?_⟩; have n0_ := Aside0.mk (Kd.R_below (by exact lR <| (Kd.R_mono (Kd.R_far (p := ⟨gb392, 1, none⟩) (Kd.R_far (p := ⟨gb392, 0, none⟩) (Kd.R_types HO_9.out BK392.out (by decide)) (fun _ hk => hk.2) (.int .i64 t385)) (fun _ hk => hk.2) (.slice Ao171 t386.length co171)) (fun _ h_ => h_.1))) hb); have n1_ := Aside0.mk (Kd.R_below (by exact lR <| (Kd.R_mono (Kd.R_far (p := ⟨gb392, 1, none⟩) (Kd.R_far (p := ⟨gb392, 0, none⟩) (Kd.R_types HO_14.out BK392.out (by decide)) (fun _ hk => hk.2) (.int .i64 t385)) (fun _ hk => hk.2) (.slice Ao171 t386.length co171)) (fun _ h_ => h_.1))) hb); have n2_ := Aside0.mk (Kd.R_below (by exact lR <| (Kd.R_mono (Kd.R_far (p := ⟨gb392, 1, none⟩) (Kd.R_far (p := ⟨gb392, 0, none⟩) (Kd.R_types HO_310001.out BK392.out (by decide)) (fun _ hk => hk.2) (.int .i64 t385)) (fun _ hk => hk.2) (.slice Ao171 t386.length co171)) (fun _ h_ => h_.1))) hb); have n3_ := Aside0.mk (Kd.R_below (by exact lR <| (Kd.R_mono (Kd.R_far (p := ⟨gb392, 1, none⟩) (Kd.R_far (p := ⟨gb392, 0, none⟩) (Kd.R_types HO_335001.out BK392.out (by decide)) (fun _ hk => hk.2) (.int .i64 t385)) (fun _ hk => hk.2) (.slice Ao171 t386.length co171)) (fun _ h_ => h_.1))) hb); have n4_ := Aside0.mk (Kd.R_below (by exact lR <| (Kd.R_mono (Kd.R_far (p := ⟨gb392, 1, none⟩) (Kd.R_far (p := ⟨gb392, 0, none⟩) (Kd.R_types HO388.out BK392.out (by decide)) (fun _ hk => hk.2) (.int .i64 t385)) (fun _ hk => hk.2) (.slice Ao171 t386.length co171)) (fun _ h_ => h_.1))) hb); have n5_ := Aside0.mk (Kd.R_below (by exact lR <| (Kd.R_mono (Kd.R_far (p := ⟨gb392, 1, none⟩) (Kd.R_far (p := ⟨gb392, 0, none⟩) (Kd.R_types HO391.out BK392.out (by decide)) (fun _ hk => hk.2) (.int .i64 t385)) (fun _ hk => hk.2) (.slice Ao171 t386.length co171)) (fun _ h_ => h_.1))) hb); have n6_ := Aside0.mk (blk_below (g := gb284) (o := .cells #[.slice A0_0 l0_0.length c0_0, .slice A0_1 l0_1.length c0_1, .slice A0_2 l0_2.length c0_2, .bool a0_3] 41 (0, 0)) (by (with_reducible repeat (first | refine blk_drewN ?_ _ | refine blk_drew ?_ | refine blk_alloc ?_ _)); refine blk_far ?_ NB284_392.out _; (with_reducible repeat (first | refine blk_drewN ?_ _ | refine blk_drew ?_ | refine blk_alloc ?_ _)); refine blk_far ?_ NB284_392.out _; exact lK BK284.out) hb); have n7_ := Aside0.mk (blk_below (g := gb309) (o := .cells #[.int .i64 t302, .slice Ao38 t303.length co38] 54 (0, 0)) (by (with_reducible repeat (first | refine blk_drewN ?_ _ | refine blk_drew ?_ | refine blk_alloc ?_ _)); refine blk_far ?_ NB309_392.out _; (with_reducible repeat (first | refine blk_drewN ?_ _ | refine blk_drew ?_ | refine blk_alloc ?_ _)); refine blk_far ?_ NB309_392.out _; exact lK BK309.out) hb); have n8_ := Aside0.mk (blk_below (g := gb334) (o := .cells #[.int .i64 t327, .slice Ao59 t328.length co59] 54 (0, 0)) (by (with_reducible repeat (first | refine blk_drewN ?_ _ | refine blk_drew ?_ | refine blk_alloc ?_ _)); refine blk_far ?_ NB334_392.out _; (with_reducible repeat (first | refine blk_drewN ?_ _ | refine blk_drew ?_ | refine blk_alloc ?_ _)); refine blk_far ?_ NB334_392.out _; exact lK BK334.out) hb); have n9_ := Aside0.mk (blk_below (g := gb392) (o := .cells #[.int .i64 t385, .slice Ao171 t386.length co171] 54 (0, 0)) (by (with_reducible repeat (first | refine blk_drewN ?_ _ | refine blk_drew ?_ | refine blk_alloc ?_ _)); refine blk_put (cs := #[.int .i64 t385, .slice none 0 0]) ?_ 1 _ rfl; (with_reducible repeat (first | refine blk_drewN ?_ _ | refine blk_drew ?_ | refine blk_alloc ?_ _)); refine blk_put (cs := #[.int .i64 0, .slice none 0 0]) ?_ 0 _ rfl; exact lK BK392.out) hb); have n10_ := Aside0.mk (below_step (by repeat (first | (with_reducible first | exact HB.out | apply below_alloc | apply pw_below_drewN | apply below_drew1 | refine below_set ?_ (by first | exact GE284.out | exact GE309.out | exact GE334.out | exact GE392.out)) | exact HB.out)) hb); clear HO_9; clear HO_14; clear HO_310001; clear HO_335001; clear HO388; clear HO391; clear BK284; clear BK309; clear BK334; clear BK392; clear HB; have HO_9 := n0_; have HO_14 := n1_; have HO_310001 := n2_; have HO_335001 := n3_; have HO388 := n4_; have HO391 := n5_; have BK284 := n6_; have BK309 := n7_; have BK334 := n8_; have BK392 := n9_; have HB := n10_; clear n0_ n1_ n2_ n3_ n4_ n5_ n6_ n7_ n8_ n9_ n10_; (try clear hb); (try clear hb2); (try clear hk); (try clear hi)))
                                    go_meet
                                    case rel => exact ⟨_, (true), (by first | rfl | (simp; done) | (simp [*]; done)), H', ⟨by have := HJ20.out; have := HJ93.out; first | omega | exact Nat.le_refl _⟩, ⟨by exact lR <| Kd.R_mono HO_14.out (fun _ hk => ⟨hk.1.1.2.1, ⟨hk.1.1.2.2, hk.1.2⟩⟩)⟩, ⟨by exact lR <| Kd.R_mono HO_310001.out (fun _ hk => ⟨hk.1.1.2.1, ⟨hk.1.1.2.2, hk.1.2⟩⟩)⟩, ⟨by exact lR <| Kd.R_mono HO_335001.out (fun _ hk => ⟨hk.1.1.2.1, ⟨hk.1.1.2.2, hk.1.2⟩⟩)⟩, ⟨by exact lR <| Kd.R_mono HO388.out (fun _ hk => ⟨hk.1.1.2, ⟨hk.1.2, hk.2⟩⟩)⟩, ⟨by exact lK <| BK284.out⟩, ⟨by exact lK <| BK309.out⟩, ⟨by exact lK <| BK334.out⟩, ⟨by exact lK <| BK392.out⟩, ⟨by repeat (first | (with_reducible first | exact HB.out | apply below_alloc | apply pw_below_drewN | apply below_drew1 | refine below_set ?_ (by first | exact GE284.out | exact GE309.out | exact GE334.out | exact GE392.out)) | exact HB.out)⟩⟩
                                case rest =>
                                  clear HC146
                                  try clear c1
                                  try clear c2
                                  try clear p2
                                  try clear c3
                                  try clear c4
                                  try clear c4b0
                                  try clear c4b1
                                  try clear c5
                                  try clear c6
                                  try clear c6b0
                                  try clear c6b1
                                  try clear c7
                                  try clear c8
                                  try clear c9
                                  try clear c9b0
                                  try clear c10
                                  try clear c11
                                  try clear c12
                                  try clear c13
                                  try clear c14
                                  try clear c15
                                  try clear c16
                                  try clear c17
                                  try clear c18
                                  try clear c19
                                  try clear c21
                                  try clear c23
                                  try clear c25
                                  try clear c27
                                  try clear c29
                                  try clear c30
                                  try clear c31
                                  try clear c32
                                  try clear c33
                                  try clear c34
                                  try clear c35
                                  try clear c36
                                  try clear c37
                                  try clear c43
                                  try clear c44
                                  try clear c55
                                  try clear c56
                                  try clear c57
                                  try clear c61
                                  try clear c63
                                  try clear c64
                                  try clear c65
                                  try clear c67
                                  try clear c68
                                  try clear c73
                                  try clear c74
                                  try clear c75
                                  try clear c77
                                  try clear c78
                                  try clear c81
                                  try clear c84
                                  try clear c87
                                  try clear c90
                                  try clear c105
                                  try clear c106
                                  try clear c107
                                  try clear c112
                                  try clear c112b0
                                  try clear c114
                                  try clear c116
                                  try clear c117
                                  try clear c118
                                  try clear c120
                                  try clear c121
                                  try clear c126
                                  try clear c127
                                  try clear c128
                                  try clear c130
                                  try clear c131
                                  try clear c134
                                  try clear c138
                                  try clear c138b0
                                  try clear c140
                                  try clear c140b0
                                  try clear c141
                                  try clear c141b0
                                  try clear c141b1
                                  try clear c147
                                  try clear c148
                                  try clear c155
                                  try clear c167
                                  try clear c168
                                  try clear c169
                                  try clear c173
                                  try clear c175
                                  try clear c176
                                  try clear c177
                                  try clear c179
                                  try clear c180
                                  try clear c185
                                  try clear c186
                                  try clear c187
                                  try clear c189
                                  try clear c190
                                  try clear hcz108_0
                                  try clear hcz108_1
                                  try clear hcz108_2
                                  try clear hcz108_3
                                  try clear hcz119_0
                                  try clear hcz119_1
                                  try clear hcz11_0
                                  try clear hcz11_1
                                  try clear hcz11_2
                                  try clear hcz11_3
                                  try clear hcz122_0
                                  try clear hcz122_1
                                  try clear hcz129_0
                                  try clear hcz129_1
                                  try clear hcz132_0
                                  try clear hcz132_1
                                  try clear hcz149_0
                                  try clear hcz149_1
                                  try clear hcz153_0
                                  try clear hcz153_1
                                  try clear hcz156_0
                                  try clear hcz156_1
                                  try clear hcz156_2
                                  try clear hcz156_3
                                  try clear hcz170_0
                                  try clear hcz170_1
                                  try clear hcz178_0
                                  try clear hcz178_1
                                  try clear hcz181_0
                                  try clear hcz181_1
                                  try clear hcz188_0
                                  try clear hcz188_1
                                  try clear hcz191_0
                                  try clear hcz191_1
                                  try clear hcz23_0
                                  try clear hcz23_1
                                  try clear hcz23_2
                                  try clear hcz23_3
                                  try clear hcz25_0
                                  try clear hcz25_1
                                  try clear hcz25_2
                                  try clear hcz25_3
                                  try clear hcz37_0
                                  try clear hcz37_1
                                  try clear hcz39_0
                                  try clear hcz39_1
                                  try clear hcz39_2
                                  try clear hcz39_3
                                  try clear hcz45_0
                                  try clear hcz45_1
                                  try clear hcz45_2
                                  try clear hcz45_3
                                  try clear hcz50_0
                                  try clear hcz50_1
                                  try clear hcz50_2
                                  try clear hcz50_3
                                  try clear hcz58_0
                                  try clear hcz58_1
                                  try clear hcz66_0
                                  try clear hcz66_1
                                  try clear hcz69_0
                                  try clear hcz69_1
                                  try clear hcz76_0
                                  try clear hcz76_1
                                  try clear hcz79_0
                                  try clear hcz79_1
                                  try clear hfz108_0
                                  try clear hfz108_1
                                  try clear hfz108_2
                                  try clear hfz108_3
                                  try clear hfz119_0
                                  try clear hfz119_1
                                  try clear hfz11_0
                                  try clear hfz11_1
                                  try clear hfz11_2
                                  try clear hfz11_3
                                  try clear hfz122_0
                                  try clear hfz122_1
                                  try clear hfz129_0
                                  try clear hfz129_1
                                  try clear hfz132_0
                                  try clear hfz132_1
                                  try clear hfz149_0
                                  try clear hfz149_1
                                  try clear hfz153_0
                                  try clear hfz153_1
                                  try clear hfz156_0
                                  try clear hfz156_1
                                  try clear hfz156_2
                                  try clear hfz156_3
                                  try clear hfz170_0
                                  try clear hfz170_1
                                  try clear hfz178_0
                                  try clear hfz178_1
                                  try clear hfz181_0
                                  try clear hfz181_1
                                  try clear hfz188_0
                                  try clear hfz188_1
                                  try clear hfz191_0
                                  try clear hfz191_1
                                  try clear hfz23_0
                                  try clear hfz23_1
                                  try clear hfz23_2
                                  try clear hfz23_3
                                  try clear hfz25_0
                                  try clear hfz25_1
                                  try clear hfz25_2
                                  try clear hfz25_3
                                  try clear hfz37_0
                                  try clear hfz37_1
                                  try clear hfz39_0
                                  try clear hfz39_1
                                  try clear hfz39_2
                                  try clear hfz39_3
                                  try clear hfz45_0
                                  try clear hfz45_1
                                  try clear hfz45_2
                                  try clear hfz45_3
                                  try clear hfz50_0
                                  try clear hfz50_1
                                  try clear hfz50_2
                                  try clear hfz50_3
                                  try clear hfz58_0
                                  try clear hfz58_1
                                  try clear hfz66_0
                                  try clear hfz66_1
                                  try clear hfz69_0
                                  try clear hfz69_1
                                  try clear hfz76_0
                                  try clear hfz76_1
                                  try clear hfz79_0
                                  try clear hfz79_1
                                  try clear p2
                                  obtain ⟨kq, x140_145, rfl, HA, HJ145, HO_14, HO_310001, HO_335001, HO_393001, BK284, BK309, BK334, BK392, HB⟩ := hcut
                                  have hl14_145 := (Kd.R_reads' HO_14.out).1
                                  rw [hl14_145] at HO_14
                                  (try simp only [hl14_145])
                                  (try simp only [hl14_145] at BK284)
                                  (try simp only [hl14_145] at BK309)
                                  (try simp only [hl14_145] at BK334)
                                  (try simp only [hl14_145] at BK392)
                                  (try simp only [hl14_145] at HO_310001)
                                  (try simp only [hl14_145] at HO_335001)
                                  (try simp only [hl14_145] at HO_393001)
                                  have hl335001_145 := (Kd.R_reads' HO_335001.out).1
                                  rw [hl335001_145] at HO_335001
                                  (try simp only [hl335001_145])
                                  (try simp only [hl335001_145] at BK284)
                                  (try simp only [hl335001_145] at BK309)
                                  (try simp only [hl335001_145] at BK334)
                                  (try simp only [hl335001_145] at BK392)
                                  (try simp only [hl335001_145] at HO_14)
                                  (try simp only [hl335001_145] at HO_310001)
                                  (try simp only [hl335001_145] at HO_393001)
                                  cases kq with
                                  | zero => exact absurd HA.out (by simp [laws_FnExactRowDo.j2])
                                  | succ kj145 =>
                                    have H := HA.out
                                    clear HA
                                    simp only [laws_FnExactRowDo.j2] at H
                                    by_cases c193 : x140_145 = true
                                    · subst c193
                                      have H1 : (some false) = some r := by rw [if_pos rfl] at H; exact H
                                      clear H
                                      have H := H1
                                      clear H1
                                      exact absurd (Option.some.inj H) (by rw [hr.out]; decide)
                                    · replace c193 := Bool.eq_false_iff.mpr c193
                                      subst c193
                                      have H1 : ((laws_heldResResult.f kj145 t327 t364 1).bind fun t395 => (if t395 < 0 then (some false) else ((laws_heldIntS.f kj145 t366 t395).bind fun t396 => (if t396 < 0 then (some false) else (if t396 = t365 then (some true) else (some false)))))) = some r := by rw [if_neg (show ¬ (false = true) by decide)] at H; exact H
                                      clear H
                                      have H := H1
                                      clear H1
                                      replace H := Option.bind_eq_some_iff.mp H
                                      obtain ⟨t395, A1940, H⟩ := H
                                      replace H : (if t395 < 0 then (some false) else ((laws_heldIntS.f kj145 t366 t395).bind fun t396 => (if t396 < 0 then (some false) else (if t396 = t365 then (some true) else (some false))))) = some r := H
                                      have A194 := Aside0.mk A1940
                                      clear A1940
                                      by_cases c195 : t395 < 0
                                      · rw [if_pos c195] at H
                                        have c195b0 : decide (t395 < 0) = true := decide_eq_true c195
                                        clear c195
                                        exact absurd (Option.some.inj H) (by rw [hr.out]; decide)
                                      · rw [if_neg c195] at H
                                        have c195b0 : decide (t395 < 0) = false := decide_eq_false c195
                                        clear c195
                                        replace H := Option.bind_eq_some_iff.mp H
                                        obtain ⟨t396, A1960, H⟩ := H
                                        replace H : (if t396 < 0 then (some false) else (if t396 = t365 then (some true) else (some false))) = some r := H
                                        have A196 := Aside0.mk A1960
                                        clear A1960
                                        by_cases c197 : t396 < 0
                                        · rw [if_pos c197] at H
                                          have c197b0 : decide (t396 < 0) = true := decide_eq_true c197
                                          clear c197
                                          exact absurd (Option.some.inj H) (by rw [hr.out]; decide)
                                        · rw [if_neg c197] at H
                                          have c197b0 : decide (t396 < 0) = false := decide_eq_false c197
                                          clear c197
                                          by_cases c198 : t396 = t365
                                          · rw [if_pos c198] at H
                                            have c198b0 : (t396 == t365) = true := beq_iff_eq.mpr c198
                                            have c198b1 : (t396 != t365) = false := bne_eq_false_iff_eq.mpr c198
                                            clear c198
                                            obtain rfl := Option.some.inj H
                                            have n_ := Aside0.mk (Kd.R_mono (ok' := fun k_ => (some k_ ≠ (.slice Ao38 t303.length co38 : Value).ownBlock ∧ some k_ ≠ (.slice Ao59 t364.length co59 : Value).ownBlock)) HO_14.out (fun _ hk => ⟨hk.1, hk.2.1⟩))
                                            clear HO_14
                                            have HO_14 := n_
                                            clear n_
                                            have n_ := Aside0.mk (Kd.R_mono (ok' := fun k_ => (some k_ ≠ (.slice Ao151 t366.length co151 : Value).ownBlock ∧ some k_ ≠ (.slice Ao59 t364.length co59 : Value).ownBlock)) HO_310001.out (fun _ hk => ⟨hk.1, hk.2.1⟩))
                                            clear HO_310001
                                            have HO_310001 := n_
                                            clear n_
                                            have n_ := Aside0.mk (Kd.R_mono (ok' := fun k_ => (some k_ ≠ (.slice Ao151 t366.length co151 : Value).ownBlock ∧ some k_ ≠ (.slice Ao38 t303.length co38 : Value).ownBlock)) HO_335001.out (fun _ hk => ⟨hk.1, hk.2.1⟩))
                                            clear HO_335001
                                            have HO_335001 := n_
                                            clear n_
                                            have hnb199 := NB334_284.out
                                            have hnc199 := NB284_334.out
                                            have hnb200 := NB334_309.out
                                            have hnc200 := NB309_334.out
                                            have hnb201 := NB334_392.out
                                            have hnc201 := NB392_334.out
                                            have hcz202_0 : wc.cell? ⟨gb334, 0, none⟩ = some (.int .i64 t327) := (blk_cell BK334.out 0).trans rfl
                                            have hcz202_1 : wc.cell? ⟨gb334, 1, none⟩ = some (.slice Ao59 t364.length co59) := (blk_cell BK334.out 1).trans rfl
                                            have hfz202_0 := blk_frozen BK334.out 0
                                            have hfz202_1 := blk_frozen BK334.out 1
                                            go_wp2_with (first | ((with_reducible refine gate_callee (f := 36) rfl ?_); refine goesL_ (some 143) rfl rfl Try.func36 (by kernel_rfl) rfl #[.agg #[.int .i64 t327, .slice Ao59 t364.length co59], .int .i64 1] rfl (by (try simp only [List.map_toArray, List.map_cons, List.map_nil]); first | done | rfl | (simp only [List.length_drop, List.length_take]; rfl)) ?_; (with_reducible refine (laws_heldResResult.calls kj145 t327 _ _ t364 1 t395 _ ?side1 ?side2 A194.out).mono ?_); (case side1 => exact lC <| (Kd.R_reads' HO_335001.out).2.2); (case side2 => exact (Kd.R_reads' HO_335001.out).2.1); rintro e w203 ⟨rfl, hb⟩; refine ⟨_, rfl, ?_⟩; have n0_ := Aside0.mk (Kd.R_below (by exact lR HO_14.out) hb); have n1_ := Aside0.mk (Kd.R_below (by exact lR HO_310001.out) hb); have n2_ := Aside0.mk (Kd.R_below (by exact lR HO_335001.out) hb); have n3_ := Aside0.mk (blk_below (g := gb284) (o := .cells #[.slice A0_0 l0_0.length c0_0, .slice A0_1 l0_1.length c0_1, .slice A0_2 l0_2.length c0_2, .bool a0_3] 41 (0, 0)) (by exact lK BK284.out) hb); have n4_ := Aside0.mk (blk_below (g := gb309) (o := .cells #[.int .i64 t302, .slice Ao38 t303.length co38] 54 (0, 0)) (by exact lK BK309.out) hb); have n5_ := Aside0.mk (blk_below (g := gb334) (o := .cells #[.int .i64 t327, .slice Ao59 t364.length co59] 54 (0, 0)) (by exact lK BK334.out) hb); have n6_ := Aside0.mk (blk_below (g := gb392) (o := .cells #[.int .i64 t385, .slice Ao171 t386.length co171] 54 (0, 0)) (by exact lK BK392.out) hb); have n7_ := Aside0.mk (below_step (by repeat (first | (with_reducible first | exact HB.out | apply below_alloc | apply pw_below_drewN | apply below_drew1 | refine below_set ?_ (by first | exact GE284.out | exact GE309.out | exact GE334.out | exact GE392.out)) | exact HB.out)) hb); clear HO_14; clear HO_310001; clear HO_335001; clear BK284; clear BK309; clear BK334; clear BK392; clear HB; have HO_14 := n0_; have HO_310001 := n1_; have HO_335001 := n2_; have BK284 := n3_; have BK309 := n4_; have BK334 := n5_; have BK392 := n6_; have HB := n7_; clear n0_ n1_ n2_ n3_ n4_ n5_ n6_ n7_; (try clear hb); (try clear hb2); (try clear hk); (try clear hi)) | ((with_reducible refine gate_callee (f := 37) rfl ?_); refine goesL_ (some 148) rfl rfl Try.func37 (by kernel_rfl) rfl #[.slice Ao151 t366.length co151, .int .i64 t395] rfl (by (try simp only [List.map_toArray, List.map_cons, List.map_nil]); first | done | rfl | (simp only [List.length_drop, List.length_take]; rfl)) ?_; (with_reducible refine (laws_heldIntS.calls kj145 _ _ t366 t395 t396 _ ?side1 ?side2 A196.out).mono ?_); (case side1 => exact lC <| (Kd.R_reads' HO_14.out).2.2); (case side2 => exact (Kd.R_reads' HO_14.out).2.1); rintro e w' ⟨rfl, ⟨nd, rfl⟩⟩; refine ⟨_, rfl, ?_⟩))
                                            go_ret
                                            exact ⟨by first | rfl | (simp [errW_none, errW_some] <;> rfl) | (simp [*, errW_none, errW_some] <;> rfl), by repeat (first | (with_reducible first | exact HB.out | apply below_alloc | apply pw_below_drewN | apply below_drew1 | refine below_set ?_ (by first | exact GE284.out | exact GE309.out | exact GE334.out | exact GE392.out)) | exact HB.out)⟩
                                          · rw [if_neg c198] at H
                                            have c198b0 : (t396 == t365) = false := beq_eq_false_iff_ne.mpr c198
                                            have c198b1 : (t396 != t365) = true := bne_iff_ne.mpr c198
                                            exact absurd (Option.some.inj H) (by rw [hr.out]; decide)
                              · rw [if_neg c141] at H
                                have c141b0 : (t368 == t365) = false := beq_eq_false_iff_ne.mpr c141
                                have c141b1 : (t368 != t365) = true := bne_iff_ne.mpr c141
                                exact absurd (Option.some.inj H) (by rw [hr.out]; decide)
                  · replace c90 := Bool.eq_false_iff.mpr c90
                    subst c90
                    have H1 : (some false) = some r := by rw [if_neg (show ¬ (false = true) by decide)] at H; exact H
                    clear H
                    have H := H1
                    clear H1
                    exact absurd (Option.some.inj H) (by rw [hr.out]; decide)
                · replace c87 := Bool.eq_false_iff.mpr c87
                  subst c87
                  have H1 : (some false) = some r := by rw [if_neg (show ¬ (false = true) by decide)] at H; exact H
                  clear H
                  have H := H1
                  clear H1
                  exact absurd (Option.some.inj H) (by rw [hr.out]; decide)
              · replace c84 := Bool.eq_false_iff.mpr c84
                subst c84
                have H1 : (some false) = some r := by rw [if_neg (show ¬ (false = true) by decide)] at H; exact H
                clear H
                have H := H1
                clear H1
                exact absurd (Option.some.inj H) (by rw [hr.out]; decide)

/-- THE ONE PURE STATEMENT of laws_FnExactRowDo. -/
def laws_FnExactRowDo.Pure : Prop := ∀ (l0_0 : List (S24)) (l0_1 : List (S24)) (l0_2 : List (S24)) (a0_3 : Bool) (l1 : List Int) (l2 : List Int), (l0_0.length ≤ 9223372036854775807 ∧ ∀ x0 ∈ l0_0, ((x0.f0.length ≤ 9223372036854775807 ∧ ∀ x1 ∈ x0.f0, (Lit.int .i64 x1).wf = true) ∧ (x0.f1.length ≤ 9223372036854775807 ∧ ∀ x2 ∈ x0.f1, (Lit.int .i64 x2).wf = true) ∧ (Lit.int .i64 x0.f2).wf = true)) → (l0_1.length ≤ 9223372036854775807 ∧ ∀ x3 ∈ l0_1, ((x3.f0.length ≤ 9223372036854775807 ∧ ∀ x4 ∈ x3.f0, (Lit.int .i64 x4).wf = true) ∧ (x3.f1.length ≤ 9223372036854775807 ∧ ∀ x5 ∈ x3.f1, (Lit.int .i64 x5).wf = true) ∧ (Lit.int .i64 x3.f2).wf = true)) → (l0_2.length ≤ 9223372036854775807 ∧ ∀ x6 ∈ l0_2, ((x6.f0.length ≤ 9223372036854775807 ∧ ∀ x7 ∈ x6.f0, (Lit.int .i64 x7).wf = true) ∧ (x6.f1.length ≤ 9223372036854775807 ∧ ∀ x8 ∈ x6.f1, (Lit.int .i64 x8).wf = true) ∧ (Lit.int .i64 x6.f2).wf = true)) → (l1.length ≤ 9223372036854775807 ∧ ∀ x9 ∈ l1, (Lit.int .i64 x9).wf = true) → (l2.length ≤ 9223372036854775807 ∧ ∀ x10 ∈ l2, (Lit.int .i64 x10).wf = true) → ∃ k, laws_FnExactRowDo.f k l0_0 l0_1 l0_2 a0_3 l1 l2 = some true
theorem laws_FnExactRowDo.walk (P : laws_FnExactRowDo.Pure) (A0_0 : Option Addr) (c0_0 : Nat) (l0_0 : List (S24)) (A0_1 : Option Addr) (c0_1 : Nat) (l0_1 : List (S24)) (A0_2 : Option Addr) (c0_2 : Nat) (l0_2 : List (S24)) (a0_3 : Bool) (A1 : Option Addr) (c1 : Nat) (l1 : List Int) (A2 : Option Addr) (c2 : Nat) (l2 : List Int) (w : World) (hr0_0 : Kd.C k24 w A0_0 l0_0.length l0_0) (hc0_0 : l0_0.length ≤ c0_0) (hr0_1 : Kd.C k24 w A0_1 l0_1.length l0_1) (hc0_1 : l0_1.length ≤ c0_1) (hr0_2 : Kd.C k24 w A0_2 l0_2.length l0_2) (hc0_2 : l0_2.length ≤ c0_2) (hr1 : Kd.C (Kd.int .i64) w A1 l1.length l1) (hc1 : l1.length ≤ c1) (hr2 : Kd.C (Kd.int .i64) w A2 l2.length l2) (hc2 : l2.length ≤ c2) (hw0_0 : (l0_0.length ≤ 9223372036854775807 ∧ ∀ x0 ∈ l0_0, ((x0.f0.length ≤ 9223372036854775807 ∧ ∀ x1 ∈ x0.f0, (Lit.int .i64 x1).wf = true) ∧ (x0.f1.length ≤ 9223372036854775807 ∧ ∀ x2 ∈ x0.f1, (Lit.int .i64 x2).wf = true) ∧ (Lit.int .i64 x0.f2).wf = true))) (hw0_1 : (l0_1.length ≤ 9223372036854775807 ∧ ∀ x3 ∈ l0_1, ((x3.f0.length ≤ 9223372036854775807 ∧ ∀ x4 ∈ x3.f0, (Lit.int .i64 x4).wf = true) ∧ (x3.f1.length ≤ 9223372036854775807 ∧ ∀ x5 ∈ x3.f1, (Lit.int .i64 x5).wf = true) ∧ (Lit.int .i64 x3.f2).wf = true))) (hw0_2 : (l0_2.length ≤ 9223372036854775807 ∧ ∀ x6 ∈ l0_2, ((x6.f0.length ≤ 9223372036854775807 ∧ ∀ x7 ∈ x6.f0, (Lit.int .i64 x7).wf = true) ∧ (x6.f1.length ≤ 9223372036854775807 ∧ ∀ x8 ∈ x6.f1, (Lit.int .i64 x8).wf = true) ∧ (Lit.int .i64 x6.f2).wf = true))) (hw1 : (l1.length ≤ 9223372036854775807 ∧ ∀ x9 ∈ l1, (Lit.int .i64 x9).wf = true)) (hw2 : (l2.length ≤ 9223372036854775807 ∧ ∀ x10 ∈ l2, (Lit.int .i64 x10).wf = true)) :
    Calls Try.prog 7 #[.agg #[.slice A0_0 l0_0.length c0_0, .slice A0_1 l0_1.length c0_1, .slice A0_2 l0_2.length c0_2, .bool a0_3], .slice A1 l1.length c1, .slice A2 l2.length c2] w fun e w' => e = .returned (.bool true) ∧ Below w.heap.size w w' := by
  obtain ⟨k, h⟩ := P l0_0 l0_1 l0_2 a0_3 l1 l2 hw0_0 hw0_1 hw0_2 hw1 hw2
  refine (laws_FnExactRowDo.calls k A0_0 c0_0 l0_0 A0_1 c0_1 l0_1 A0_2 c0_2 l0_2 a0_3 A1 c1 l1 A2 c2 l2 true w ⟨rfl⟩ hr0_0 hc0_0 hr0_1 hc0_1 hr0_2 hc0_2 hr1 hc1 hr2 hc2 h).mono ?_
  rintro e w' ⟨rfl, hd⟩
  exact ⟨rfl, hd⟩

end Go.Proofs.Ytfbdjimcjoddgaa.QFnExactRowDo
