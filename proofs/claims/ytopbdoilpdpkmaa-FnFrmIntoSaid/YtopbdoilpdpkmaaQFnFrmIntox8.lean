/- Plain functions, and that the Go code computes them: written by a program of this session over the seat's translation; the conditions stand in each theorem. -/
import Derived.Test.YtopbdoilpdpkmaaQFnFrmIntox0
import Derived.Test.YtopbdoilpdpkmaaQFnFrmIntox6
import Derived.Test.YtopbdoilpdpkmaaQFnFrmIntox7
namespace Go.Proofs.Ytopbdoilpdpkmaa.QFnFrmInto
open Go.RowKit Go.Proofs.YtopbdoilpdpkmaaW.PrintWords Go.Proofs.YtopbdoilpdpkmaaW.PrintLast Go.Proofs.YtopbdoilpdpkmaaW.PrintMore Go.Proofs.Ytopbdoilpdpkmaa.HWords
attribute [local go_sem] max2_int min2_int max_two min_two max_three min_three max_four min_four   -- for this text's walks alone
set_option linter.unusedVariables false
set_option linter.unusedSimpArgs false

/-! ### spec_FrmInto: function 9 -/
mutual
def spec_FrmInto.j0 : Nat → List (S25) → Bool → List Int → List Int → Int → Option (List Int × List Int × Int)
 | 0, _, _, _, _, _ => none
 | k + 1, x1, x35, x365000, x365001, x365002 => if x35 = true then (some (([] : List Int), ([] : List Int), 0)) else ((some (([] : List Int) : List Int)).bind fun y376 => (if y376.length + x365001.length < 17592186044416 then (spec_FrmInto.l0 k x1 0 x365000 x365001 x365002 (([0, 0, 0] : List Int)) (y376 ++ x365001) x365002) else (none)))
def spec_FrmInto.l0 : Nat → List (S25) → Int → List Int → List Int → Int → List Int → List Int → Int → Option (List Int × List Int × Int)
 | 0, _, _, _, _, _, _, _, _ => none
 | k + 1, x1, x6, x365000, x365001, x365002, x383000, x383001, x383002 => if x6 < 3 then (if 0 ≤ x6 then (if x6 < (x1.length : Int) then (if x6 < (x365000.length : Int) then ((spec_l1Sum.f k x383000 x383001 x383002 ((rd_T25 x1 x6).f0) ((rd_T25 x1 x6).f1) ((rd_T25 x1 x6).f2) (rd x365000 x6)).bind fun bt385 => (spec_FrmInto.l0 k x1 (wrap64 (x6 + 1)) x365000 x365001 x365002 bt385.1 bt385.2.1 bt385.2.2)) else (none)) else (none)) else (none)) else ((spec_FrmOk.f k x383000 x383001 x383002).bind fun t392 => (if t392 = true then (some (x383000, x383001, x383002)) else (some (([] : List Int), ([] : List Int), 0))))
end
def spec_FrmInto.f (k : Nat) (l0_0 : List Int) (l0_1 : List Int) (a0_2 : Int) (l1 : List (S25)) : Option (List Int × List Int × Int) := (spec_FrmOk.f k l0_0 l0_1 a0_2).bind fun t366 => (if t366 = true then (if (l1.length : Int) = 3 then (if 0 < (l1.length : Int) then ((spec_FrmOk.f k ((rd_T25 l1 0).f0) ((rd_T25 l1 0).f1) ((rd_T25 l1 0).f2)).bind fun t368 => (if t368 = true then (if 1 < (l1.length : Int) then ((spec_FrmOk.f k ((rd_T25 l1 1).f0) ((rd_T25 l1 1).f1) ((rd_T25 l1 1).f2)).bind fun t370 => (if t370 = true then (if 2 < (l1.length : Int) then ((spec_FrmOk.f k ((rd_T25 l1 2).f0) ((rd_T25 l1 2).f1) ((rd_T25 l1 2).f2)).bind fun t372 => (spec_FrmInto.j0 k l1 (!t372) l0_0 l0_1 a0_2)) else (none)) else (spec_FrmInto.j0 k l1 true l0_0 l0_1 a0_2))) else (none)) else (spec_FrmInto.j0 k l1 true l0_0 l0_1 a0_2))) else (none)) else (spec_FrmInto.j0 k l1 true l0_0 l0_1 a0_2)) else (spec_FrmInto.j0 k l1 true l0_0 l0_1 a0_2))
theorem spec_FrmInto.mono_l : ∀ k, (∀ y0 y1 y2 y3 y4, LeO (spec_FrmInto.j0 k y0 y1 y2 y3 y4) (spec_FrmInto.j0 (k + 1) y0 y1 y2 y3 y4)) ∧ (∀ y0 y1 y2 y3 y4 y5 y6 y7, LeO (spec_FrmInto.l0 k y0 y1 y2 y3 y4 y5 y6 y7) (spec_FrmInto.l0 (k + 1) y0 y1 y2 y3 y4 y5 y6 y7))
 | 0 => ⟨fun _ _ _ _ _ r h => by simp [spec_FrmInto.j0] at h, fun _ _ _ _ _ _ _ _ r h => by simp [spec_FrmInto.l0] at h⟩
 | k + 1 => by
  obtain ⟨ih0, ih1⟩ := spec_FrmInto.mono_l k
  refine ⟨?_, ?_⟩
  ·intro y0 y1 y2 y3 y4
   unfold spec_FrmInto.j0
   repeat' first
   | (with_reducible exact ih0 _ _ _ _ _)
   | (with_reducible exact ih1 _ _ _ _ _ _ _ _)
   | (with_reducible exact spec_FrmOk.mono _ _ _ _)
   | (with_reducible exact spec_l1Sum.mono _ _ _ _ _ _ _ _)
   | (with_reducible exact LeO.refl _)
   | (with_reducible exact LeO.none _)
   | (with_reducible refine LeO.ite ?_ ?_)
   | (with_reducible refine LeO.bind ?_ (fun _ => ?_))
   | exact ih0 _ _ _ _ _
   | exact ih1 _ _ _ _ _ _ _ _
   | exact spec_FrmOk.mono _ _ _ _
   | exact spec_l1Sum.mono _ _ _ _ _ _ _ _
   | exact LeO.none _
   | refine LeO.ite ?_ ?_
   | refine LeO.bind ?_ (fun _ => ?_)
  ·intro y0 y1 y2 y3 y4 y5 y6 y7
   unfold spec_FrmInto.l0
   repeat' first
   | (with_reducible exact ih0 _ _ _ _ _)
   | (with_reducible exact ih1 _ _ _ _ _ _ _ _)
   | (with_reducible exact spec_FrmOk.mono _ _ _ _)
   | (with_reducible exact spec_l1Sum.mono _ _ _ _ _ _ _ _)
   | (with_reducible exact LeO.refl _)
   | (with_reducible exact LeO.none _)
   | (with_reducible refine LeO.ite ?_ ?_)
   | (with_reducible refine LeO.bind ?_ (fun _ => ?_))
   | exact ih0 _ _ _ _ _
   | exact ih1 _ _ _ _ _ _ _ _
   | exact spec_FrmOk.mono _ _ _ _
   | exact spec_l1Sum.mono _ _ _ _ _ _ _ _
   | exact LeO.none _
   | refine LeO.ite ?_ ?_
   | refine LeO.bind ?_ (fun _ => ?_)
theorem spec_FrmInto.mono : ∀ a0 a1 a2 a3 k, LeO (spec_FrmInto.f k a0 a1 a2 a3) (spec_FrmInto.f (k + 1) a0 a1 a2 a3) := by
 intro a0 a1 a2 a3 k
 obtain ⟨ih0, ih1⟩ := spec_FrmInto.mono_l k
 unfold spec_FrmInto.f
 repeat' first
   | (with_reducible exact ih0 _ _ _ _ _)
   | (with_reducible exact ih1 _ _ _ _ _ _ _ _)
   | (with_reducible exact spec_FrmOk.mono _ _ _ _)
   | (with_reducible exact spec_l1Sum.mono _ _ _ _ _ _ _ _)
   | (with_reducible exact LeO.refl _)
   | (with_reducible exact LeO.none _)
   | (with_reducible refine LeO.ite ?_ ?_)
   | (with_reducible refine LeO.bind ?_ (fun _ => ?_))
   | exact ih0 _ _ _ _ _
   | exact ih1 _ _ _ _ _ _ _ _
   | exact spec_FrmOk.mono _ _ _ _
   | exact spec_l1Sum.mono _ _ _ _ _ _ _ _
   | exact LeO.none _
   | refine LeO.ite ?_ ?_
   | refine LeO.bind ?_ (fun _ => ?_)
def spec_FrmInto.T3 : Bool × List (List Nat × List Nat) := (true, [([], []), ([], []), ([], []), ([2], [2]), ([1, 3], [1, 3]), ([], []), ([5], [5]), ([0, 4, 6], [0, 4, 6]), ([], []), ([8, 7, 4, 0, 1, 2, 3, 4, 5, 6, 7, 8], [7, 8])])
def spec_FrmInto.B3 : List Nat := [0, 0, 0, 4, 14, 0, 32, 127, 0, 511]
theorem spec_FrmInto.tab3 : rtab .any (opsOf Try.f9 3) = spec_FrmInto.T3 := by kernel_rfl
theorem spec_FrmInto.bits3 : waitsOk spec_FrmInto.T3.2 spec_FrmInto.B3 = true := by kernel_rfl
def spec_FrmInto.T7 : Bool × List (List Nat × List Nat) := (true, [([], []), ([], []), ([], []), ([1, 2], [1, 2]), ([3], [3]), ([], []), ([5], [5]), ([], []), ([6, 7], [6, 7]), ([8], [8]), ([0, 4, 9], [0, 4, 9]), ([10, 10, 0, 1, 2, 3, 4, 5, 6, 7, 8, 9, 10], [10])])
def spec_FrmInto.B7 : List Nat := [0, 0, 0, 6, 14, 0, 32, 0, 224, 480, 1023, 2047]
theorem spec_FrmInto.tab7 : rtab .any (opsOf Try.f9 7) = spec_FrmInto.T7 := by kernel_rfl
theorem spec_FrmInto.bits7 : waitsOk spec_FrmInto.T7.2 spec_FrmInto.B7 = true := by kernel_rfl
set_option maxHeartbeats 8000000 in
set_option maxRecDepth 100000 in
theorem spec_FrmInto.calls (k : Nat) (A0_0 : Option Addr) (c0_0 : Nat) (l0_0 : List Int) (A0_1 : Option Addr) (c0_1 : Nat) (l0_1 : List Int) (a0_2 : Int) (A1 : Option Addr) (c1 : Nat) (l1 : List (S25)) (r1 : List Int) (r2 : List Int) (r3 : Int) (w : World) (hr0_0 : Kd.C (Kd.int .i64) w A0_0 l0_0.length l0_0) (hc0_0 : l0_0.length ≤ c0_0) (hr0_1 : Kd.C (Kd.int .i64) w A0_1 l0_1.length l0_1) (hc0_1 : l0_1.length ≤ c0_1) (hr1 : Kd.C k25 w A1 l1.length l1) (hc1 : l1.length ≤ c1) (h : spec_FrmInto.f k l0_0 l0_1 a0_2 l1 = some (r1, r2, r3)) :
  Calls Try.prog 9 #[.agg #[.slice A0_0 l0_0.length c0_0, .slice A0_1 l0_1.length c0_1, .int .i64 a0_2], .slice A1 l1.length c1] w fun e w' => ∃ v0_ v1_ : Value, e = .returned (.agg #[v0_, v1_, .int .i64 r3]) ∧ Kd.R (Kd.int .i64) 3 w' w.heap.size (fun k_ => some k_ ≠ (v1_ : Value).ownBlock) v0_ r1 ∧ Kd.R (Kd.int .i64) 3 w' w.heap.size (fun k_ => some k_ ≠ (v0_ : Value).ownBlock) v1_ r2 ∧ Below w.heap.size w w' := by
 have hu25 := Try.underlying25
 have HR0_0 := Aside0.mk hr0_0
 have HC0_0 := Aside0.mk hc0_0
 clear hr0_0 hc0_0
 have HR0_1 := Aside0.mk hr0_1
 have HC0_1 := Aside0.mk hc0_1
 clear hr0_1 hc0_1
 have HR1 := Aside0.mk hr1
 have HC1 := Aside0.mk hc1
 clear hr1 hc1
 have HB := Aside0.mk (Below.refl w.heap.size w)
 have H : ((spec_FrmOk.f k l0_0 l0_1 a0_2).bind fun t366 => (if t366 = true then (if (l1.length : Int) = 3 then (if 0 < (l1.length : Int) then ((spec_FrmOk.f k ((rd_T25 l1 0).f0) ((rd_T25 l1 0).f1) ((rd_T25 l1 0).f2)).bind fun t368 => (if t368 = true then (if 1 < (l1.length : Int) then ((spec_FrmOk.f k ((rd_T25 l1 1).f0) ((rd_T25 l1 1).f1) ((rd_T25 l1 1).f2)).bind fun t370 => (if t370 = true then (if 2 < (l1.length : Int) then ((spec_FrmOk.f k ((rd_T25 l1 2).f0) ((rd_T25 l1 2).f1) ((rd_T25 l1 2).f2)).bind fun t372 => (spec_FrmInto.j0 k l1 (!t372) l0_0 l0_1 a0_2)) else (none)) else (spec_FrmInto.j0 k l1 true l0_0 l0_1 a0_2))) else (none)) else (spec_FrmInto.j0 k l1 true l0_0 l0_1 a0_2))) else (none)) else (spec_FrmInto.j0 k l1 true l0_0 l0_1 a0_2)) else (spec_FrmInto.j0 k l1 true l0_0 l0_1 a0_2))) = some (r1, r2, r3) := h
 clear h
 have HC3 := Aside0.mk H
 clear H
 go_enter Try.func9, Try.ntmps9
 go_upto_region 1 with (first | ((with_reducible refine gate_dst (N := 2) rfl ?_); (try (refine gate_guard (by rfl) ?_; dsimp only)); refine box_event ?hg (N := 2) ?hd (cs := #[.slice A0_0 l0_0.length c0_0, .slice A0_1 l0_1.length c0_1, .int .i64 a0_2]) (t := 25) ?hr ?_; (case hd => rfl); (case hg => rfl); (case hr => first | (go_simp; done) | (go_simp; rfl)); intro gb364 hg w4 hbox hb; have BK364 := Aside0.mk (hbox); have GW364 := Aside0.mk ((by rw [hg]; exact (below_size (by exact lB HB.out)) : w.heap.size ≤ gb364)); have IGW364 : Nonempty _ := ⟨GW364.out⟩; have GE364 := Aside0.mk ((by rw [hg]; exact (below_size (by exact lB HB.out)) : w.heap.size ≤ gb364)); have IGE364 : Nonempty _ := ⟨GE364.out⟩; replace HB := Aside0.mk (below_step (by exact lB HB.out) hb); clear hb hbox hg) | ((with_reducible refine gate_dst (N := 4) rfl ?_); (try (refine gate_guard (by rfl) ?_; dsimp only)); refine box_event ?hg (N := 4) ?hd (cs := #[.slice none 0 0, .slice none 0 0, .int .i64 0]) (t := 25) ?hr ?_; (case hd => rfl); (case hg => rfl); (case hr => first | (go_simp; done) | (go_simp; rfl)); intro gb365 hg w5 hbox hb; have BK365 := Aside0.mk (hbox); have GW365 := Aside0.mk ((by rw [hg]; exact (below_size (by exact jB HB.out)) : w.heap.size ≤ gb365)); have IGW365 : Nonempty _ := ⟨GW365.out⟩; have GE365 := Aside0.mk ((by rw [hg]; exact (below_size (by exact jB HB.out)) : w.heap.size ≤ gb365)); have IGE365 : Nonempty _ := ⟨GE365.out⟩; replace HB := Aside0.mk (below_step (by exact jB HB.out) hb); have NB364_365 := Aside0.mk ((neL hg (lK BK364.out) : gb364 ≠ gb365)); have INB364_365 : Nonempty _ := ⟨NB364_365.out⟩; have NB365_364 := Aside0.mk ((neG hg (lK BK364.out) : gb365 ≠ gb364)); have INB365_364 : Nonempty _ := ⟨NB365_364.out⟩; replace BK364 := Aside0.mk (bb BK364.out hb); clear hb hbox hg))
 (try simp only [Act.put, sA, s0, sS])
 go_cut [35] (fun v35 wc => ∃ (kq : Nat) (x35_2 : Bool), v35 = .bool x35_2 ∧ Aside0 (spec_FrmInto.j0 kq l1 x35_2 l0_0 l0_1 a0_2 = some (r1, r2, r3)) ∧ Aside0 (kq ≤ k) ∧ Aside0 (wc.heap[gb364]? = some (.cells #[(.slice A0_0 l0_0.length c0_0), (.slice A0_1 l0_1.length c0_1), .int .i64 a0_2] 25 (0, 0))) ∧ Aside0 (wc.heap[gb365]? = some (.cells #[(.slice none 0 0), (.slice none 0 0), .int .i64 0] 25 (0, 0))) ∧ Aside0 (Below w.heap.size w wc))
 case first =>
  have H := HC3.out
  clear HC3
  replace H := Option.bind_eq_some_iff.mp H
  obtain ⟨t366, A60, H⟩ := H
  replace H : (if t366 = true then (if (l1.length : Int) = 3 then (if 0 < (l1.length : Int) then ((spec_FrmOk.f k ((rd_T25 l1 0).f0) ((rd_T25 l1 0).f1) ((rd_T25 l1 0).f2)).bind fun t368 => (if t368 = true then (if 1 < (l1.length : Int) then ((spec_FrmOk.f k ((rd_T25 l1 1).f0) ((rd_T25 l1 1).f1) ((rd_T25 l1 1).f2)).bind fun t370 => (if t370 = true then (if 2 < (l1.length : Int) then ((spec_FrmOk.f k ((rd_T25 l1 2).f0) ((rd_T25 l1 2).f1) ((rd_T25 l1 2).f2)).bind fun t372 => (spec_FrmInto.j0 k l1 (!t372) l0_0 l0_1 a0_2)) else (none)) else (spec_FrmInto.j0 k l1 true l0_0 l0_1 a0_2))) else (none)) else (spec_FrmInto.j0 k l1 true l0_0 l0_1 a0_2))) else (none)) else (spec_FrmInto.j0 k l1 true l0_0 l0_1 a0_2)) else (spec_FrmInto.j0 k l1 true l0_0 l0_1 a0_2)) = some (r1, r2, r3) := H
  have A6 := Aside0.mk A60
  clear A60
  by_cases c7 : t366 = true
  ·subst c7
   have H1 : (if (l1.length : Int) = 3 then (if 0 < (l1.length : Int) then ((spec_FrmOk.f k ((rd_T25 l1 0).f0) ((rd_T25 l1 0).f1) ((rd_T25 l1 0).f2)).bind fun t368 => (if t368 = true then (if 1 < (l1.length : Int) then ((spec_FrmOk.f k ((rd_T25 l1 1).f0) ((rd_T25 l1 1).f1) ((rd_T25 l1 1).f2)).bind fun t370 => (if t370 = true then (if 2 < (l1.length : Int) then ((spec_FrmOk.f k ((rd_T25 l1 2).f0) ((rd_T25 l1 2).f1) ((rd_T25 l1 2).f2)).bind fun t372 => (spec_FrmInto.j0 k l1 (!t372) l0_0 l0_1 a0_2)) else (none)) else (spec_FrmInto.j0 k l1 true l0_0 l0_1 a0_2))) else (none)) else (spec_FrmInto.j0 k l1 true l0_0 l0_1 a0_2))) else (none)) else (spec_FrmInto.j0 k l1 true l0_0 l0_1 a0_2)) = some (r1, r2, r3) := by rw [if_pos rfl] at H; exact H
   clear H
   have H := H1
   clear H1
   by_cases c8 : (l1.length : Int) = 3
   ·rw [if_pos c8] at H
    have c8b0 : ((l1.length : Int) == 3) = true := beq_iff_eq.mpr c8
    have c8b1 : ((l1.length : Int) != 3) = false := bne_eq_false_iff_eq.mpr c8
    clear c8
    (first | rw [c8b0] | (simp only [i64_w, i32_w]; rw [c8b0]) | skip)
    by_cases c9 : 0 < (l1.length : Int)
    ·rw [if_pos c9] at H
     have c9b0 : decide (0 < (l1.length : Int)) = true := decide_eq_true c9
     have c9b1 : decide (0 < l1.length) = true := decide_eq_true (by omega)
     clear c9
     replace H := Option.bind_eq_some_iff.mp H
     obtain ⟨t368, A100, H⟩ := H
     replace H : (if t368 = true then (if 1 < (l1.length : Int) then ((spec_FrmOk.f k ((rd_T25 l1 1).f0) ((rd_T25 l1 1).f1) ((rd_T25 l1 1).f2)).bind fun t370 => (if t370 = true then (if 2 < (l1.length : Int) then ((spec_FrmOk.f k ((rd_T25 l1 2).f0) ((rd_T25 l1 2).f1) ((rd_T25 l1 2).f2)).bind fun t372 => (spec_FrmInto.j0 k l1 (!t372) l0_0 l0_1 a0_2)) else (none)) else (spec_FrmInto.j0 k l1 true l0_0 l0_1 a0_2))) else (none)) else (spec_FrmInto.j0 k l1 true l0_0 l0_1 a0_2)) = some (r1, r2, r3) := H
     have A10 := Aside0.mk A100
     clear A100
     by_cases c11 : t368 = true
     ·subst c11
      have H1 : (if 1 < (l1.length : Int) then ((spec_FrmOk.f k ((rd_T25 l1 1).f0) ((rd_T25 l1 1).f1) ((rd_T25 l1 1).f2)).bind fun t370 => (if t370 = true then (if 2 < (l1.length : Int) then ((spec_FrmOk.f k ((rd_T25 l1 2).f0) ((rd_T25 l1 2).f1) ((rd_T25 l1 2).f2)).bind fun t372 => (spec_FrmInto.j0 k l1 (!t372) l0_0 l0_1 a0_2)) else (none)) else (spec_FrmInto.j0 k l1 true l0_0 l0_1 a0_2))) else (none)) = some (r1, r2, r3) := by rw [if_pos rfl] at H; exact H
      clear H
      have H := H1
      clear H1
      by_cases c12 : 1 < (l1.length : Int)
      ·rw [if_pos c12] at H
       have c12b0 : decide (1 < (l1.length : Int)) = true := decide_eq_true c12
       have c12b1 : decide (1 < l1.length) = true := decide_eq_true (by omega)
       clear c12
       replace H := Option.bind_eq_some_iff.mp H
       obtain ⟨t370, A130, H⟩ := H
       replace H : (if t370 = true then (if 2 < (l1.length : Int) then ((spec_FrmOk.f k ((rd_T25 l1 2).f0) ((rd_T25 l1 2).f1) ((rd_T25 l1 2).f2)).bind fun t372 => (spec_FrmInto.j0 k l1 (!t372) l0_0 l0_1 a0_2)) else (none)) else (spec_FrmInto.j0 k l1 true l0_0 l0_1 a0_2)) = some (r1, r2, r3) := H
       have A13 := Aside0.mk A130
       clear A130
       by_cases c14 : t370 = true
       ·subst c14
        have H1 : (if 2 < (l1.length : Int) then ((spec_FrmOk.f k ((rd_T25 l1 2).f0) ((rd_T25 l1 2).f1) ((rd_T25 l1 2).f2)).bind fun t372 => (spec_FrmInto.j0 k l1 (!t372) l0_0 l0_1 a0_2)) else (none)) = some (r1, r2, r3) := by rw [if_pos rfl] at H; exact H
        clear H
        have H := H1
        clear H1
        by_cases c15 : 2 < (l1.length : Int)
        ·rw [if_pos c15] at H
         have c15b0 : decide (2 < (l1.length : Int)) = true := decide_eq_true c15
         have c15b1 : decide (2 < l1.length) = true := decide_eq_true (by omega)
         clear c15
         replace H := Option.bind_eq_some_iff.mp H
         obtain ⟨t372, A160, H⟩ := H
         replace H : (spec_FrmInto.j0 k l1 (!t372) l0_0 l0_1 a0_2) = some (r1, r2, r3) := H
         have A16 := Aside0.mk A160
         clear A160
         have H' := Aside0.mk H
         clear H
         have hnb17 := NB364_365.out
         have hnc17 := NB365_364.out
         obtain ⟨hcz18_0, hcz18_1, hcz18_2, hfz18_0, hfz18_1, hfz18_2⟩ := cf3 BK364.out
         go_wp2_with (first | ((with_reducible refine gate_callee (f := 17) rfl ?_); refine goesL_ (some 8) rfl rfl Try.func17 (by kernel_rfl) rfl #[.agg #[.slice A0_0 l0_0.length c0_0, .slice A0_1 l0_1.length c0_1, .int .i64 a0_2]] rfl (by (try simp only [mA, mC, mN]); first | done | rfl | (simp only [ld, lt]; rfl)) ?_; (with_reducible refine (spec_FrmOk.calls k _ _ l0_0 _ _ l0_1 a0_2 true _ ?side1 ?side2 ?side3 ?side4 A6.out).mono ?_); (case side1 => exact lC <| (Kd.C_below HR0_0.out HB.out)); (case side2 => exact HC0_0.out); (case side3 => exact lC <| (Kd.C_below HR0_1.out HB.out)); (case side4 => exact HC0_1.out); rintro e w19 ⟨rfl, hb⟩; refine ⟨_, rfl, ?_⟩; replace BK364 := Aside0.mk (bb BK364.out hb); replace BK365 := Aside0.mk (bb BK365.out hb); replace HB := Aside0.mk (below_step (by exact jB HB.out) hb); (try clear hb); (try clear hb2); (try clear hk); (try clear hi); have p367 : 0 ≤ (0 : Int) := (by omega); have q367 : 0 < (l1.length : Int) := of_decide_eq_true (by first | (with_reducible assumption) | assumption); obtain ⟨ad367, A367_0, c367_0, A367_1, c367_1, e367, hx367_0, hx367_1, hx367_2, hl367_0, hi367_0, hl367_1, hi367_1⟩ := at_T25 HR1.out 0 p367 q367; cases e367; have qi367 : (0 < l1.length) = True := eq_true (by omega); (try rw [show ((0 : Int)).toNat = 0 from rfl] at hx367_0); (try rw [show 0 * 3 = 0 from rfl] at hx367_0); (try rw [Addr.add_zero'] at hx367_0); (try rw [show ((0 : Int)).toNat = 0 from rfl] at hx367_1); (try rw [show 0 * 3 = 0 from rfl] at hx367_1); (try rw [Addr.add_zero'] at hx367_1); (try rw [show ((0 : Int)).toNat = 0 from rfl] at hx367_2); (try rw [show 0 * 3 = 0 from rfl] at hx367_2); (try rw [Addr.add_zero'] at hx367_2); replace hx367_0 := (HB.out.cell (World.block_lt_of_cell? w _ hx367_0)).trans hx367_0; replace hx367_1 := (HB.out.cell (World.block_lt_of_cell? w _ hx367_1)).trans hx367_1; replace hx367_2 := (HB.out.cell (World.block_lt_of_cell? w _ hx367_2)).trans hx367_2; have HR367_0 := Aside0.mk hi367_0; have HC367_0 := Aside0.mk hl367_0; clear hi367_0 hl367_0; have HR367_1 := Aside0.mk hi367_1; have HC367_1 := Aside0.mk hl367_1; clear hi367_1 hl367_1; replace p367 := eq_true p367; replace q367 := eq_true q367) | (go_at_call 17; (with_reducible refine (spec_FrmOk.calls k _ _ ((rd_T25 l1 0).f0) _ _ ((rd_T25 l1 0).f1) ((rd_T25 l1 0).f2) true _ ?side1 ?side2 ?side3 ?side4 A10.out).mono ?_); (case side1 => exact lC <| (Kd.C_below HR367_0.out HB.out)); (case side2 => exact HC367_0.out); (case side3 => exact lC <| (Kd.C_below HR367_1.out HB.out)); (case side4 => exact HC367_1.out); rintro e w20 ⟨rfl, hb⟩; replace BK364 := Aside0.mk (bb BK364.out hb); replace BK365 := Aside0.mk (bb BK365.out hb); replace HB := Aside0.mk (below_step (by exact jB HB.out) hb); (try clear hb); (try clear hb2); (try clear hk); (try clear hi); have p369 : 0 ≤ (1 : Int) := (by omega); have q369 : 1 < (l1.length : Int) := of_decide_eq_true (by first | (with_reducible assumption) | assumption); obtain ⟨ad369, A369_0, c369_0, A369_1, c369_1, e369, hx369_0, hx369_1, hx369_2, hl369_0, hi369_0, hl369_1, hi369_1⟩ := at_T25 HR1.out 1 p369 q369; obtain rfl : ad367 = ad369 := (by injection e369); (try simp only [show (1 : Int).toNat = 1 from rfl, Nat.reduceMul, Nat.reduceEqDiff, Go.Addr.add, ↓reduceIte] at hx369_0); (try simp only [show (1 : Int).toNat = 1 from rfl, Nat.reduceMul, Nat.reduceEqDiff, Go.Addr.add, ↓reduceIte] at hx369_1); (try simp only [show (1 : Int).toNat = 1 from rfl, Nat.reduceMul, Nat.reduceEqDiff, Go.Addr.add, ↓reduceIte] at hx369_2); have qi369 : (1 < l1.length) = True := eq_true (by omega); (try rw [show ((1 : Int)).toNat = 1 from rfl] at hx369_0); (try rw [show 1 * 3 = 3 from rfl] at hx369_0); (try rw [show ((1 : Int)).toNat = 1 from rfl] at hx369_1); (try rw [show 1 * 3 = 3 from rfl] at hx369_1); (try rw [show ((1 : Int)).toNat = 1 from rfl] at hx369_2); (try rw [show 1 * 3 = 3 from rfl] at hx369_2); replace hx369_0 := (HB.out.cell (World.block_lt_of_cell? w _ hx369_0)).trans hx369_0; replace hx369_1 := (HB.out.cell (World.block_lt_of_cell? w _ hx369_1)).trans hx369_1; replace hx369_2 := (HB.out.cell (World.block_lt_of_cell? w _ hx369_2)).trans hx369_2; have HR369_0 := Aside0.mk hi369_0; have HC369_0 := Aside0.mk hl369_0; clear hi369_0 hl369_0; have HR369_1 := Aside0.mk hi369_1; have HC369_1 := Aside0.mk hl369_1; clear hi369_1 hl369_1; replace p369 := eq_true p369; replace q369 := eq_true q369) | (go_at_call 17; (with_reducible refine (spec_FrmOk.calls k _ _ ((rd_T25 l1 1).f0) _ _ ((rd_T25 l1 1).f1) ((rd_T25 l1 1).f2) true _ ?side1 ?side2 ?side3 ?side4 A13.out).mono ?_); (case side1 => exact lC <| (Kd.C_below HR369_0.out HB.out)); (case side2 => exact HC369_0.out); (case side3 => exact lC <| (Kd.C_below HR369_1.out HB.out)); (case side4 => exact HC369_1.out); rintro e w21 ⟨rfl, hb⟩; replace BK364 := Aside0.mk (bb BK364.out hb); replace BK365 := Aside0.mk (bb BK365.out hb); replace HB := Aside0.mk (below_step (by exact jB HB.out) hb); (try clear hb); (try clear hb2); (try clear hk); (try clear hi); have p371 : 0 ≤ (2 : Int) := (by omega); have q371 : 2 < (l1.length : Int) := of_decide_eq_true (by first | (with_reducible assumption) | assumption); obtain ⟨ad371, A371_0, c371_0, A371_1, c371_1, e371, hx371_0, hx371_1, hx371_2, hl371_0, hi371_0, hl371_1, hi371_1⟩ := at_T25 HR1.out 2 p371 q371; obtain rfl : ad367 = ad371 := (by injection e371); (try simp only [show (2 : Int).toNat = 2 from rfl, Nat.reduceMul, Nat.reduceEqDiff, Go.Addr.add, ↓reduceIte] at hx371_0); (try simp only [show (2 : Int).toNat = 2 from rfl, Nat.reduceMul, Nat.reduceEqDiff, Go.Addr.add, ↓reduceIte] at hx371_1); (try simp only [show (2 : Int).toNat = 2 from rfl, Nat.reduceMul, Nat.reduceEqDiff, Go.Addr.add, ↓reduceIte] at hx371_2); have qi371 : (2 < l1.length) = True := eq_true (by omega); (try rw [show ((2 : Int)).toNat = 2 from rfl] at hx371_0); (try rw [show 2 * 3 = 6 from rfl] at hx371_0); (try rw [show ((2 : Int)).toNat = 2 from rfl] at hx371_1); (try rw [show 2 * 3 = 6 from rfl] at hx371_1); (try rw [show ((2 : Int)).toNat = 2 from rfl] at hx371_2); (try rw [show 2 * 3 = 6 from rfl] at hx371_2); replace hx371_0 := (HB.out.cell (World.block_lt_of_cell? w _ hx371_0)).trans hx371_0; replace hx371_1 := (HB.out.cell (World.block_lt_of_cell? w _ hx371_1)).trans hx371_1; replace hx371_2 := (HB.out.cell (World.block_lt_of_cell? w _ hx371_2)).trans hx371_2; have HR371_0 := Aside0.mk hi371_0; have HC371_0 := Aside0.mk hl371_0; clear hi371_0 hl371_0; have HR371_1 := Aside0.mk hi371_1; have HC371_1 := Aside0.mk hl371_1; clear hi371_1 hl371_1; replace p371 := eq_true p371; replace q371 := eq_true q371) | (go_at_call 17; (with_reducible refine (spec_FrmOk.calls k _ _ ((rd_T25 l1 2).f0) _ _ ((rd_T25 l1 2).f1) ((rd_T25 l1 2).f2) t372 _ ?side1 ?side2 ?side3 ?side4 A16.out).mono ?_); (case side1 => exact lC <| (Kd.C_below HR371_0.out HB.out)); (case side2 => exact HC371_0.out); (case side3 => exact lC <| (Kd.C_below HR371_1.out HB.out)); (case side4 => exact HC371_1.out); rintro e w22 ⟨rfl, hb⟩; replace BK364 := Aside0.mk (bb BK364.out hb); replace BK365 := Aside0.mk (bb BK365.out hb); replace HB := Aside0.mk (below_step (by exact jB HB.out) hb); (try clear hb); (try clear hb2); (try clear hk); (try clear hi)))
         go_meet
         case rel => exact ⟨_, (!t372), (by first | rfl | (simp; done) | (simp [*]; done)), H', ⟨by first | omega | exact Nat.le_refl _⟩, ⟨by exact lK <| BK364.out⟩, ⟨by exact lK <| BK365.out⟩, ⟨by exact jB HB.out⟩⟩
        ·rw [if_neg c15] at H
         exact absurd H (by simp)
       ·replace c14 := Bool.eq_false_iff.mpr c14
        subst c14
        have H1 : (spec_FrmInto.j0 k l1 true l0_0 l0_1 a0_2) = some (r1, r2, r3) := by rw [if_neg (show ¬ (false = true) by decide)] at H; exact H
        clear H
        have H := H1
        clear H1
        have H' := Aside0.mk H
        clear H
        have hnb23 := NB364_365.out
        have hnc23 := NB365_364.out
        obtain ⟨hcz24_0, hcz24_1, hcz24_2, hfz24_0, hfz24_1, hfz24_2⟩ := cf3 BK364.out
        go_wp2_with (first | ((with_reducible refine gate_callee (f := 17) rfl ?_); refine goesL_ (some 8) rfl rfl Try.func17 (by kernel_rfl) rfl #[.agg #[.slice A0_0 l0_0.length c0_0, .slice A0_1 l0_1.length c0_1, .int .i64 a0_2]] rfl (by (try simp only [mA, mC, mN]); first | done | rfl | (simp only [ld, lt]; rfl)) ?_; (with_reducible refine (spec_FrmOk.calls k _ _ l0_0 _ _ l0_1 a0_2 true _ ?side1 ?side2 ?side3 ?side4 A6.out).mono ?_); (case side1 => exact lC <| (Kd.C_below HR0_0.out HB.out)); (case side2 => exact HC0_0.out); (case side3 => exact lC <| (Kd.C_below HR0_1.out HB.out)); (case side4 => exact HC0_1.out); rintro e w25 ⟨rfl, hb⟩; refine ⟨_, rfl, ?_⟩; replace BK364 := Aside0.mk (bb BK364.out hb); replace BK365 := Aside0.mk (bb BK365.out hb); replace HB := Aside0.mk (below_step (by exact jB HB.out) hb); (try clear hb); (try clear hb2); (try clear hk); (try clear hi); have p367 : 0 ≤ (0 : Int) := (by omega); have q367 : 0 < (l1.length : Int) := of_decide_eq_true (by first | (with_reducible assumption) | assumption); obtain ⟨ad367, A367_0, c367_0, A367_1, c367_1, e367, hx367_0, hx367_1, hx367_2, hl367_0, hi367_0, hl367_1, hi367_1⟩ := at_T25 HR1.out 0 p367 q367; cases e367; have qi367 : (0 < l1.length) = True := eq_true (by omega); (try rw [show ((0 : Int)).toNat = 0 from rfl] at hx367_0); (try rw [show 0 * 3 = 0 from rfl] at hx367_0); (try rw [Addr.add_zero'] at hx367_0); (try rw [show ((0 : Int)).toNat = 0 from rfl] at hx367_1); (try rw [show 0 * 3 = 0 from rfl] at hx367_1); (try rw [Addr.add_zero'] at hx367_1); (try rw [show ((0 : Int)).toNat = 0 from rfl] at hx367_2); (try rw [show 0 * 3 = 0 from rfl] at hx367_2); (try rw [Addr.add_zero'] at hx367_2); replace hx367_0 := (HB.out.cell (World.block_lt_of_cell? w _ hx367_0)).trans hx367_0; replace hx367_1 := (HB.out.cell (World.block_lt_of_cell? w _ hx367_1)).trans hx367_1; replace hx367_2 := (HB.out.cell (World.block_lt_of_cell? w _ hx367_2)).trans hx367_2; have HR367_0 := Aside0.mk hi367_0; have HC367_0 := Aside0.mk hl367_0; clear hi367_0 hl367_0; have HR367_1 := Aside0.mk hi367_1; have HC367_1 := Aside0.mk hl367_1; clear hi367_1 hl367_1; replace p367 := eq_true p367; replace q367 := eq_true q367) | (go_at_call 17; (with_reducible refine (spec_FrmOk.calls k _ _ ((rd_T25 l1 0).f0) _ _ ((rd_T25 l1 0).f1) ((rd_T25 l1 0).f2) true _ ?side1 ?side2 ?side3 ?side4 A10.out).mono ?_); (case side1 => exact lC <| (Kd.C_below HR367_0.out HB.out)); (case side2 => exact HC367_0.out); (case side3 => exact lC <| (Kd.C_below HR367_1.out HB.out)); (case side4 => exact HC367_1.out); rintro e w26 ⟨rfl, hb⟩; replace BK364 := Aside0.mk (bb BK364.out hb); replace BK365 := Aside0.mk (bb BK365.out hb); replace HB := Aside0.mk (below_step (by exact jB HB.out) hb); (try clear hb); (try clear hb2); (try clear hk); (try clear hi); have p369 : 0 ≤ (1 : Int) := (by omega); have q369 : 1 < (l1.length : Int) := of_decide_eq_true (by first | (with_reducible assumption) | assumption); obtain ⟨ad369, A369_0, c369_0, A369_1, c369_1, e369, hx369_0, hx369_1, hx369_2, hl369_0, hi369_0, hl369_1, hi369_1⟩ := at_T25 HR1.out 1 p369 q369; obtain rfl : ad367 = ad369 := (by injection e369); (try simp only [show (1 : Int).toNat = 1 from rfl, Nat.reduceMul, Nat.reduceEqDiff, Go.Addr.add, ↓reduceIte] at hx369_0); (try simp only [show (1 : Int).toNat = 1 from rfl, Nat.reduceMul, Nat.reduceEqDiff, Go.Addr.add, ↓reduceIte] at hx369_1); (try simp only [show (1 : Int).toNat = 1 from rfl, Nat.reduceMul, Nat.reduceEqDiff, Go.Addr.add, ↓reduceIte] at hx369_2); have qi369 : (1 < l1.length) = True := eq_true (by omega); (try rw [show ((1 : Int)).toNat = 1 from rfl] at hx369_0); (try rw [show 1 * 3 = 3 from rfl] at hx369_0); (try rw [show ((1 : Int)).toNat = 1 from rfl] at hx369_1); (try rw [show 1 * 3 = 3 from rfl] at hx369_1); (try rw [show ((1 : Int)).toNat = 1 from rfl] at hx369_2); (try rw [show 1 * 3 = 3 from rfl] at hx369_2); replace hx369_0 := (HB.out.cell (World.block_lt_of_cell? w _ hx369_0)).trans hx369_0; replace hx369_1 := (HB.out.cell (World.block_lt_of_cell? w _ hx369_1)).trans hx369_1; replace hx369_2 := (HB.out.cell (World.block_lt_of_cell? w _ hx369_2)).trans hx369_2; have HR369_0 := Aside0.mk hi369_0; have HC369_0 := Aside0.mk hl369_0; clear hi369_0 hl369_0; have HR369_1 := Aside0.mk hi369_1; have HC369_1 := Aside0.mk hl369_1; clear hi369_1 hl369_1; replace p369 := eq_true p369; replace q369 := eq_true q369) | (go_at_call 17; (with_reducible refine (spec_FrmOk.calls k _ _ ((rd_T25 l1 1).f0) _ _ ((rd_T25 l1 1).f1) ((rd_T25 l1 1).f2) false _ ?side1 ?side2 ?side3 ?side4 A13.out).mono ?_); (case side1 => exact lC <| (Kd.C_below HR369_0.out HB.out)); (case side2 => exact HC369_0.out); (case side3 => exact lC <| (Kd.C_below HR369_1.out HB.out)); (case side4 => exact HC369_1.out); rintro e w27 ⟨rfl, hb⟩; replace BK364 := Aside0.mk (bb BK364.out hb); replace BK365 := Aside0.mk (bb BK365.out hb); replace HB := Aside0.mk (below_step (by exact jB HB.out) hb); (try clear hb); (try clear hb2); (try clear hk); (try clear hi)))
        go_meet
        case rel => exact ⟨_, (true), (by first | rfl | (simp; done) | (simp [*]; done)), H', ⟨by first | omega | exact Nat.le_refl _⟩, ⟨by exact lK <| BK364.out⟩, ⟨by exact lK <| BK365.out⟩, ⟨by exact jB HB.out⟩⟩
      ·rw [if_neg c12] at H
       exact absurd H (by simp)
     ·replace c11 := Bool.eq_false_iff.mpr c11
      subst c11
      have H1 : (spec_FrmInto.j0 k l1 true l0_0 l0_1 a0_2) = some (r1, r2, r3) := by rw [if_neg (show ¬ (false = true) by decide)] at H; exact H
      clear H
      have H := H1
      clear H1
      have H' := Aside0.mk H
      clear H
      have hnb28 := NB364_365.out
      have hnc28 := NB365_364.out
      obtain ⟨hcz29_0, hcz29_1, hcz29_2, hfz29_0, hfz29_1, hfz29_2⟩ := cf3 BK364.out
      go_wp2_with (first | ((with_reducible refine gate_callee (f := 17) rfl ?_); refine goesL_ (some 8) rfl rfl Try.func17 (by kernel_rfl) rfl #[.agg #[.slice A0_0 l0_0.length c0_0, .slice A0_1 l0_1.length c0_1, .int .i64 a0_2]] rfl (by (try simp only [mA, mC, mN]); first | done | rfl | (simp only [ld, lt]; rfl)) ?_; (with_reducible refine (spec_FrmOk.calls k _ _ l0_0 _ _ l0_1 a0_2 true _ ?side1 ?side2 ?side3 ?side4 A6.out).mono ?_); (case side1 => exact lC <| (Kd.C_below HR0_0.out HB.out)); (case side2 => exact HC0_0.out); (case side3 => exact lC <| (Kd.C_below HR0_1.out HB.out)); (case side4 => exact HC0_1.out); rintro e w30 ⟨rfl, hb⟩; refine ⟨_, rfl, ?_⟩; replace BK364 := Aside0.mk (bb BK364.out hb); replace BK365 := Aside0.mk (bb BK365.out hb); replace HB := Aside0.mk (below_step (by exact jB HB.out) hb); (try clear hb); (try clear hb2); (try clear hk); (try clear hi); have p367 : 0 ≤ (0 : Int) := (by omega); have q367 : 0 < (l1.length : Int) := of_decide_eq_true (by first | (with_reducible assumption) | assumption); obtain ⟨ad367, A367_0, c367_0, A367_1, c367_1, e367, hx367_0, hx367_1, hx367_2, hl367_0, hi367_0, hl367_1, hi367_1⟩ := at_T25 HR1.out 0 p367 q367; cases e367; have qi367 : (0 < l1.length) = True := eq_true (by omega); (try rw [show ((0 : Int)).toNat = 0 from rfl] at hx367_0); (try rw [show 0 * 3 = 0 from rfl] at hx367_0); (try rw [Addr.add_zero'] at hx367_0); (try rw [show ((0 : Int)).toNat = 0 from rfl] at hx367_1); (try rw [show 0 * 3 = 0 from rfl] at hx367_1); (try rw [Addr.add_zero'] at hx367_1); (try rw [show ((0 : Int)).toNat = 0 from rfl] at hx367_2); (try rw [show 0 * 3 = 0 from rfl] at hx367_2); (try rw [Addr.add_zero'] at hx367_2); replace hx367_0 := (HB.out.cell (World.block_lt_of_cell? w _ hx367_0)).trans hx367_0; replace hx367_1 := (HB.out.cell (World.block_lt_of_cell? w _ hx367_1)).trans hx367_1; replace hx367_2 := (HB.out.cell (World.block_lt_of_cell? w _ hx367_2)).trans hx367_2; have HR367_0 := Aside0.mk hi367_0; have HC367_0 := Aside0.mk hl367_0; clear hi367_0 hl367_0; have HR367_1 := Aside0.mk hi367_1; have HC367_1 := Aside0.mk hl367_1; clear hi367_1 hl367_1; replace p367 := eq_true p367; replace q367 := eq_true q367) | (go_at_call 17; (with_reducible refine (spec_FrmOk.calls k _ _ ((rd_T25 l1 0).f0) _ _ ((rd_T25 l1 0).f1) ((rd_T25 l1 0).f2) false _ ?side1 ?side2 ?side3 ?side4 A10.out).mono ?_); (case side1 => exact lC <| (Kd.C_below HR367_0.out HB.out)); (case side2 => exact HC367_0.out); (case side3 => exact lC <| (Kd.C_below HR367_1.out HB.out)); (case side4 => exact HC367_1.out); rintro e w31 ⟨rfl, hb⟩; replace BK364 := Aside0.mk (bb BK364.out hb); replace BK365 := Aside0.mk (bb BK365.out hb); replace HB := Aside0.mk (below_step (by exact jB HB.out) hb); (try clear hb); (try clear hb2); (try clear hk); (try clear hi)))
      go_meet
      case rel => exact ⟨_, (true), (by first | rfl | (simp; done) | (simp [*]; done)), H', ⟨by first | omega | exact Nat.le_refl _⟩, ⟨by exact lK <| BK364.out⟩, ⟨by exact lK <| BK365.out⟩, ⟨by exact jB HB.out⟩⟩
    ·rw [if_neg c9] at H
     exact absurd H (by simp)
   ·rw [if_neg c8] at H
    have c8b0 : ((l1.length : Int) == 3) = false := beq_eq_false_iff_ne.mpr c8
    have c8b1 : ((l1.length : Int) != 3) = true := bne_iff_ne.mpr c8
    (first | rw [c8b0] | (simp only [i64_w, i32_w]; rw [c8b0]) | skip)
    have H' := Aside0.mk H
    clear H
    have hnb32 := NB364_365.out
    have hnc32 := NB365_364.out
    obtain ⟨hcz33_0, hcz33_1, hcz33_2, hfz33_0, hfz33_1, hfz33_2⟩ := cf3 BK364.out
    go_wp2_with (first | ((with_reducible refine gate_callee (f := 17) rfl ?_); refine goesL_ (some 8) rfl rfl Try.func17 (by kernel_rfl) rfl #[.agg #[.slice A0_0 l0_0.length c0_0, .slice A0_1 l0_1.length c0_1, .int .i64 a0_2]] rfl (by (try simp only [mA, mC, mN]); first | done | rfl | (simp only [ld, lt]; rfl)) ?_; (with_reducible refine (spec_FrmOk.calls k _ _ l0_0 _ _ l0_1 a0_2 true _ ?side1 ?side2 ?side3 ?side4 A6.out).mono ?_); (case side1 => exact lC <| (Kd.C_below HR0_0.out HB.out)); (case side2 => exact HC0_0.out); (case side3 => exact lC <| (Kd.C_below HR0_1.out HB.out)); (case side4 => exact HC0_1.out); rintro e w34 ⟨rfl, hb⟩; refine ⟨_, rfl, ?_⟩; replace BK364 := Aside0.mk (bb BK364.out hb); replace BK365 := Aside0.mk (bb BK365.out hb); replace HB := Aside0.mk (below_step (by exact jB HB.out) hb); (try clear hb); (try clear hb2); (try clear hk); (try clear hi)))
    go_meet
    case rel => exact ⟨_, (true), (by first | rfl | (simp; done) | (simp [*]; done)), H', ⟨by first | omega | exact Nat.le_refl _⟩, ⟨by exact lK <| BK364.out⟩, ⟨by exact lK <| BK365.out⟩, ⟨by exact jB HB.out⟩⟩
  ·replace c7 := Bool.eq_false_iff.mpr c7
   subst c7
   have H1 : (spec_FrmInto.j0 k l1 true l0_0 l0_1 a0_2) = some (r1, r2, r3) := by rw [if_neg (show ¬ (false = true) by decide)] at H; exact H
   clear H
   have H := H1
   clear H1
   have H' := Aside0.mk H
   clear H
   have hnb35 := NB364_365.out
   have hnc35 := NB365_364.out
   obtain ⟨hcz36_0, hcz36_1, hcz36_2, hfz36_0, hfz36_1, hfz36_2⟩ := cf3 BK364.out
   go_wp2_with (first | ((with_reducible refine gate_callee (f := 17) rfl ?_); refine goesL_ (some 8) rfl rfl Try.func17 (by kernel_rfl) rfl #[.agg #[.slice A0_0 l0_0.length c0_0, .slice A0_1 l0_1.length c0_1, .int .i64 a0_2]] rfl (by (try simp only [mA, mC, mN]); first | done | rfl | (simp only [ld, lt]; rfl)) ?_; (with_reducible refine (spec_FrmOk.calls k _ _ l0_0 _ _ l0_1 a0_2 false _ ?side1 ?side2 ?side3 ?side4 A6.out).mono ?_); (case side1 => exact lC <| (Kd.C_below HR0_0.out HB.out)); (case side2 => exact HC0_0.out); (case side3 => exact lC <| (Kd.C_below HR0_1.out HB.out)); (case side4 => exact HC0_1.out); rintro e w37 ⟨rfl, hb⟩; refine ⟨_, rfl, ?_⟩; replace BK364 := Aside0.mk (bb BK364.out hb); replace BK365 := Aside0.mk (bb BK365.out hb); replace HB := Aside0.mk (below_step (by exact jB HB.out) hb); (try clear hb); (try clear hb2); (try clear hk); (try clear hi)))
   go_meet
   case rel => exact ⟨_, (true), (by first | rfl | (simp; done) | (simp [*]; done)), H', ⟨by first | omega | exact Nat.le_refl _⟩, ⟨by exact lK <| BK364.out⟩, ⟨by exact lK <| BK365.out⟩, ⟨by exact jB HB.out⟩⟩
 case rest =>
  clear HC3
  try clear c1
  try clear c2
  try clear p2
  try clear c3
  try clear p3
  try clear q3
  try clear hx3
  try clear qi3
  try clear c7
  try clear c8
  try clear c8b0
  try clear c8b1
  try clear c9
  try clear c9b0
  try clear c9b1
  try clear c11
  try clear c12
  try clear c12b0
  try clear c12b1
  try clear c14
  try clear c15
  try clear c15b0
  try clear c15b1
  try clear c17
  try clear c23
  try clear c28
  try clear c32
  try clear c35
  try clear c36
  try clear p36
  try clear q36
  try clear hx36
  try clear qi36
  try clear c37
  try clear p37
  try clear q37
  try clear hx37
  try clear qi37
  try clear hcz18_0
  try clear hcz18_1
  try clear hcz18_2
  try clear hcz24_0
  try clear hcz24_1
  try clear hcz24_2
  try clear hcz29_0
  try clear hcz29_1
  try clear hcz29_2
  try clear hcz33_0
  try clear hcz33_1
  try clear hcz33_2
  try clear hcz36_0
  try clear hcz36_1
  try clear hcz36_2
  try clear hfz18_0
  try clear hfz18_1
  try clear hfz18_2
  try clear hfz24_0
  try clear hfz24_1
  try clear hfz24_2
  try clear hfz29_0
  try clear hfz29_1
  try clear hfz29_2
  try clear hfz33_0
  try clear hfz33_1
  try clear hfz33_2
  try clear hfz36_0
  try clear hfz36_1
  try clear hfz36_2
  try clear hx367_0
  try clear hx367_1
  try clear hx367_2
  try clear hx369_0
  try clear hx369_1
  try clear hx369_2
  try clear hx371_0
  try clear hx371_1
  try clear hx371_2
  try clear p367
  try clear p369
  try clear p371
  try clear q367
  try clear q369
  try clear q371
  obtain ⟨kq, x35_2, rfl, HA, HJ2, BK364, BK365, HB⟩ := hcut
  cases kq with
  | zero => exact absurd HA.out (by simp [spec_FrmInto.j0])
  | succ kj2 =>
   have H := HA.out
   clear HA
   simp only [spec_FrmInto.j0] at H
   by_cases c38 : x35_2 = true
   ·subst c38
    have H1 : (some (([] : List Int), ([] : List Int), 0)) = some (r1, r2, r3) := by rw [if_pos rfl] at H; exact H
    clear H
    have H := H1
    clear H1
    simp only [Option.some.injEq, Prod.mk.injEq] at H
    obtain ⟨rfl, rfl, rfl⟩ := H
    have hnb39 := NB365_364.out
    have hnc39 := NB364_365.out
    obtain ⟨hcz40_0, hcz40_1, hcz40_2, hfz40_0, hfz40_1, hfz40_2⟩ := cf3 BK365.out
    go_wp2
    refine bodyPost_ret (results_cell_row rfl _ _ gb365 25 #[.slice none 0 0, .slice none 0 0, .int .i64 0] (0, 0) _ rfl (by (with_reducible repeat first | refine kN ?_ _ | refine kD ?_ | refine kA ?_ _); refine blk_put (cs := #[.slice none 0 0, .slice none 0 0, .int .i64 0]) ?_ 2 _ rfl; (with_reducible repeat first | refine kN ?_ _ | refine kD ?_ | refine kA ?_ _); refine blk_put (cs := #[.slice none 0 0, .slice none 0 0, .int .i64 0]) ?_ 1 _ rfl; (with_reducible repeat first | refine kN ?_ _ | refine kD ?_ | refine kA ?_ _); refine blk_put (cs := #[.slice none 0 0, .slice none 0 0, .int .i64 0]) ?_ 0 _ rfl; exact lK BK365.out) Try.underlying25 rfl (by kernel_rfl)) rfl ?_
    exact ⟨_, _, by first | rfl | (simp [errW_none, errW_some] <;> rfl) | (simp [*, errW_none, errW_some] <;> rfl), by first | exact Kd.R_nil _ _ _ _ _ | exact Kd.N_nil _ _ _ _ _ | exact Kd.V_nil _ _ _ _ _ | exact Kd.Q_nil _ _ _ _ _ | exact Kd.S_nil _ _ _ _ _, by first | exact Kd.R_nil _ _ _ _ _ | exact Kd.N_nil _ _ _ _ _ | exact Kd.V_nil _ _ _ _ _ | exact Kd.Q_nil _ _ _ _ _ | exact Kd.S_nil _ _ _ _ _, by exact jB HB.out⟩
   ·replace c38 := Bool.eq_false_iff.mpr c38
    subst c38
    have H1 : ((some (([] : List Int) : List Int)).bind fun y376 => (if y376.length + l0_1.length < 17592186044416 then (spec_FrmInto.l0 kj2 l1 0 l0_0 l0_1 a0_2 (([0, 0, 0] : List Int)) (y376 ++ l0_1) a0_2) else (none))) = some (r1, r2, r3) := by rw [if_neg (show ¬ (false = true) by decide)] at H; exact H
    clear H
    have H := H1
    clear H1
    obtain ⟨y373, hy373⟩ : ∃ y_ : List Int, y_ = (([0, 0, 0] : List Int)) := ⟨_, rfl⟩
    replace H : ((some (([] : List Int) : List Int)).bind fun y376 => (if y376.length + l0_1.length < 17592186044416 then (spec_FrmInto.l0 kj2 l1 0 l0_0 l0_1 a0_2 y373 (y376 ++ l0_1) a0_2) else (none))) = some (r1, r2, r3) := by first | (rw [hy373]; with_reducible exact H) | (have H2_ := (Option.bind_some _ _).symm.trans H; rw [hy373]; with_reducible exact H2_) | (have H2_ := (Option.bind_some _ _).symm.trans H; with_reducible exact H2_) | with_reducible exact H | (rw [hy373]; exact H) | exact H
    have Ny373 := Aside0.mk hy373
    clear hy373
    obtain ⟨y376, hy376⟩ : ∃ y_ : List Int, y_ = (([] : List Int)) := ⟨_, rfl⟩
    replace H : (if y376.length + l0_1.length < 17592186044416 then (spec_FrmInto.l0 kj2 l1 0 l0_0 l0_1 a0_2 y373 (y376 ++ l0_1) a0_2) else (none)) = some (r1, r2, r3) := by first | (rw [hy376]; with_reducible exact H) | (have H2_ := (Option.bind_some _ _).symm.trans H; rw [hy376]; with_reducible exact H2_) | (have H2_ := (Option.bind_some _ _).symm.trans H; with_reducible exact H2_) | with_reducible exact H | (rw [hy376]; exact H) | exact H
    have Ny376 := Aside0.mk hy376
    clear hy376
    by_cases c41 : y376.length + l0_1.length < 17592186044416
    ·rw [if_pos c41] at H
     have LMc41 := Aside0.mk c41
     clear c41
     obtain ⟨y379, hy379⟩ : ∃ y_ : List Int, y_ = (y376 ++ l0_1) := ⟨_, rfl⟩
     replace H : (spec_FrmInto.l0 kj2 l1 0 l0_0 l0_1 a0_2 y373 y379 a0_2) = some (r1, r2, r3) := by first | (rw [hy379]; with_reducible exact H) | (have H2_ := (Option.bind_some _ _).symm.trans H; rw [hy379]; with_reducible exact H2_) | (have H2_ := (Option.bind_some _ _).symm.trans H; with_reducible exact H2_) | with_reducible exact H | (rw [hy379]; exact H) | exact H
     have Ny379 := Aside0.mk hy379
     clear hy379
     have H' := Aside0.mk H
     clear H
     try go_wp2
     replace BK364 := Aside0.mk (blk_drew BK364.out)
     replace BK365 := Aside0.mk (blk_drew BK365.out)
     replace HB := Aside0.mk (below_drew1 HB.out)
     refine start_ (n := 10) (S := fun w' => w'.cell? ⟨gb364, 0, none⟩ = some (.slice A0_0 l0_0.length c0_0) ∧ w'.cell? ⟨gb364, 1, none⟩ = some (.slice A0_1 l0_1.length c0_1) ∧ w'.cell? ⟨gb364, 2, none⟩ = some (.int .i64 a0_2)) (ds := []) #[false, false, false, false, false, false, false, false, false, false] (by kernel_rfl) rfl rfl ⟨(blk_cell BK364.out 0).trans rfl, (blk_cell BK364.out 1).trans rfl, (blk_cell BK364.out 2).trans rfl⟩ (fun hHeld => ?_); refine with_tabW spec_FrmInto.tab3 spec_FrmInto.bits3 (fun HT_ HW_ => ?_)
     generalize wc.drew = w42 at BK364 BK365 HB hHeld ⊢
     refine pure_ (i := 2) (N := some 39) (v := ?_) (a' := ?_) #[false, false, true, false, false, false, false, false, false, false] rfl rfl (any_of HT_.out (by kernel_rfl)) (fun _ _ _ h => h) (Or.inl ⟨by rfl, ?_⟩) ?_ ?_
     rotate_left
     ·intro w'
      go_simp
      with_reducible rfl
     rotate_left
     ·simp only [Act.put, sA, s0, sS, i64_w, i32_w]
      rfl
     refine pure_ (i := 5) (N := some 42) (v := ?_) (a' := ?_) #[false, false, true, false, false, true, false, false, false, false] rfl rfl (any_of HT_.out (by kernel_rfl)) (fun _ _ _ h => h) (Or.inl ⟨by rfl, ?_⟩) ?_ ?_
     rotate_left
     ·intro w'
      go_simp
      with_reducible rfl
     rotate_left
     ·simp only [Act.put, sA, s0, sS, i64_w, i32_w]
      rfl
     refine take_ (i := 3) (N := some 40) (v := ?_) (a' := ?_) #[false, false, true, true, false, true, false, false, false, false] rfl rfl (take_ofW HT_.out HW_.out (by kernel_rfl)) (fun _ _ _ h => h) (Or.inl ⟨by rfl, ?_⟩) hHeld ?_ ?_
     rotate_left
     ·rintro w' ⟨s0, s1, s2⟩
      go_simp
      with_reducible rfl
     rotate_left
     ·simp only [Act.put, sA, s0, sS, i64_w, i32_w]
      rfl
     refine take_ (i := 6) (N := some 43) (v := ?_) (a' := ?_) #[false, false, true, true, false, true, true, false, false, false] rfl rfl (take_ofW HT_.out HW_.out (by kernel_rfl)) (fun _ _ _ h => h) (Or.inl ⟨by rfl, ?_⟩) hHeld ?_ ?_
     rotate_left
     ·rintro w' ⟨s0, s1, s2⟩
      go_simp
      with_reducible rfl
     rotate_left
     ·simp only [Act.put, sA, s0, sS, i64_w, i32_w]
      rfl
     refine join_ (σ := Value × Value × Value × Nat) 1 #[true, true, true, true, true, true, true, true, true, false] (fun s_ => [(37, s_.1), (38, s_.2.1), (41, s_.2.2.1), (5, .pointer (some ⟨s_.2.2.2, 0, none⟩)), (44, .agg #[s_.1, s_.2.2.1, .int .i64 a0_2])]) (fun s_ w' => (w'.cell? ⟨gb364, 0, none⟩ = some (.slice A0_0 l0_0.length c0_0) ∧ w'.cell? ⟨gb364, 1, none⟩ = some (.slice A0_1 l0_1.length c0_1) ∧ w'.cell? ⟨gb364, 2, none⟩ = some (.int .i64 a0_2)) ∧ (Kd.R (Kd.int .i64) 3 w' w.heap.size (fun k_ => some k_ ≠ (s_.2.2.1 : Value).ownBlock) s_.1 y373) ∧ (Kd.R (Kd.int .i64) 3 w' w.heap.size (fun k_ => some k_ ≠ (s_.1 : Value).ownBlock) s_.2.2.1 y379) ∧ (w'.heap[gb364]? = some (.cells #[.slice A0_0 l0_0.length c0_0, .slice A0_1 l0_1.length c0_1, .int .i64 a0_2] 25 (0, 0))) ∧ (w'.heap[gb365]? = some (.cells #[.slice none 0 0, .slice none 0 0, .int .i64 0] 25 (0, 0))) ∧ (w'.heap[s_.2.2.2]? = some (.cells #[.slice none 0 0, .slice none 0 0, .int .i64 0] 25 (0, 0))) ∧ (w.heap.size ≤ s_.2.2.2) ∧ (w.heap.size ≤ s_.2.2.2) ∧ (gb364 ≠ s_.2.2.2) ∧ (s_.2.2.2 ≠ gb364) ∧ (gb365 ≠ s_.2.2.2) ∧ (s_.2.2.2 ≠ gb365) ∧ (Below w.heap.size w w')) ?_ ?_
     rotate_left
     ·intro hJ0_1_4_8
      refine join_ (σ := Value × Value × Value) 2 #[true, true, true, true, true, true, true, true, false, false] (fun s_ => [(37, s_.1), (38, s_.2.1), (41, s_.2.2), (44, .agg #[s_.1, s_.2.2, .int .i64 a0_2])]) (fun s_ w' => (w'.cell? ⟨gb364, 0, none⟩ = some (.slice A0_0 l0_0.length c0_0) ∧ w'.cell? ⟨gb364, 1, none⟩ = some (.slice A0_1 l0_1.length c0_1) ∧ w'.cell? ⟨gb364, 2, none⟩ = some (.int .i64 a0_2)) ∧ (Kd.R (Kd.int .i64) 3 w' w.heap.size (fun k_ => some k_ ≠ (s_.2.2 : Value).ownBlock) s_.1 y373) ∧ (Kd.R (Kd.int .i64) 3 w' w.heap.size (fun k_ => some k_ ≠ (s_.1 : Value).ownBlock) s_.2.2 y379) ∧ (w'.heap[gb364]? = some (.cells #[.slice A0_0 l0_0.length c0_0, .slice A0_1 l0_1.length c0_1, .int .i64 a0_2] 25 (0, 0))) ∧ (w'.heap[gb365]? = some (.cells #[.slice none 0 0, .slice none 0 0, .int .i64 0] 25 (0, 0))) ∧ (Below w.heap.size w w')) ?_ ?_
      rotate_left
      ·intro hJ0_1_4
       refine join_ (σ := Value × Value × Nat) 3 #[true, true, true, true, false, true, true, false, true, false] (fun s_ => [(37, s_.1), (38, s_.2.1), (5, .pointer (some ⟨s_.2.2, 0, none⟩))]) (fun s_ w' => (w'.cell? ⟨gb364, 0, none⟩ = some (.slice A0_0 l0_0.length c0_0) ∧ w'.cell? ⟨gb364, 1, none⟩ = some (.slice A0_1 l0_1.length c0_1) ∧ w'.cell? ⟨gb364, 2, none⟩ = some (.int .i64 a0_2)) ∧ (Kd.R (Kd.int .i64) 3 w' w.heap.size (fun k_ => some k_ ≠ (s_.2.1 : Value).ownBlock) s_.1 y373) ∧ (Kd.R (Kd.int .i64) 3 w' w.heap.size (fun k_ => some k_ ≠ (s_.1 : Value).ownBlock) s_.2.1 y376) ∧ (w'.heap[gb364]? = some (.cells #[.slice A0_0 l0_0.length c0_0, .slice A0_1 l0_1.length c0_1, .int .i64 a0_2] 25 (0, 0))) ∧ (w'.heap[gb365]? = some (.cells #[.slice none 0 0, .slice none 0 0, .int .i64 0] 25 (0, 0))) ∧ (w'.heap[s_.2.2]? = some (.cells #[.slice none 0 0, .slice none 0 0, .int .i64 0] 25 (0, 0))) ∧ (w.heap.size ≤ s_.2.2) ∧ (w.heap.size ≤ s_.2.2) ∧ (gb364 ≠ s_.2.2) ∧ (s_.2.2 ≠ gb364) ∧ (gb365 ≠ s_.2.2) ∧ (s_.2.2 ≠ gb365) ∧ (Below w.heap.size w w')) ?_ ?_
       rotate_left
       ·intro hJ0_1_8
        refine join_ (σ := Value × Value × Nat) 3 #[false, true, true, true, true, true, true, false, true, false] (fun s_ => [(38, s_.1), (41, s_.2.1), (5, .pointer (some ⟨s_.2.2, 0, none⟩))]) (fun s_ w' => (w'.cell? ⟨gb364, 0, none⟩ = some (.slice A0_0 l0_0.length c0_0) ∧ w'.cell? ⟨gb364, 1, none⟩ = some (.slice A0_1 l0_1.length c0_1) ∧ w'.cell? ⟨gb364, 2, none⟩ = some (.int .i64 a0_2)) ∧ (Kd.R (Kd.int .i64) 3 w' w.heap.size (fun _ => True) s_.2.1 y379) ∧ (w'.heap[gb364]? = some (.cells #[.slice A0_0 l0_0.length c0_0, .slice A0_1 l0_1.length c0_1, .int .i64 a0_2] 25 (0, 0))) ∧ (w'.heap[gb365]? = some (.cells #[.slice none 0 0, .slice none 0 0, .int .i64 0] 25 (0, 0))) ∧ (w'.heap[s_.2.2]? = some (.cells #[.slice none 0 0, .slice none 0 0, .int .i64 0] 25 (0, 0))) ∧ (w.heap.size ≤ s_.2.2) ∧ (w.heap.size ≤ s_.2.2) ∧ (gb364 ≠ s_.2.2) ∧ (s_.2.2 ≠ gb364) ∧ (gb365 ≠ s_.2.2) ∧ (s_.2.2 ≠ gb365) ∧ (Below w.heap.size w w')) ?_ ?_
        rotate_left
        ·intro hJ1_4_8
         refine join_ (σ := Value × Value) 4 #[true, true, true, true, false, true, true, false, false, false] (fun s_ => [(37, s_.1), (38, s_.2)]) (fun s_ w' => (w'.cell? ⟨gb364, 0, none⟩ = some (.slice A0_0 l0_0.length c0_0) ∧ w'.cell? ⟨gb364, 1, none⟩ = some (.slice A0_1 l0_1.length c0_1) ∧ w'.cell? ⟨gb364, 2, none⟩ = some (.int .i64 a0_2)) ∧ (Kd.R (Kd.int .i64) 3 w' w.heap.size (fun k_ => some k_ ≠ (s_.2 : Value).ownBlock) s_.1 y373) ∧ (Kd.R (Kd.int .i64) 3 w' w.heap.size (fun k_ => some k_ ≠ (s_.1 : Value).ownBlock) s_.2 y376) ∧ (w'.heap[gb364]? = some (.cells #[.slice A0_0 l0_0.length c0_0, .slice A0_1 l0_1.length c0_1, .int .i64 a0_2] 25 (0, 0))) ∧ (w'.heap[gb365]? = some (.cells #[.slice none 0 0, .slice none 0 0, .int .i64 0] 25 (0, 0))) ∧ (Below w.heap.size w w')) ?_ ?_
         rotate_left
         ·intro hJ0_1
          refine join_ (σ := Value × Nat) 4 #[true, false, true, true, false, true, true, false, true, false] (fun s_ => [(37, s_.1), (5, .pointer (some ⟨s_.2, 0, none⟩))]) (fun s_ w' => (w'.cell? ⟨gb364, 0, none⟩ = some (.slice A0_0 l0_0.length c0_0) ∧ w'.cell? ⟨gb364, 1, none⟩ = some (.slice A0_1 l0_1.length c0_1) ∧ w'.cell? ⟨gb364, 2, none⟩ = some (.int .i64 a0_2)) ∧ (Kd.R (Kd.int .i64) 3 w' w.heap.size (fun _ => True) s_.1 y373) ∧ (w'.heap[gb364]? = some (.cells #[.slice A0_0 l0_0.length c0_0, .slice A0_1 l0_1.length c0_1, .int .i64 a0_2] 25 (0, 0))) ∧ (w'.heap[gb365]? = some (.cells #[.slice none 0 0, .slice none 0 0, .int .i64 0] 25 (0, 0))) ∧ (w'.heap[s_.2]? = some (.cells #[.slice none 0 0, .slice none 0 0, .int .i64 0] 25 (0, 0))) ∧ (w.heap.size ≤ s_.2) ∧ (w.heap.size ≤ s_.2) ∧ (gb364 ≠ s_.2) ∧ (s_.2 ≠ gb364) ∧ (gb365 ≠ s_.2) ∧ (s_.2 ≠ gb365) ∧ (Below w.heap.size w w')) ?_ ?_
          rotate_left
          ·intro hJ0_8
           refine join_ (σ := Value × Value) 4 #[false, true, true, true, true, true, true, false, false, false] (fun s_ => [(38, s_.1), (41, s_.2)]) (fun s_ w' => (w'.cell? ⟨gb364, 0, none⟩ = some (.slice A0_0 l0_0.length c0_0) ∧ w'.cell? ⟨gb364, 1, none⟩ = some (.slice A0_1 l0_1.length c0_1) ∧ w'.cell? ⟨gb364, 2, none⟩ = some (.int .i64 a0_2)) ∧ (Kd.R (Kd.int .i64) 3 w' w.heap.size (fun _ => True) s_.2 y379) ∧ (w'.heap[gb364]? = some (.cells #[.slice A0_0 l0_0.length c0_0, .slice A0_1 l0_1.length c0_1, .int .i64 a0_2] 25 (0, 0))) ∧ (w'.heap[gb365]? = some (.cells #[.slice none 0 0, .slice none 0 0, .int .i64 0] 25 (0, 0))) ∧ (Below w.heap.size w w')) ?_ ?_
           rotate_left
           ·intro hJ1_4
            refine join_ (σ := Value × Nat) 4 #[false, true, true, true, false, true, true, false, true, false] (fun s_ => [(38, s_.1), (5, .pointer (some ⟨s_.2, 0, none⟩))]) (fun s_ w' => (w'.cell? ⟨gb364, 0, none⟩ = some (.slice A0_0 l0_0.length c0_0) ∧ w'.cell? ⟨gb364, 1, none⟩ = some (.slice A0_1 l0_1.length c0_1) ∧ w'.cell? ⟨gb364, 2, none⟩ = some (.int .i64 a0_2)) ∧ (Kd.R (Kd.int .i64) 3 w' w.heap.size (fun _ => True) s_.1 y376) ∧ (w'.heap[gb364]? = some (.cells #[.slice A0_0 l0_0.length c0_0, .slice A0_1 l0_1.length c0_1, .int .i64 a0_2] 25 (0, 0))) ∧ (w'.heap[gb365]? = some (.cells #[.slice none 0 0, .slice none 0 0, .int .i64 0] 25 (0, 0))) ∧ (w'.heap[s_.2]? = some (.cells #[.slice none 0 0, .slice none 0 0, .int .i64 0] 25 (0, 0))) ∧ (w.heap.size ≤ s_.2) ∧ (w.heap.size ≤ s_.2) ∧ (gb364 ≠ s_.2) ∧ (s_.2 ≠ gb364) ∧ (gb365 ≠ s_.2) ∧ (s_.2 ≠ gb365) ∧ (Below w.heap.size w w')) ?_ ?_
            rotate_left
            ·intro hJ1_8
             refine join_ (σ := Value) 5 #[true, false, true, true, false, true, true, false, false, false] (fun s_ => [(37, s_)]) (fun s_ w' => (w'.cell? ⟨gb364, 0, none⟩ = some (.slice A0_0 l0_0.length c0_0) ∧ w'.cell? ⟨gb364, 1, none⟩ = some (.slice A0_1 l0_1.length c0_1) ∧ w'.cell? ⟨gb364, 2, none⟩ = some (.int .i64 a0_2)) ∧ (Kd.R (Kd.int .i64) 3 w' w.heap.size (fun _ => True) s_ y373) ∧ (w'.heap[gb364]? = some (.cells #[.slice A0_0 l0_0.length c0_0, .slice A0_1 l0_1.length c0_1, .int .i64 a0_2] 25 (0, 0))) ∧ (w'.heap[gb365]? = some (.cells #[.slice none 0 0, .slice none 0 0, .int .i64 0] 25 (0, 0))) ∧ (Below w.heap.size w w')) ?_ ?_
             rotate_left
             ·intro hJ0
              refine join_ (σ := Value) 5 #[false, true, true, true, false, true, true, false, false, false] (fun s_ => [(38, s_)]) (fun s_ w' => (w'.cell? ⟨gb364, 0, none⟩ = some (.slice A0_0 l0_0.length c0_0) ∧ w'.cell? ⟨gb364, 1, none⟩ = some (.slice A0_1 l0_1.length c0_1) ∧ w'.cell? ⟨gb364, 2, none⟩ = some (.int .i64 a0_2)) ∧ (Kd.R (Kd.int .i64) 3 w' w.heap.size (fun _ => True) s_ y376) ∧ (w'.heap[gb364]? = some (.cells #[.slice A0_0 l0_0.length c0_0, .slice A0_1 l0_1.length c0_1, .int .i64 a0_2] 25 (0, 0))) ∧ (w'.heap[gb365]? = some (.cells #[.slice none 0 0, .slice none 0 0, .int .i64 0] 25 (0, 0))) ∧ (Below w.heap.size w w')) ?_ ?_
              rotate_left
              ·intro hJ1
               refine join_ (σ := Nat) 5 #[false, false, true, true, false, true, true, false, true, false] (fun s_ => [(5, .pointer (some ⟨s_, 0, none⟩))]) (fun s_ w' => (w'.cell? ⟨gb364, 0, none⟩ = some (.slice A0_0 l0_0.length c0_0) ∧ w'.cell? ⟨gb364, 1, none⟩ = some (.slice A0_1 l0_1.length c0_1) ∧ w'.cell? ⟨gb364, 2, none⟩ = some (.int .i64 a0_2)) ∧ (w'.heap[gb364]? = some (.cells #[.slice A0_0 l0_0.length c0_0, .slice A0_1 l0_1.length c0_1, .int .i64 a0_2] 25 (0, 0))) ∧ (w'.heap[gb365]? = some (.cells #[.slice none 0 0, .slice none 0 0, .int .i64 0] 25 (0, 0))) ∧ (w'.heap[s_]? = some (.cells #[.slice none 0 0, .slice none 0 0, .int .i64 0] 25 (0, 0))) ∧ (w.heap.size ≤ s_) ∧ (w.heap.size ≤ s_) ∧ (gb364 ≠ s_) ∧ (s_ ≠ gb364) ∧ (gb365 ≠ s_) ∧ (s_ ≠ gb365) ∧ (Below w.heap.size w w')) ?_ ?_
               rotate_left
               ·intro hJ8
                refine three_ (i := 0) (j := 1) (k := 8) (Ni := some 37) (Nj := some 38) (Nk := some 5) #[true, false, true, true, false, true, true, false, false, false] #[false, true, true, true, false, true, true, false, false, false] #[false, false, true, true, false, true, true, false, true, false] rfl rfl rfl rfl rfl rfl (three_of HT_.out (by kernel_rfl)) (by decide) (by decide) (by decide) (fun K hK => ?_) (fun K hK => ?_) (fun K hK => ?_)
                ·skip
                 refine Kd.R_lit_step (Kd.int .i64) _ 3 ?hg (N := 37) ?hd (xs := ([0, 0, 0] : List Int)) (inner := [.int .i64 0, .int .i64 0, .int .i64 0]) (ok := fun _ => True) (okp := fun _ => True) ?hr ?hp (fun _ hk => hk) trivial (Below.refl _ _) (Nat.le_refl _) (by simp) ?_; (case hd => rfl); (case hg => rfl); (case hr => first | (go_simp; done) | (go_simp; rfl)); (case hp => exact (Reps.one (show Kd.M (Kd.int .i64) _ _ _ 0 [.int .i64 0] from rfl) (Reps.one (show Kd.M (Kd.int .i64) _ _ _ 0 [.int .i64 0] from rfl) (Reps.one (show Kd.M (Kd.int .i64) _ _ _ 0 [.int .i64 0] from rfl) (Reps.none _ _)))))
                 intro v374 w43 ho44 hb hg_ hnew_
                 clear hg_ hnew_
                 (first | rw [← Ny373.out] at ho44 | (simp only [Int.reduceToNat] at ho44; rw [← Ny373.out] at ho44))
                 have HO375 := Aside0.mk (Kd.R_lower ho44 (below_size (by exact jB HB.out)))
                 replace BK364 := Aside0.mk (bb BK364.out hb)
                 replace BK365 := Aside0.mk (bb BK365.out hb)
                 replace HB := Aside0.mk (below_step (by exact jB HB.out) hb)
                 clear hb ho44
                 refine hK.out _ _ ⟨(blk_cell BK364.out 0).trans rfl, (blk_cell BK364.out 1).trans rfl, (blk_cell BK364.out 2).trans rfl⟩ (fun hHeld => ?_)
                 clear hK K
                 refine norm_ (a' := ?_) ?_ ?_
                 rotate_left
                 ·show Act.put _ (some 37) _ = _
                  simp only [Act.put, sA, s0, sS, i64_w, i32_w]
                  rfl
                 exact norm_ (by first | (simp only [putAll, Act.put, List.setIfInBounds_toArray, List.set_cons_zero, List.set_cons_succ]; done) | (simp only [putAll, Act.put, List.setIfInBounds_toArray, List.set_cons_zero, List.set_cons_succ]; rfl)) (hJ0 (v374) _ ⟨hHeld, (by exact lR HO375.out), (by exact lK BK364.out), (by exact lK BK365.out), (by exact jB HB.out)⟩)
                ·skip
                 refine Kd.R_lit_step (Kd.int .i64) _ 3 ?hg (N := 38) ?hd (xs := ([] : List Int)) (inner := []) (ok := fun _ => True) (okp := fun _ => True) ?hr ?hp (fun _ hk => hk) trivial (Below.refl _ _) (Nat.le_refl _) (by simp) ?_; (case hd => rfl); (case hg => rfl); (case hr => first | (go_simp; done) | (go_simp; rfl)); (case hp => exact (Reps.none _ _))
                 intro v377 w43 ho44 hb hg_ hnew_
                 clear hg_ hnew_
                 (first | rw [← Ny376.out] at ho44 | (simp only [Int.reduceToNat] at ho44; rw [← Ny376.out] at ho44))
                 have HO378 := Aside0.mk (Kd.R_lower ho44 (below_size (by exact jB HB.out)))
                 replace BK364 := Aside0.mk (bb BK364.out hb)
                 replace BK365 := Aside0.mk (bb BK365.out hb)
                 replace HB := Aside0.mk (below_step (by exact jB HB.out) hb)
                 clear hb ho44
                 refine hK.out _ _ ⟨(blk_cell BK364.out 0).trans rfl, (blk_cell BK364.out 1).trans rfl, (blk_cell BK364.out 2).trans rfl⟩ (fun hHeld => ?_)
                 clear hK K
                 refine norm_ (a' := ?_) ?_ ?_
                 rotate_left
                 ·show Act.put _ (some 38) _ = _
                  simp only [Act.put, sA, s0, sS, i64_w, i32_w]
                  rfl
                 exact norm_ (by first | (simp only [putAll, Act.put, List.setIfInBounds_toArray, List.set_cons_zero, List.set_cons_succ]; done) | (simp only [putAll, Act.put, List.setIfInBounds_toArray, List.set_cons_zero, List.set_cons_succ]; rfl)) (hJ1 (v377) _ ⟨hHeld, (by exact lR HO378.out), (by exact lK BK364.out), (by exact lK BK365.out), (by exact jB HB.out)⟩)
                ·skip
                 refine box_step ?hg (N := 5) ?hd (cs := #[.slice none 0 0, .slice none 0 0, .int .i64 0]) (t := 25) ?hr ?_; (case hd => rfl); (case hg => rfl); (case hr => first | (go_simp; done) | (go_simp; rfl))
                 intro gb382 hg w43 hbox hb
                 have BK382 := Aside0.mk (hbox)
                 have GW382 := Aside0.mk ((by rw [hg]; exact (below_size (by exact jB HB.out)) : w.heap.size ≤ gb382))
                 have IGW382 : Nonempty _ := ⟨GW382.out⟩
                 have GE382 := Aside0.mk ((by rw [hg]; exact (below_size (by exact jB HB.out)) : w.heap.size ≤ gb382))
                 have IGE382 : Nonempty _ := ⟨GE382.out⟩
                 replace HB := Aside0.mk (below_step (by exact jB HB.out) hb)
                 have NB364_382 := Aside0.mk ((neL hg (lK BK364.out) : gb364 ≠ gb382))
                 have INB364_382 : Nonempty _ := ⟨NB364_382.out⟩
                 have NB382_364 := Aside0.mk ((neG hg (lK BK364.out) : gb382 ≠ gb364))
                 have INB382_364 : Nonempty _ := ⟨NB382_364.out⟩
                 replace BK364 := Aside0.mk (bb BK364.out hb)
                 have NB365_382 := Aside0.mk ((neL hg (lK BK365.out) : gb365 ≠ gb382))
                 have INB365_382 : Nonempty _ := ⟨NB365_382.out⟩
                 have NB382_365 := Aside0.mk ((neG hg (lK BK365.out) : gb382 ≠ gb365))
                 have INB382_365 : Nonempty _ := ⟨NB382_365.out⟩
                 replace BK365 := Aside0.mk (bb BK365.out hb)
                 clear hb hbox hg
                 refine hK.out _ _ ⟨(blk_cell BK364.out 0).trans rfl, (blk_cell BK364.out 1).trans rfl, (blk_cell BK364.out 2).trans rfl⟩ (fun hHeld => ?_)
                 clear hK K
                 refine norm_ (a' := ?_) ?_ ?_
                 rotate_left
                 ·show Act.put _ (some 5) _ = _
                  simp only [Act.put, sA, s0, sS, i64_w, i32_w]
                  rfl
                 exact norm_ (by first | (simp only [putAll, Act.put, List.setIfInBounds_toArray, List.set_cons_zero, List.set_cons_succ]; done) | (simp only [putAll, Act.put, List.setIfInBounds_toArray, List.set_cons_zero, List.set_cons_succ]; rfl)) (hJ8 (gb382) _ ⟨hHeld, (by exact lK BK364.out), (by exact lK BK365.out), (by exact lK BK382.out), GW382.out, GE382.out, NB364_382.out, NB382_364.out, NB365_382.out, NB382_365.out, (by exact jB HB.out)⟩)
               ·skip
                rintro gb382 w44 ⟨hS_, h0_, h1_, h2_, h3_, h4_, h5_, h6_, h7_, h8_, h9_⟩
                replace BK364 : Aside0 (w44.heap[gb364]? = some (.cells #[.slice A0_0 l0_0.length c0_0, .slice A0_1 l0_1.length c0_1, .int .i64 a0_2] 25 (0, 0))) := ⟨h0_⟩
                replace BK365 : Aside0 (w44.heap[gb365]? = some (.cells #[.slice none 0 0, .slice none 0 0, .int .i64 0] 25 (0, 0))) := ⟨h1_⟩
                have BK382 : Aside0 (w44.heap[gb382]? = some (.cells #[.slice none 0 0, .slice none 0 0, .int .i64 0] 25 (0, 0))) := ⟨h2_⟩
                have GW382 : Aside0 (w.heap.size ≤ gb382) := ⟨h3_⟩
                have IGW382 : Nonempty _ := ⟨GW382.out⟩
                have GE382 : Aside0 (w.heap.size ≤ gb382) := ⟨h4_⟩
                have IGE382 : Nonempty _ := ⟨GE382.out⟩
                have NB364_382 : Aside0 (gb364 ≠ gb382) := ⟨h5_⟩
                have INB364_382 : Nonempty _ := ⟨NB364_382.out⟩
                have NB382_364 : Aside0 (gb382 ≠ gb364) := ⟨h6_⟩
                have INB382_364 : Nonempty _ := ⟨NB382_364.out⟩
                have NB365_382 : Aside0 (gb365 ≠ gb382) := ⟨h7_⟩
                have INB365_382 : Nonempty _ := ⟨NB365_382.out⟩
                have NB382_365 : Aside0 (gb382 ≠ gb365) := ⟨h8_⟩
                have INB382_365 : Nonempty _ := ⟨NB382_365.out⟩
                replace HB : Aside0 (Below w.heap.size w w44) := ⟨h9_⟩
                clear h0_ h1_ h2_ h3_ h4_ h5_ h6_ h7_ h8_ h9_
                have hHeld : w44.cell? ⟨gb364, 0, none⟩ = some (.slice A0_0 l0_0.length c0_0) ∧ w44.cell? ⟨gb364, 1, none⟩ = some (.slice A0_1 l0_1.length c0_1) ∧ w44.cell? ⟨gb364, 2, none⟩ = some (.int .i64 a0_2) := hS_
                refine norm_ (a' := ?_) ?_ ?_
                rotate_left
                ·simp only [putAll, Act.put, List.setIfInBounds_toArray, List.set_cons_zero, List.set_cons_succ]
                 rfl
                refine two_ (i := 0) (j := 1) (Ni := some 37) (Nj := some 38) #[true, false, true, true, false, true, true, false, true, false] #[false, true, true, true, false, true, true, false, true, false] rfl rfl rfl rfl (two_of HT_.out (by kernel_rfl)) (by decide) (by decide) (fun K hK => ?_) (fun K hK => ?_)
                ·skip
                 refine Kd.R_lit_step (Kd.int .i64) _ 3 ?hg (N := 37) ?hd (xs := ([0, 0, 0] : List Int)) (inner := [.int .i64 0, .int .i64 0, .int .i64 0]) (ok := fun _ => True) (okp := fun _ => True) ?hr ?hp (fun _ hk => hk) trivial (Below.refl _ _) (Nat.le_refl _) (by simp) ?_; (case hd => rfl); (case hg => rfl); (case hr => first | (go_simp; done) | (go_simp; rfl)); (case hp => exact (Reps.one (show Kd.M (Kd.int .i64) _ _ _ 0 [.int .i64 0] from rfl) (Reps.one (show Kd.M (Kd.int .i64) _ _ _ 0 [.int .i64 0] from rfl) (Reps.one (show Kd.M (Kd.int .i64) _ _ _ 0 [.int .i64 0] from rfl) (Reps.none _ _)))))
                 intro v374 w45 ho46 hb hg_ hnew_
                 clear hg_ hnew_
                 (first | rw [← Ny373.out] at ho46 | (simp only [Int.reduceToNat] at ho46; rw [← Ny373.out] at ho46))
                 have HO375 := Aside0.mk (Kd.R_lower ho46 (below_size (by exact jB HB.out)))
                 replace BK364 := Aside0.mk (bb BK364.out hb)
                 replace BK365 := Aside0.mk (bb BK365.out hb)
                 replace BK382 := Aside0.mk (bb BK382.out hb)
                 replace HB := Aside0.mk (below_step (by exact jB HB.out) hb)
                 clear hb ho46
                 refine hK.out _ _ ⟨(blk_cell BK364.out 0).trans rfl, (blk_cell BK364.out 1).trans rfl, (blk_cell BK364.out 2).trans rfl⟩ (fun hHeld => ?_)
                 clear hK K
                 refine norm_ (a' := ?_) ?_ ?_
                 rotate_left
                 ·show Act.put _ (some 37) _ = _
                  simp only [Act.put, sA, s0, sS, i64_w, i32_w]
                  rfl
                 exact norm_ (by first | (simp only [putAll, Act.put, List.setIfInBounds_toArray, List.set_cons_zero, List.set_cons_succ]; done) | (simp only [putAll, Act.put, List.setIfInBounds_toArray, List.set_cons_zero, List.set_cons_succ]; rfl)) (hJ0_8 (v374, gb382) _ ⟨hHeld, (by exact lR HO375.out), (by exact lK BK364.out), (by exact lK BK365.out), (by exact lK BK382.out), GW382.out, GE382.out, NB364_382.out, NB382_364.out, NB365_382.out, NB382_365.out, (by exact jB HB.out)⟩)
                ·skip
                 refine Kd.R_lit_step (Kd.int .i64) _ 3 ?hg (N := 38) ?hd (xs := ([] : List Int)) (inner := []) (ok := fun _ => True) (okp := fun _ => True) ?hr ?hp (fun _ hk => hk) trivial (Below.refl _ _) (Nat.le_refl _) (by simp) ?_; (case hd => rfl); (case hg => rfl); (case hr => first | (go_simp; done) | (go_simp; rfl)); (case hp => exact (Reps.none _ _))
                 intro v377 w45 ho46 hb hg_ hnew_
                 clear hg_ hnew_
                 (first | rw [← Ny376.out] at ho46 | (simp only [Int.reduceToNat] at ho46; rw [← Ny376.out] at ho46))
                 have HO378 := Aside0.mk (Kd.R_lower ho46 (below_size (by exact jB HB.out)))
                 replace BK364 := Aside0.mk (bb BK364.out hb)
                 replace BK365 := Aside0.mk (bb BK365.out hb)
                 replace BK382 := Aside0.mk (bb BK382.out hb)
                 replace HB := Aside0.mk (below_step (by exact jB HB.out) hb)
                 clear hb ho46
                 refine hK.out _ _ ⟨(blk_cell BK364.out 0).trans rfl, (blk_cell BK364.out 1).trans rfl, (blk_cell BK364.out 2).trans rfl⟩ (fun hHeld => ?_)
                 clear hK K
                 refine norm_ (a' := ?_) ?_ ?_
                 rotate_left
                 ·show Act.put _ (some 38) _ = _
                  simp only [Act.put, sA, s0, sS, i64_w, i32_w]
                  rfl
                 exact norm_ (by first | (simp only [putAll, Act.put, List.setIfInBounds_toArray, List.set_cons_zero, List.set_cons_succ]; done) | (simp only [putAll, Act.put, List.setIfInBounds_toArray, List.set_cons_zero, List.set_cons_succ]; rfl)) (hJ1_8 (v377, gb382) _ ⟨hHeld, (by exact lR HO378.out), (by exact lK BK364.out), (by exact lK BK365.out), (by exact lK BK382.out), GW382.out, GE382.out, NB364_382.out, NB382_364.out, NB365_382.out, NB382_365.out, (by exact jB HB.out)⟩)
              ·skip
               rintro v377 w45 ⟨hS_, h0_, h1_, h2_, h3_⟩
               have HO378 : Aside0 (Kd.R (Kd.int .i64) 3 w45 w.heap.size (fun _ => True) v377 y376) := ⟨h0_⟩
               replace BK364 : Aside0 (w45.heap[gb364]? = some (.cells #[.slice A0_0 l0_0.length c0_0, .slice A0_1 l0_1.length c0_1, .int .i64 a0_2] 25 (0, 0))) := ⟨h1_⟩
               replace BK365 : Aside0 (w45.heap[gb365]? = some (.cells #[.slice none 0 0, .slice none 0 0, .int .i64 0] 25 (0, 0))) := ⟨h2_⟩
               replace HB : Aside0 (Below w.heap.size w w45) := ⟨h3_⟩
               clear h0_ h1_ h2_ h3_
               have hHeld : w45.cell? ⟨gb364, 0, none⟩ = some (.slice A0_0 l0_0.length c0_0) ∧ w45.cell? ⟨gb364, 1, none⟩ = some (.slice A0_1 l0_1.length c0_1) ∧ w45.cell? ⟨gb364, 2, none⟩ = some (.int .i64 a0_2) := hS_
               refine norm_ (a' := ?_) ?_ ?_
               rotate_left
               ·simp only [putAll, Act.put, List.setIfInBounds_toArray, List.set_cons_zero, List.set_cons_succ]
                rfl
               refine three_ (i := 0) (j := 4) (k := 8) (Ni := some 37) (Nj := some 41) (Nk := some 5) #[true, true, true, true, false, true, true, false, false, false] #[false, true, true, true, true, true, true, false, false, false] #[false, true, true, true, false, true, true, false, true, false] rfl rfl rfl rfl rfl rfl (three_of HT_.out (by kernel_rfl)) (by decide) (by decide) (by decide) (fun K hK => ?_) (fun K hK => ?_) (fun K hK => ?_)
               ·skip
                refine Kd.R_lit_step (Kd.int .i64) _ 3 ?hg (N := 37) ?hd (xs := ([0, 0, 0] : List Int)) (inner := [.int .i64 0, .int .i64 0, .int .i64 0]) (ok := fun _ => True) (okp := fun _ => True) ?hr ?hp (fun _ hk => hk) trivial (Below.refl _ _) (Nat.le_refl _) (by simp) ?_; (case hd => rfl); (case hg => rfl); (case hr => first | (go_simp; done) | (go_simp; rfl)); (case hp => exact (Reps.one (show Kd.M (Kd.int .i64) _ _ _ 0 [.int .i64 0] from rfl) (Reps.one (show Kd.M (Kd.int .i64) _ _ _ 0 [.int .i64 0] from rfl) (Reps.one (show Kd.M (Kd.int .i64) _ _ _ 0 [.int .i64 0] from rfl) (Reps.none _ _)))))
                intro v374 w46 ho47 hb hg_ hnew_
                clear hg_ hnew_
                (first | rw [← Ny373.out] at ho47 | (simp only [Int.reduceToNat] at ho47; rw [← Ny373.out] at ho47))
                have HO375 := Aside0.mk (Kd.R_lower (Kd.R_new' ho47 (rl HO378.out)) (below_size (by exact jB HB.out)))
                replace HO378 := Aside0.mk (Kd.R_elder' (by exact lR HO378.out) (Kd.R_base ho47) hb)
                replace BK364 := Aside0.mk (bb BK364.out hb)
                replace BK365 := Aside0.mk (bb BK365.out hb)
                replace HB := Aside0.mk (below_step (by exact jB HB.out) hb)
                clear hb ho47
                refine hK.out _ _ ⟨(blk_cell BK364.out 0).trans rfl, (blk_cell BK364.out 1).trans rfl, (blk_cell BK364.out 2).trans rfl⟩ (fun hHeld => ?_)
                clear hK K
                refine norm_ (a' := ?_) ?_ ?_
                rotate_left
                ·show Act.put _ (some 37) _ = _
                 simp only [Act.put, sA, s0, sS, i64_w, i32_w]
                 rfl
                exact norm_ (by first | (simp only [putAll, Act.put, List.setIfInBounds_toArray, List.set_cons_zero, List.set_cons_succ]; done) | (simp only [putAll, Act.put, List.setIfInBounds_toArray, List.set_cons_zero, List.set_cons_succ]; rfl)) (hJ0_1 (v374, v377) _ ⟨hHeld, (by exact lR <| Kd.R_mono HO375.out (fun _ hk => hk.2)), (by exact lR <| Kd.R_mono HO378.out (fun _ hk => hk.2)), (by exact lK BK364.out), (by exact lK BK365.out), (by exact jB HB.out)⟩)
               ·skip
                refine Kd.R_append_rows_step (Kd.int .i64) (w0 := w) w.heap.size (by rfl) (.tmp 38) (.tmp 40) 23 3 (.int .i64 0) 8 rfl Try.underlying23 info3 rfl (by decide) (by omega) v377 y376 l0_1 _ _ _ (fun _ => True) (fun _ => False) rfl rfl ?aO ?aR (fun _ _ h => h) (fun _ h => h.elim) ?aF ?aB ?aS ?aL ?_
                (case aR => exact lC <| (Kd.C_below HR0_1.out HB.out))
                (case aB => exact (by exact jB HB.out))
                (case aF => exact (fun _ _ => trivial))
                (case aO => exact (by exact lR HO378.out))
                (case aS => exact (below_size (by exact jB HB.out)))
                (case aL => have := LMc41.out; omega)
                intro v380 w46 ho hb hg hat
                rw [← Ny379.out] at ho
                replace BK364 := Aside0.mk (blk_grown (g := gb364) (o := .cells #[.slice A0_0 l0_0.length c0_0, .slice A0_1 l0_1.length c0_1, .int .i64 a0_2] 25 (0, 0)) (by exact lK BK364.out) hg (Kd.R_ne HO378.out BK364.out (by decide)))
                replace BK365 := Aside0.mk (blk_grown (g := gb365) (o := .cells #[.slice none 0 0, .slice none 0 0, .int .i64 0] 25 (0, 0)) (by exact lK BK365.out) hg (Kd.R_ne HO378.out BK365.out (by decide)))
                replace HB := Aside0.mk (hb)
                have HO381 := Aside0.mk (ho)
                clear HO378 ho hb hg hat
                refine hK.out _ _ ⟨(blk_cell BK364.out 0).trans rfl, (blk_cell BK364.out 1).trans rfl, (blk_cell BK364.out 2).trans rfl⟩ (fun hHeld => ?_)
                clear hK K
                refine norm_ (a' := ?_) ?_ ?_
                rotate_left
                ·show Act.put _ (some 41) _ = _
                 simp only [Act.put, sA, s0, sS, i64_w, i32_w]
                 rfl
                exact norm_ (by first | (simp only [putAll, Act.put, List.setIfInBounds_toArray, List.set_cons_zero, List.set_cons_succ]; done) | (simp only [putAll, Act.put, List.setIfInBounds_toArray, List.set_cons_zero, List.set_cons_succ]; rfl)) (hJ1_4 (v377, v380) _ ⟨hHeld, (by exact lR HO381.out), (by exact lK BK364.out), (by exact lK BK365.out), (by exact jB HB.out)⟩)
               ·skip
                refine box_step ?hg (N := 5) ?hd (cs := #[.slice none 0 0, .slice none 0 0, .int .i64 0]) (t := 25) ?hr ?_; (case hd => rfl); (case hg => rfl); (case hr => first | (go_simp; done) | (go_simp; rfl))
                intro gb382 hg w46 hbox hb
                replace HO378 := Aside0.mk (rb HO378.out hb)
                have BK382 := Aside0.mk (hbox)
                have GW382 := Aside0.mk ((by rw [hg]; exact (below_size (by exact jB HB.out)) : w.heap.size ≤ gb382))
                have IGW382 : Nonempty _ := ⟨GW382.out⟩
                have GE382 := Aside0.mk ((by rw [hg]; exact (below_size (by exact jB HB.out)) : w.heap.size ≤ gb382))
                have IGE382 : Nonempty _ := ⟨GE382.out⟩
                replace HB := Aside0.mk (below_step (by exact jB HB.out) hb)
                have NB364_382 := Aside0.mk ((neL hg (lK BK364.out) : gb364 ≠ gb382))
                have INB364_382 : Nonempty _ := ⟨NB364_382.out⟩
                have NB382_364 := Aside0.mk ((neG hg (lK BK364.out) : gb382 ≠ gb364))
                have INB382_364 : Nonempty _ := ⟨NB382_364.out⟩
                replace BK364 := Aside0.mk (bb BK364.out hb)
                have NB365_382 := Aside0.mk ((neL hg (lK BK365.out) : gb365 ≠ gb382))
                have INB365_382 : Nonempty _ := ⟨NB365_382.out⟩
                have NB382_365 := Aside0.mk ((neG hg (lK BK365.out) : gb382 ≠ gb365))
                have INB382_365 : Nonempty _ := ⟨NB382_365.out⟩
                replace BK365 := Aside0.mk (bb BK365.out hb)
                clear hb hbox hg
                refine hK.out _ _ ⟨(blk_cell BK364.out 0).trans rfl, (blk_cell BK364.out 1).trans rfl, (blk_cell BK364.out 2).trans rfl⟩ (fun hHeld => ?_)
                clear hK K
                refine norm_ (a' := ?_) ?_ ?_
                rotate_left
                ·show Act.put _ (some 5) _ = _
                 simp only [Act.put, sA, s0, sS, i64_w, i32_w]
                 rfl
                exact norm_ (by first | (simp only [putAll, Act.put, List.setIfInBounds_toArray, List.set_cons_zero, List.set_cons_succ]; done) | (simp only [putAll, Act.put, List.setIfInBounds_toArray, List.set_cons_zero, List.set_cons_succ]; rfl)) (hJ1_8 (v377, gb382) _ ⟨hHeld, (by exact lR HO378.out), (by exact lK BK364.out), (by exact lK BK365.out), (by exact lK BK382.out), GW382.out, GE382.out, NB364_382.out, NB382_364.out, NB365_382.out, NB382_365.out, (by exact jB HB.out)⟩)
             ·skip
              rintro v374 w45 ⟨hS_, h0_, h1_, h2_, h3_⟩
              have HO375 : Aside0 (Kd.R (Kd.int .i64) 3 w45 w.heap.size (fun _ => True) v374 y373) := ⟨h0_⟩
              replace BK364 : Aside0 (w45.heap[gb364]? = some (.cells #[.slice A0_0 l0_0.length c0_0, .slice A0_1 l0_1.length c0_1, .int .i64 a0_2] 25 (0, 0))) := ⟨h1_⟩
              replace BK365 : Aside0 (w45.heap[gb365]? = some (.cells #[.slice none 0 0, .slice none 0 0, .int .i64 0] 25 (0, 0))) := ⟨h2_⟩
              replace HB : Aside0 (Below w.heap.size w w45) := ⟨h3_⟩
              clear h0_ h1_ h2_ h3_
              have hHeld : w45.cell? ⟨gb364, 0, none⟩ = some (.slice A0_0 l0_0.length c0_0) ∧ w45.cell? ⟨gb364, 1, none⟩ = some (.slice A0_1 l0_1.length c0_1) ∧ w45.cell? ⟨gb364, 2, none⟩ = some (.int .i64 a0_2) := hS_
              refine norm_ (a' := ?_) ?_ ?_
              rotate_left
              ·simp only [putAll, Act.put, List.setIfInBounds_toArray, List.set_cons_zero, List.set_cons_succ]
               rfl
              refine two_ (i := 1) (j := 8) (Ni := some 38) (Nj := some 5) #[true, true, true, true, false, true, true, false, false, false] #[true, false, true, true, false, true, true, false, true, false] rfl rfl rfl rfl (two_of HT_.out (by kernel_rfl)) (by decide) (by decide) (fun K hK => ?_) (fun K hK => ?_)
              ·skip
               refine Kd.R_lit_step (Kd.int .i64) _ 3 ?hg (N := 38) ?hd (xs := ([] : List Int)) (inner := []) (ok := fun _ => True) (okp := fun _ => True) ?hr ?hp (fun _ hk => hk) trivial (Below.refl _ _) (Nat.le_refl _) (by simp) ?_; (case hd => rfl); (case hg => rfl); (case hr => first | (go_simp; done) | (go_simp; rfl)); (case hp => exact (Reps.none _ _))
               intro v377 w46 ho47 hb hg_ hnew_
               clear hg_ hnew_
               (first | rw [← Ny376.out] at ho47 | (simp only [Int.reduceToNat] at ho47; rw [← Ny376.out] at ho47))
               have HO378 := Aside0.mk (Kd.R_lower (Kd.R_new' ho47 (rl HO375.out)) (below_size (by exact jB HB.out)))
               replace HO375 := Aside0.mk (Kd.R_elder' (by exact lR HO375.out) (Kd.R_base ho47) hb)
               replace BK364 := Aside0.mk (bb BK364.out hb)
               replace BK365 := Aside0.mk (bb BK365.out hb)
               replace HB := Aside0.mk (below_step (by exact jB HB.out) hb)
               clear hb ho47
               refine hK.out _ _ ⟨(blk_cell BK364.out 0).trans rfl, (blk_cell BK364.out 1).trans rfl, (blk_cell BK364.out 2).trans rfl⟩ (fun hHeld => ?_)
               clear hK K
               refine norm_ (a' := ?_) ?_ ?_
               rotate_left
               ·show Act.put _ (some 38) _ = _
                simp only [Act.put, sA, s0, sS, i64_w, i32_w]
                rfl
               exact norm_ (by first | (simp only [putAll, Act.put, List.setIfInBounds_toArray, List.set_cons_zero, List.set_cons_succ]; done) | (simp only [putAll, Act.put, List.setIfInBounds_toArray, List.set_cons_zero, List.set_cons_succ]; rfl)) (hJ0_1 (v374, v377) _ ⟨hHeld, (by exact lR <| Kd.R_mono HO375.out (fun _ hk => hk.2)), (by exact lR <| Kd.R_mono HO378.out (fun _ hk => hk.2)), (by exact lK BK364.out), (by exact lK BK365.out), (by exact jB HB.out)⟩)
              ·skip
               refine box_step ?hg (N := 5) ?hd (cs := #[.slice none 0 0, .slice none 0 0, .int .i64 0]) (t := 25) ?hr ?_; (case hd => rfl); (case hg => rfl); (case hr => first | (go_simp; done) | (go_simp; rfl))
               intro gb382 hg w46 hbox hb
               replace HO375 := Aside0.mk (rb HO375.out hb)
               have BK382 := Aside0.mk (hbox)
               have GW382 := Aside0.mk ((by rw [hg]; exact (below_size (by exact jB HB.out)) : w.heap.size ≤ gb382))
               have IGW382 : Nonempty _ := ⟨GW382.out⟩
               have GE382 := Aside0.mk ((by rw [hg]; exact (below_size (by exact jB HB.out)) : w.heap.size ≤ gb382))
               have IGE382 : Nonempty _ := ⟨GE382.out⟩
               replace HB := Aside0.mk (below_step (by exact jB HB.out) hb)
               have NB364_382 := Aside0.mk ((neL hg (lK BK364.out) : gb364 ≠ gb382))
               have INB364_382 : Nonempty _ := ⟨NB364_382.out⟩
               have NB382_364 := Aside0.mk ((neG hg (lK BK364.out) : gb382 ≠ gb364))
               have INB382_364 : Nonempty _ := ⟨NB382_364.out⟩
               replace BK364 := Aside0.mk (bb BK364.out hb)
               have NB365_382 := Aside0.mk ((neL hg (lK BK365.out) : gb365 ≠ gb382))
               have INB365_382 : Nonempty _ := ⟨NB365_382.out⟩
               have NB382_365 := Aside0.mk ((neG hg (lK BK365.out) : gb382 ≠ gb365))
               have INB382_365 : Nonempty _ := ⟨NB382_365.out⟩
               replace BK365 := Aside0.mk (bb BK365.out hb)
               clear hb hbox hg
               refine hK.out _ _ ⟨(blk_cell BK364.out 0).trans rfl, (blk_cell BK364.out 1).trans rfl, (blk_cell BK364.out 2).trans rfl⟩ (fun hHeld => ?_)
               clear hK K
               refine norm_ (a' := ?_) ?_ ?_
               rotate_left
               ·show Act.put _ (some 5) _ = _
                simp only [Act.put, sA, s0, sS, i64_w, i32_w]
                rfl
               exact norm_ (by first | (simp only [putAll, Act.put, List.setIfInBounds_toArray, List.set_cons_zero, List.set_cons_succ]; done) | (simp only [putAll, Act.put, List.setIfInBounds_toArray, List.set_cons_zero, List.set_cons_succ]; rfl)) (hJ0_8 (v374, gb382) _ ⟨hHeld, (by exact lR HO375.out), (by exact lK BK364.out), (by exact lK BK365.out), (by exact lK BK382.out), GW382.out, GE382.out, NB364_382.out, NB382_364.out, NB365_382.out, NB382_365.out, (by exact jB HB.out)⟩)
            ·skip
             rintro ⟨v377, gb382⟩ w46 ⟨hS_, h0_, h1_, h2_, h3_, h4_, h5_, h6_, h7_, h8_, h9_, h10_⟩
             have HO378 : Aside0 (Kd.R (Kd.int .i64) 3 w46 w.heap.size (fun _ => True) v377 y376) := ⟨h0_⟩
             replace BK364 : Aside0 (w46.heap[gb364]? = some (.cells #[.slice A0_0 l0_0.length c0_0, .slice A0_1 l0_1.length c0_1, .int .i64 a0_2] 25 (0, 0))) := ⟨h1_⟩
             replace BK365 : Aside0 (w46.heap[gb365]? = some (.cells #[.slice none 0 0, .slice none 0 0, .int .i64 0] 25 (0, 0))) := ⟨h2_⟩
             have BK382 : Aside0 (w46.heap[gb382]? = some (.cells #[.slice none 0 0, .slice none 0 0, .int .i64 0] 25 (0, 0))) := ⟨h3_⟩
             have GW382 : Aside0 (w.heap.size ≤ gb382) := ⟨h4_⟩
             have IGW382 : Nonempty _ := ⟨GW382.out⟩
             have GE382 : Aside0 (w.heap.size ≤ gb382) := ⟨h5_⟩
             have IGE382 : Nonempty _ := ⟨GE382.out⟩
             have NB364_382 : Aside0 (gb364 ≠ gb382) := ⟨h6_⟩
             have INB364_382 : Nonempty _ := ⟨NB364_382.out⟩
             have NB382_364 : Aside0 (gb382 ≠ gb364) := ⟨h7_⟩
             have INB382_364 : Nonempty _ := ⟨NB382_364.out⟩
             have NB365_382 : Aside0 (gb365 ≠ gb382) := ⟨h8_⟩
             have INB365_382 : Nonempty _ := ⟨NB365_382.out⟩
             have NB382_365 : Aside0 (gb382 ≠ gb365) := ⟨h9_⟩
             have INB382_365 : Nonempty _ := ⟨NB382_365.out⟩
             replace HB : Aside0 (Below w.heap.size w w46) := ⟨h10_⟩
             clear h0_ h1_ h2_ h3_ h4_ h5_ h6_ h7_ h8_ h9_ h10_
             have hHeld : w46.cell? ⟨gb364, 0, none⟩ = some (.slice A0_0 l0_0.length c0_0) ∧ w46.cell? ⟨gb364, 1, none⟩ = some (.slice A0_1 l0_1.length c0_1) ∧ w46.cell? ⟨gb364, 2, none⟩ = some (.int .i64 a0_2) := hS_
             refine norm_ (a' := ?_) ?_ ?_
             rotate_left
             ·simp only [putAll, Act.put, List.setIfInBounds_toArray, List.set_cons_zero, List.set_cons_succ]
              rfl
             refine two_ (i := 0) (j := 4) (Ni := some 37) (Nj := some 41) #[true, true, true, true, false, true, true, false, true, false] #[false, true, true, true, true, true, true, false, true, false] rfl rfl rfl rfl (two_of HT_.out (by kernel_rfl)) (by decide) (by decide) (fun K hK => ?_) (fun K hK => ?_)
             ·skip
              refine Kd.R_lit_step (Kd.int .i64) _ 3 ?hg (N := 37) ?hd (xs := ([0, 0, 0] : List Int)) (inner := [.int .i64 0, .int .i64 0, .int .i64 0]) (ok := fun _ => True) (okp := fun _ => True) ?hr ?hp (fun _ hk => hk) trivial (Below.refl _ _) (Nat.le_refl _) (by simp) ?_; (case hd => rfl); (case hg => rfl); (case hr => first | (go_simp; done) | (go_simp; rfl)); (case hp => exact (Reps.one (show Kd.M (Kd.int .i64) _ _ _ 0 [.int .i64 0] from rfl) (Reps.one (show Kd.M (Kd.int .i64) _ _ _ 0 [.int .i64 0] from rfl) (Reps.one (show Kd.M (Kd.int .i64) _ _ _ 0 [.int .i64 0] from rfl) (Reps.none _ _)))))
              intro v374 w47 ho48 hb hg_ hnew_
              clear hg_ hnew_
              (first | rw [← Ny373.out] at ho48 | (simp only [Int.reduceToNat] at ho48; rw [← Ny373.out] at ho48))
              have HO375 := Aside0.mk (Kd.R_lower (Kd.R_new' ho48 (rl HO378.out)) (below_size (by exact jB HB.out)))
              replace HO378 := Aside0.mk (Kd.R_elder' (by exact lR HO378.out) (Kd.R_base ho48) hb)
              replace BK364 := Aside0.mk (bb BK364.out hb)
              replace BK365 := Aside0.mk (bb BK365.out hb)
              replace BK382 := Aside0.mk (bb BK382.out hb)
              replace HB := Aside0.mk (below_step (by exact jB HB.out) hb)
              clear hb ho48
              refine hK.out _ _ ⟨(blk_cell BK364.out 0).trans rfl, (blk_cell BK364.out 1).trans rfl, (blk_cell BK364.out 2).trans rfl⟩ (fun hHeld => ?_)
              clear hK K
              refine norm_ (a' := ?_) ?_ ?_
              rotate_left
              ·show Act.put _ (some 37) _ = _
               simp only [Act.put, sA, s0, sS, i64_w, i32_w]
               rfl
              exact norm_ (by first | (simp only [putAll, Act.put, List.setIfInBounds_toArray, List.set_cons_zero, List.set_cons_succ]; done) | (simp only [putAll, Act.put, List.setIfInBounds_toArray, List.set_cons_zero, List.set_cons_succ]; rfl)) (hJ0_1_8 (v374, v377, gb382) _ ⟨hHeld, (by exact lR <| Kd.R_mono HO375.out (fun _ hk => hk.2)), (by exact lR <| Kd.R_mono HO378.out (fun _ hk => hk.2)), (by exact lK BK364.out), (by exact lK BK365.out), (by exact lK BK382.out), GW382.out, GE382.out, NB364_382.out, NB382_364.out, NB365_382.out, NB382_365.out, (by exact jB HB.out)⟩)
             ·skip
              refine Kd.R_append_rows_step (Kd.int .i64) (w0 := w) w.heap.size (by rfl) (.tmp 38) (.tmp 40) 23 3 (.int .i64 0) 8 rfl Try.underlying23 info3 rfl (by decide) (by omega) v377 y376 l0_1 _ _ _ (fun _ => True) (fun _ => False) rfl rfl ?aO ?aR (fun _ _ h => h) (fun _ h => h.elim) ?aF ?aB ?aS ?aL ?_
              (case aR => exact lC <| (Kd.C_below HR0_1.out HB.out))
              (case aB => exact (by exact jB HB.out))
              (case aF => exact (fun _ _ => trivial))
              (case aO => exact (by exact lR HO378.out))
              (case aS => exact (below_size (by exact jB HB.out)))
              (case aL => have := LMc41.out; omega)
              intro v380 w47 ho hb hg hat
              rw [← Ny379.out] at ho
              replace BK364 := Aside0.mk (blk_grown (g := gb364) (o := .cells #[.slice A0_0 l0_0.length c0_0, .slice A0_1 l0_1.length c0_1, .int .i64 a0_2] 25 (0, 0)) (by exact lK BK364.out) hg (Kd.R_ne HO378.out BK364.out (by decide)))
              replace BK365 := Aside0.mk (blk_grown (g := gb365) (o := .cells #[.slice none 0 0, .slice none 0 0, .int .i64 0] 25 (0, 0)) (by exact lK BK365.out) hg (Kd.R_ne HO378.out BK365.out (by decide)))
              replace BK382 := Aside0.mk (blk_grown (g := gb382) (o := .cells #[.slice none 0 0, .slice none 0 0, .int .i64 0] 25 (0, 0)) (by exact lK BK382.out) hg (Kd.R_ne HO378.out BK382.out (by decide)))
              replace HB := Aside0.mk (hb)
              have HO381 := Aside0.mk (ho)
              clear HO378 ho hb hg hat
              refine hK.out _ _ ⟨(blk_cell BK364.out 0).trans rfl, (blk_cell BK364.out 1).trans rfl, (blk_cell BK364.out 2).trans rfl⟩ (fun hHeld => ?_)
              clear hK K
              refine norm_ (a' := ?_) ?_ ?_
              rotate_left
              ·show Act.put _ (some 41) _ = _
               simp only [Act.put, sA, s0, sS, i64_w, i32_w]
               rfl
              exact norm_ (by first | (simp only [putAll, Act.put, List.setIfInBounds_toArray, List.set_cons_zero, List.set_cons_succ]; done) | (simp only [putAll, Act.put, List.setIfInBounds_toArray, List.set_cons_zero, List.set_cons_succ]; rfl)) (hJ1_4_8 (v377, v380, gb382) _ ⟨hHeld, (by exact lR HO381.out), (by exact lK BK364.out), (by exact lK BK365.out), (by exact lK BK382.out), GW382.out, GE382.out, NB364_382.out, NB382_364.out, NB365_382.out, NB382_365.out, (by exact jB HB.out)⟩)
           ·skip
            rintro ⟨v377, v380⟩ w46 ⟨hS_, h0_, h1_, h2_, h3_⟩
            have HO381 : Aside0 (Kd.R (Kd.int .i64) 3 w46 w.heap.size (fun _ => True) v380 y379) := ⟨h0_⟩
            replace BK364 : Aside0 (w46.heap[gb364]? = some (.cells #[.slice A0_0 l0_0.length c0_0, .slice A0_1 l0_1.length c0_1, .int .i64 a0_2] 25 (0, 0))) := ⟨h1_⟩
            replace BK365 : Aside0 (w46.heap[gb365]? = some (.cells #[.slice none 0 0, .slice none 0 0, .int .i64 0] 25 (0, 0))) := ⟨h2_⟩
            replace HB : Aside0 (Below w.heap.size w w46) := ⟨h3_⟩
            clear h0_ h1_ h2_ h3_
            have hHeld : w46.cell? ⟨gb364, 0, none⟩ = some (.slice A0_0 l0_0.length c0_0) ∧ w46.cell? ⟨gb364, 1, none⟩ = some (.slice A0_1 l0_1.length c0_1) ∧ w46.cell? ⟨gb364, 2, none⟩ = some (.int .i64 a0_2) := hS_
            refine norm_ (a' := ?_) ?_ ?_
            rotate_left
            ·simp only [putAll, Act.put, List.setIfInBounds_toArray, List.set_cons_zero, List.set_cons_succ]
             rfl
            refine two_ (i := 0) (j := 8) (Ni := some 37) (Nj := some 5) #[true, true, true, true, true, true, true, false, false, false] #[false, true, true, true, true, true, true, false, true, false] rfl rfl rfl rfl (two_of HT_.out (by kernel_rfl)) (by decide) (by decide) (fun K hK => ?_) (fun K hK => ?_)
            ·skip
             refine Kd.R_lit_step (Kd.int .i64) _ 3 ?hg (N := 37) ?hd (xs := ([0, 0, 0] : List Int)) (inner := [.int .i64 0, .int .i64 0, .int .i64 0]) (ok := fun _ => True) (okp := fun _ => True) ?hr ?hp (fun _ hk => hk) trivial (Below.refl _ _) (Nat.le_refl _) (by simp) ?_; (case hd => rfl); (case hg => rfl); (case hr => first | (go_simp; done) | (go_simp; rfl)); (case hp => exact (Reps.one (show Kd.M (Kd.int .i64) _ _ _ 0 [.int .i64 0] from rfl) (Reps.one (show Kd.M (Kd.int .i64) _ _ _ 0 [.int .i64 0] from rfl) (Reps.one (show Kd.M (Kd.int .i64) _ _ _ 0 [.int .i64 0] from rfl) (Reps.none _ _)))))
             intro v374 w47 ho48 hb hg_ hnew_
             clear hg_ hnew_
             (first | rw [← Ny373.out] at ho48 | (simp only [Int.reduceToNat] at ho48; rw [← Ny373.out] at ho48))
             have HO375 := Aside0.mk (Kd.R_lower (Kd.R_new' ho48 (rl HO381.out)) (below_size (by exact jB HB.out)))
             replace HO381 := Aside0.mk (Kd.R_elder' (by exact lR HO381.out) (Kd.R_base ho48) hb)
             replace BK364 := Aside0.mk (bb BK364.out hb)
             replace BK365 := Aside0.mk (bb BK365.out hb)
             replace HB := Aside0.mk (below_step (by exact jB HB.out) hb)
             clear hb ho48
             obtain ⟨Ao49, co49, eo49⟩ := Kd.R_slice HO381.out
             (first | subst eo49 | (injection eo49 with f1_ f2_ f3_; have f4_ := f1_.symm; have f5_ := f3_.symm; clear f1_ f2_ f3_; subst f4_; subst f5_))
             obtain ⟨Ao50, co50, eo50⟩ := Kd.R_slice HO375.out
             (first | subst eo50 | (injection eo50 with f1_ f2_ f3_; have f4_ := f1_.symm; have f5_ := f3_.symm; clear f1_ f2_ f3_; subst f4_; subst f5_))
             refine hK.out _ _ ⟨(blk_cell BK364.out 0).trans rfl, (blk_cell BK364.out 1).trans rfl, (blk_cell BK364.out 2).trans rfl⟩ (fun hHeld => ?_)
             clear hK K
             refine norm_ (a' := ?_) ?_ ?_
             rotate_left
             ·show Act.put _ (some 37) _ = _
              simp only [Act.put, sA, s0, sS, i64_w, i32_w]
              rfl
             refine pure_ (i := 7) (N := some 44) (v := ?_) (a' := ?_) #[true, true, true, true, true, true, true, true, false, false] rfl rfl (any_of HT_.out (by kernel_rfl)) (fun _ _ _ h => h) (Or.inl ⟨by rfl, ?_⟩) ?_ ?_
             rotate_left
             ·intro w'
              go_simp
              with_reducible rfl
             rotate_left
             ·simp only [Act.put, sA, s0, sS, i64_w, i32_w]
              rfl
             exact norm_ (by first | (simp only [putAll, Act.put, List.setIfInBounds_toArray, List.set_cons_zero, List.set_cons_succ]; done) | (simp only [putAll, Act.put, List.setIfInBounds_toArray, List.set_cons_zero, List.set_cons_succ]; rfl)) (hJ0_1_4 (.slice Ao50 y373.length co50, v377, .slice Ao49 y379.length co49) _ ⟨hHeld, (by exact lR <| Kd.R_mono HO375.out (fun _ hk => hk.2)), (by exact lR <| Kd.R_mono HO381.out (fun _ hk => hk.2)), (by exact lK BK364.out), (by exact lK BK365.out), (by exact jB HB.out)⟩)
            ·skip
             refine box_step ?hg (N := 5) ?hd (cs := #[.slice none 0 0, .slice none 0 0, .int .i64 0]) (t := 25) ?hr ?_; (case hd => rfl); (case hg => rfl); (case hr => first | (go_simp; done) | (go_simp; rfl))
             intro gb382 hg w47 hbox hb
             replace HO381 := Aside0.mk (rb HO381.out hb)
             have BK382 := Aside0.mk (hbox)
             have GW382 := Aside0.mk ((by rw [hg]; exact (below_size (by exact jB HB.out)) : w.heap.size ≤ gb382))
             have IGW382 : Nonempty _ := ⟨GW382.out⟩
             have GE382 := Aside0.mk ((by rw [hg]; exact (below_size (by exact jB HB.out)) : w.heap.size ≤ gb382))
             have IGE382 : Nonempty _ := ⟨GE382.out⟩
             replace HB := Aside0.mk (below_step (by exact jB HB.out) hb)
             have NB364_382 := Aside0.mk ((neL hg (lK BK364.out) : gb364 ≠ gb382))
             have INB364_382 : Nonempty _ := ⟨NB364_382.out⟩
             have NB382_364 := Aside0.mk ((neG hg (lK BK364.out) : gb382 ≠ gb364))
             have INB382_364 : Nonempty _ := ⟨NB382_364.out⟩
             replace BK364 := Aside0.mk (bb BK364.out hb)
             have NB365_382 := Aside0.mk ((neL hg (lK BK365.out) : gb365 ≠ gb382))
             have INB365_382 : Nonempty _ := ⟨NB365_382.out⟩
             have NB382_365 := Aside0.mk ((neG hg (lK BK365.out) : gb382 ≠ gb365))
             have INB382_365 : Nonempty _ := ⟨NB382_365.out⟩
             replace BK365 := Aside0.mk (bb BK365.out hb)
             clear hb hbox hg
             refine hK.out _ _ ⟨(blk_cell BK364.out 0).trans rfl, (blk_cell BK364.out 1).trans rfl, (blk_cell BK364.out 2).trans rfl⟩ (fun hHeld => ?_)
             clear hK K
             refine norm_ (a' := ?_) ?_ ?_
             rotate_left
             ·show Act.put _ (some 5) _ = _
              simp only [Act.put, sA, s0, sS, i64_w, i32_w]
              rfl
             exact norm_ (by first | (simp only [putAll, Act.put, List.setIfInBounds_toArray, List.set_cons_zero, List.set_cons_succ]; done) | (simp only [putAll, Act.put, List.setIfInBounds_toArray, List.set_cons_zero, List.set_cons_succ]; rfl)) (hJ1_4_8 (v377, v380, gb382) _ ⟨hHeld, (by exact lR HO381.out), (by exact lK BK364.out), (by exact lK BK365.out), (by exact lK BK382.out), GW382.out, GE382.out, NB364_382.out, NB382_364.out, NB365_382.out, NB382_365.out, (by exact jB HB.out)⟩)
          ·skip
           rintro ⟨v374, gb382⟩ w46 ⟨hS_, h0_, h1_, h2_, h3_, h4_, h5_, h6_, h7_, h8_, h9_, h10_⟩
           have HO375 : Aside0 (Kd.R (Kd.int .i64) 3 w46 w.heap.size (fun _ => True) v374 y373) := ⟨h0_⟩
           replace BK364 : Aside0 (w46.heap[gb364]? = some (.cells #[.slice A0_0 l0_0.length c0_0, .slice A0_1 l0_1.length c0_1, .int .i64 a0_2] 25 (0, 0))) := ⟨h1_⟩
           replace BK365 : Aside0 (w46.heap[gb365]? = some (.cells #[.slice none 0 0, .slice none 0 0, .int .i64 0] 25 (0, 0))) := ⟨h2_⟩
           have BK382 : Aside0 (w46.heap[gb382]? = some (.cells #[.slice none 0 0, .slice none 0 0, .int .i64 0] 25 (0, 0))) := ⟨h3_⟩
           have GW382 : Aside0 (w.heap.size ≤ gb382) := ⟨h4_⟩
           have IGW382 : Nonempty _ := ⟨GW382.out⟩
           have GE382 : Aside0 (w.heap.size ≤ gb382) := ⟨h5_⟩
           have IGE382 : Nonempty _ := ⟨GE382.out⟩
           have NB364_382 : Aside0 (gb364 ≠ gb382) := ⟨h6_⟩
           have INB364_382 : Nonempty _ := ⟨NB364_382.out⟩
           have NB382_364 : Aside0 (gb382 ≠ gb364) := ⟨h7_⟩
           have INB382_364 : Nonempty _ := ⟨NB382_364.out⟩
           have NB365_382 : Aside0 (gb365 ≠ gb382) := ⟨h8_⟩
           have INB365_382 : Nonempty _ := ⟨NB365_382.out⟩
           have NB382_365 : Aside0 (gb382 ≠ gb365) := ⟨h9_⟩
           have INB382_365 : Nonempty _ := ⟨NB382_365.out⟩
           replace HB : Aside0 (Below w.heap.size w w46) := ⟨h10_⟩
           clear h0_ h1_ h2_ h3_ h4_ h5_ h6_ h7_ h8_ h9_ h10_
           have hHeld : w46.cell? ⟨gb364, 0, none⟩ = some (.slice A0_0 l0_0.length c0_0) ∧ w46.cell? ⟨gb364, 1, none⟩ = some (.slice A0_1 l0_1.length c0_1) ∧ w46.cell? ⟨gb364, 2, none⟩ = some (.int .i64 a0_2) := hS_
           refine norm_ (a' := ?_) ?_ ?_
           rotate_left
           ·simp only [putAll, Act.put, List.setIfInBounds_toArray, List.set_cons_zero, List.set_cons_succ]
            rfl
           refine one_ (i := 1) (N := some 38) #[true, true, true, true, false, true, true, false, true, false] rfl rfl (one_of HT_.out (by kernel_rfl)) (by decide) (fun K hK => ?_)
           refine Kd.R_lit_step (Kd.int .i64) _ 3 ?hg (N := 38) ?hd (xs := ([] : List Int)) (inner := []) (ok := fun _ => True) (okp := fun _ => True) ?hr ?hp (fun _ hk => hk) trivial (Below.refl _ _) (Nat.le_refl _) (by simp) ?_; (case hd => rfl); (case hg => rfl); (case hr => first | (go_simp; done) | (go_simp; rfl)); (case hp => exact (Reps.none _ _))
           intro v377 w47 ho48 hb hg_ hnew_
           clear hg_ hnew_
           (first | rw [← Ny376.out] at ho48 | (simp only [Int.reduceToNat] at ho48; rw [← Ny376.out] at ho48))
           have HO378 := Aside0.mk (Kd.R_lower (Kd.R_new' ho48 (rl HO375.out)) (below_size (by exact jB HB.out)))
           replace HO375 := Aside0.mk (Kd.R_elder' (by exact lR HO375.out) (Kd.R_base ho48) hb)
           replace BK364 := Aside0.mk (bb BK364.out hb)
           replace BK365 := Aside0.mk (bb BK365.out hb)
           replace BK382 := Aside0.mk (bb BK382.out hb)
           replace HB := Aside0.mk (below_step (by exact jB HB.out) hb)
           clear hb ho48
           refine hK.out _ _ ⟨(blk_cell BK364.out 0).trans rfl, (blk_cell BK364.out 1).trans rfl, (blk_cell BK364.out 2).trans rfl⟩ (fun hHeld => ?_)
           clear hK K
           refine norm_ (a' := ?_) ?_ ?_
           rotate_left
           ·show Act.put _ (some 38) _ = _
            simp only [Act.put, sA, s0, sS, i64_w, i32_w]
            rfl
           exact norm_ (by first | (simp only [putAll, Act.put, List.setIfInBounds_toArray, List.set_cons_zero, List.set_cons_succ]; done) | (simp only [putAll, Act.put, List.setIfInBounds_toArray, List.set_cons_zero, List.set_cons_succ]; rfl)) (hJ0_1_8 (v374, v377, gb382) _ ⟨hHeld, (by exact lR <| Kd.R_mono HO375.out (fun _ hk => hk.2)), (by exact lR <| Kd.R_mono HO378.out (fun _ hk => hk.2)), (by exact lK BK364.out), (by exact lK BK365.out), (by exact lK BK382.out), GW382.out, GE382.out, NB364_382.out, NB382_364.out, NB365_382.out, NB382_365.out, (by exact jB HB.out)⟩)
         ·skip
          rintro ⟨v374, v377⟩ w47 ⟨hS_, h0_, h1_, h2_, h3_, h4_⟩
          have HO375 : Aside0 (Kd.R (Kd.int .i64) 3 w47 w.heap.size (fun k_ => some k_ ≠ (v377 : Value).ownBlock) v374 y373) := ⟨h0_⟩
          have HO378 : Aside0 (Kd.R (Kd.int .i64) 3 w47 w.heap.size (fun k_ => some k_ ≠ (v374 : Value).ownBlock) v377 y376) := ⟨h1_⟩
          replace BK364 : Aside0 (w47.heap[gb364]? = some (.cells #[.slice A0_0 l0_0.length c0_0, .slice A0_1 l0_1.length c0_1, .int .i64 a0_2] 25 (0, 0))) := ⟨h2_⟩
          replace BK365 : Aside0 (w47.heap[gb365]? = some (.cells #[.slice none 0 0, .slice none 0 0, .int .i64 0] 25 (0, 0))) := ⟨h3_⟩
          replace HB : Aside0 (Below w.heap.size w w47) := ⟨h4_⟩
          clear h0_ h1_ h2_ h3_ h4_
          have hHeld : w47.cell? ⟨gb364, 0, none⟩ = some (.slice A0_0 l0_0.length c0_0) ∧ w47.cell? ⟨gb364, 1, none⟩ = some (.slice A0_1 l0_1.length c0_1) ∧ w47.cell? ⟨gb364, 2, none⟩ = some (.int .i64 a0_2) := hS_
          refine norm_ (a' := ?_) ?_ ?_
          rotate_left
          ·simp only [putAll, Act.put, List.setIfInBounds_toArray, List.set_cons_zero, List.set_cons_succ]
           rfl
          refine two_ (i := 4) (j := 8) (Ni := some 41) (Nj := some 5) #[true, true, true, true, true, true, true, false, false, false] #[true, true, true, true, false, true, true, false, true, false] rfl rfl rfl rfl (two_of HT_.out (by kernel_rfl)) (by decide) (by decide) (fun K hK => ?_) (fun K hK => ?_)
          ·skip
           refine Kd.R_append_rows_step (Kd.int .i64) (w0 := w) w.heap.size (by rfl) (.tmp 38) (.tmp 40) 23 3 (.int .i64 0) 8 rfl Try.underlying23 info3 rfl (by decide) (by omega) v377 y376 l0_1 _ _ _ (fun k_ => some k_ ≠ (v374 : Value).ownBlock) (fun _ => False) rfl rfl ?aO ?aR (fun _ _ h => h) (fun _ h => h.elim) ?aF ?aB ?aS ?aL ?_
           (case aR => exact lC <| (Kd.C_below HR0_1.out HB.out))
           (case aB => exact (by exact jB HB.out))
           (case aF => exact (fun k_ hk => Kd.fresh' (rl HO375.out) k_ hk))
           (case aO => exact (by exact lR HO378.out))
           (case aS => exact (below_size (by exact jB HB.out)))
           (case aL => have := LMc41.out; omega)
           intro v380 w48 ho hb hg hat
           rw [← Ny379.out] at ho
           replace BK364 := Aside0.mk (blk_grown (g := gb364) (o := .cells #[.slice A0_0 l0_0.length c0_0, .slice A0_1 l0_1.length c0_1, .int .i64 a0_2] 25 (0, 0)) (by exact lK BK364.out) hg (Kd.R_ne HO378.out BK364.out (by decide)))
           replace BK365 := Aside0.mk (blk_grown (g := gb365) (o := .cells #[.slice none 0 0, .slice none 0 0, .int .i64 0] 25 (0, 0)) (by exact lK BK365.out) hg (Kd.R_ne HO378.out BK365.out (by decide)))
           replace HO375 := Aside0.mk (Kd.R_after (ok := (fun _ => True)) (by exact lR <| Kd.R_mono HO375.out (fun _ hk => ⟨trivial, hk⟩)) hg hat)
           replace HB := Aside0.mk (hb)
           have HO381 := Aside0.mk (ho)
           clear HO378 ho hb hg hat
           obtain ⟨Ao49, co49, eo49⟩ := Kd.R_slice HO381.out
           (first | subst eo49 | (injection eo49 with f1_ f2_ f3_; have f4_ := f1_.symm; have f5_ := f3_.symm; clear f1_ f2_ f3_; subst f4_; subst f5_))
           obtain ⟨Ao50, co50, eo50⟩ := Kd.R_slice HO375.out
           (first | subst eo50 | (injection eo50 with f1_ f2_ f3_; have f4_ := f1_.symm; have f5_ := f3_.symm; clear f1_ f2_ f3_; subst f4_; subst f5_))
           refine hK.out _ _ ⟨(blk_cell BK364.out 0).trans rfl, (blk_cell BK364.out 1).trans rfl, (blk_cell BK364.out 2).trans rfl⟩ (fun hHeld => ?_)
           clear hK K
           refine norm_ (a' := ?_) ?_ ?_
           rotate_left
           ·show Act.put _ (some 41) _ = _
            simp only [Act.put, sA, s0, sS, i64_w, i32_w]
            rfl
           refine pure_ (i := 7) (N := some 44) (v := ?_) (a' := ?_) #[true, true, true, true, true, true, true, true, false, false] rfl rfl (any_of HT_.out (by kernel_rfl)) (fun _ _ _ h => h) (Or.inl ⟨by rfl, ?_⟩) ?_ ?_
           rotate_left
           ·intro w'
            go_simp
            with_reducible rfl
           rotate_left
           ·simp only [Act.put, sA, s0, sS, i64_w, i32_w]
            rfl
           exact norm_ (by first | (simp only [putAll, Act.put, List.setIfInBounds_toArray, List.set_cons_zero, List.set_cons_succ]; done) | (simp only [putAll, Act.put, List.setIfInBounds_toArray, List.set_cons_zero, List.set_cons_succ]; rfl)) (hJ0_1_4 (.slice Ao50 y373.length co50, v377, .slice Ao49 y379.length co49) _ ⟨hHeld, (by exact lR <| Kd.R_mono HO375.out (fun _ hk => hk.2)), (by exact lR HO381.out), (by exact lK BK364.out), (by exact lK BK365.out), (by exact jB HB.out)⟩)
          ·skip
           refine box_step ?hg (N := 5) ?hd (cs := #[.slice none 0 0, .slice none 0 0, .int .i64 0]) (t := 25) ?hr ?_; (case hd => rfl); (case hg => rfl); (case hr => first | (go_simp; done) | (go_simp; rfl))
           intro gb382 hg w48 hbox hb
           replace HO375 := Aside0.mk (rb HO375.out hb)
           replace HO378 := Aside0.mk (rb HO378.out hb)
           have BK382 := Aside0.mk (hbox)
           have GW382 := Aside0.mk ((by rw [hg]; exact (below_size (by exact jB HB.out)) : w.heap.size ≤ gb382))
           have IGW382 : Nonempty _ := ⟨GW382.out⟩
           have GE382 := Aside0.mk ((by rw [hg]; exact (below_size (by exact jB HB.out)) : w.heap.size ≤ gb382))
           have IGE382 : Nonempty _ := ⟨GE382.out⟩
           replace HB := Aside0.mk (below_step (by exact jB HB.out) hb)
           have NB364_382 := Aside0.mk ((neL hg (lK BK364.out) : gb364 ≠ gb382))
           have INB364_382 : Nonempty _ := ⟨NB364_382.out⟩
           have NB382_364 := Aside0.mk ((neG hg (lK BK364.out) : gb382 ≠ gb364))
           have INB382_364 : Nonempty _ := ⟨NB382_364.out⟩
           replace BK364 := Aside0.mk (bb BK364.out hb)
           have NB365_382 := Aside0.mk ((neL hg (lK BK365.out) : gb365 ≠ gb382))
           have INB365_382 : Nonempty _ := ⟨NB365_382.out⟩
           have NB382_365 := Aside0.mk ((neG hg (lK BK365.out) : gb382 ≠ gb365))
           have INB382_365 : Nonempty _ := ⟨NB382_365.out⟩
           replace BK365 := Aside0.mk (bb BK365.out hb)
           clear hb hbox hg
           refine hK.out _ _ ⟨(blk_cell BK364.out 0).trans rfl, (blk_cell BK364.out 1).trans rfl, (blk_cell BK364.out 2).trans rfl⟩ (fun hHeld => ?_)
           clear hK K
           refine norm_ (a' := ?_) ?_ ?_
           rotate_left
           ·show Act.put _ (some 5) _ = _
            simp only [Act.put, sA, s0, sS, i64_w, i32_w]
            rfl
           exact norm_ (by first | (simp only [putAll, Act.put, List.setIfInBounds_toArray, List.set_cons_zero, List.set_cons_succ]; done) | (simp only [putAll, Act.put, List.setIfInBounds_toArray, List.set_cons_zero, List.set_cons_succ]; rfl)) (hJ0_1_8 (v374, v377, gb382) _ ⟨hHeld, (by exact lR HO375.out), (by exact lR HO378.out), (by exact lK BK364.out), (by exact lK BK365.out), (by exact lK BK382.out), GW382.out, GE382.out, NB364_382.out, NB382_364.out, NB365_382.out, NB382_365.out, (by exact jB HB.out)⟩)
        ·skip
         rintro ⟨v377, v380, gb382⟩ w47 ⟨hS_, h0_, h1_, h2_, h3_, h4_, h5_, h6_, h7_, h8_, h9_, h10_⟩
         have HO381 : Aside0 (Kd.R (Kd.int .i64) 3 w47 w.heap.size (fun _ => True) v380 y379) := ⟨h0_⟩
         replace BK364 : Aside0 (w47.heap[gb364]? = some (.cells #[.slice A0_0 l0_0.length c0_0, .slice A0_1 l0_1.length c0_1, .int .i64 a0_2] 25 (0, 0))) := ⟨h1_⟩
         replace BK365 : Aside0 (w47.heap[gb365]? = some (.cells #[.slice none 0 0, .slice none 0 0, .int .i64 0] 25 (0, 0))) := ⟨h2_⟩
         have BK382 : Aside0 (w47.heap[gb382]? = some (.cells #[.slice none 0 0, .slice none 0 0, .int .i64 0] 25 (0, 0))) := ⟨h3_⟩
         have GW382 : Aside0 (w.heap.size ≤ gb382) := ⟨h4_⟩
         have IGW382 : Nonempty _ := ⟨GW382.out⟩
         have GE382 : Aside0 (w.heap.size ≤ gb382) := ⟨h5_⟩
         have IGE382 : Nonempty _ := ⟨GE382.out⟩
         have NB364_382 : Aside0 (gb364 ≠ gb382) := ⟨h6_⟩
         have INB364_382 : Nonempty _ := ⟨NB364_382.out⟩
         have NB382_364 : Aside0 (gb382 ≠ gb364) := ⟨h7_⟩
         have INB382_364 : Nonempty _ := ⟨NB382_364.out⟩
         have NB365_382 : Aside0 (gb365 ≠ gb382) := ⟨h8_⟩
         have INB365_382 : Nonempty _ := ⟨NB365_382.out⟩
         have NB382_365 : Aside0 (gb382 ≠ gb365) := ⟨h9_⟩
         have INB382_365 : Nonempty _ := ⟨NB382_365.out⟩
         replace HB : Aside0 (Below w.heap.size w w47) := ⟨h10_⟩
         clear h0_ h1_ h2_ h3_ h4_ h5_ h6_ h7_ h8_ h9_ h10_
         have hHeld : w47.cell? ⟨gb364, 0, none⟩ = some (.slice A0_0 l0_0.length c0_0) ∧ w47.cell? ⟨gb364, 1, none⟩ = some (.slice A0_1 l0_1.length c0_1) ∧ w47.cell? ⟨gb364, 2, none⟩ = some (.int .i64 a0_2) := hS_
         refine norm_ (a' := ?_) ?_ ?_
         rotate_left
         ·simp only [putAll, Act.put, List.setIfInBounds_toArray, List.set_cons_zero, List.set_cons_succ]
          rfl
         refine one_ (i := 0) (N := some 37) #[true, true, true, true, true, true, true, false, true, false] rfl rfl (one_of HT_.out (by kernel_rfl)) (by decide) (fun K hK => ?_)
         refine Kd.R_lit_step (Kd.int .i64) _ 3 ?hg (N := 37) ?hd (xs := ([0, 0, 0] : List Int)) (inner := [.int .i64 0, .int .i64 0, .int .i64 0]) (ok := fun _ => True) (okp := fun _ => True) ?hr ?hp (fun _ hk => hk) trivial (Below.refl _ _) (Nat.le_refl _) (by simp) ?_; (case hd => rfl); (case hg => rfl); (case hr => first | (go_simp; done) | (go_simp; rfl)); (case hp => exact (Reps.one (show Kd.M (Kd.int .i64) _ _ _ 0 [.int .i64 0] from rfl) (Reps.one (show Kd.M (Kd.int .i64) _ _ _ 0 [.int .i64 0] from rfl) (Reps.one (show Kd.M (Kd.int .i64) _ _ _ 0 [.int .i64 0] from rfl) (Reps.none _ _)))))
         intro v374 w48 ho49 hb hg_ hnew_
         clear hg_ hnew_
         (first | rw [← Ny373.out] at ho49 | (simp only [Int.reduceToNat] at ho49; rw [← Ny373.out] at ho49))
         have HO375 := Aside0.mk (Kd.R_lower (Kd.R_new' ho49 (rl HO381.out)) (below_size (by exact jB HB.out)))
         replace HO381 := Aside0.mk (Kd.R_elder' (by exact lR HO381.out) (Kd.R_base ho49) hb)
         replace BK364 := Aside0.mk (bb BK364.out hb)
         replace BK365 := Aside0.mk (bb BK365.out hb)
         replace BK382 := Aside0.mk (bb BK382.out hb)
         replace HB := Aside0.mk (below_step (by exact jB HB.out) hb)
         clear hb ho49
         obtain ⟨Ao50, co50, eo50⟩ := Kd.R_slice HO381.out
         (first | subst eo50 | (injection eo50 with f1_ f2_ f3_; have f4_ := f1_.symm; have f5_ := f3_.symm; clear f1_ f2_ f3_; subst f4_; subst f5_))
         obtain ⟨Ao51, co51, eo51⟩ := Kd.R_slice HO375.out
         (first | subst eo51 | (injection eo51 with f1_ f2_ f3_; have f4_ := f1_.symm; have f5_ := f3_.symm; clear f1_ f2_ f3_; subst f4_; subst f5_))
         refine hK.out _ _ ⟨(blk_cell BK364.out 0).trans rfl, (blk_cell BK364.out 1).trans rfl, (blk_cell BK364.out 2).trans rfl⟩ (fun hHeld => ?_)
         clear hK K
         refine norm_ (a' := ?_) ?_ ?_
         rotate_left
         ·show Act.put _ (some 37) _ = _
          simp only [Act.put, sA, s0, sS, i64_w, i32_w]
          rfl
         refine pure_ (i := 7) (N := some 44) (v := ?_) (a' := ?_) #[true, true, true, true, true, true, true, true, true, false] rfl rfl (any_of HT_.out (by kernel_rfl)) (fun _ _ _ h => h) (Or.inl ⟨by rfl, ?_⟩) ?_ ?_
         rotate_left
         ·intro w'
          go_simp
          with_reducible rfl
         rotate_left
         ·simp only [Act.put, sA, s0, sS, i64_w, i32_w]
          rfl
         exact norm_ (by first | (simp only [putAll, Act.put, List.setIfInBounds_toArray, List.set_cons_zero, List.set_cons_succ]; done) | (simp only [putAll, Act.put, List.setIfInBounds_toArray, List.set_cons_zero, List.set_cons_succ]; rfl)) (hJ0_1_4_8 (.slice Ao51 y373.length co51, v377, .slice Ao50 y379.length co50, gb382) _ ⟨hHeld, (by exact lR <| Kd.R_mono HO375.out (fun _ hk => hk.2)), (by exact lR <| Kd.R_mono HO381.out (fun _ hk => hk.2)), (by exact lK BK364.out), (by exact lK BK365.out), (by exact lK BK382.out), GW382.out, GE382.out, NB364_382.out, NB382_364.out, NB365_382.out, NB382_365.out, (by exact jB HB.out)⟩)
       ·skip
        rintro ⟨v374, v377, gb382⟩ w48 ⟨hS_, h0_, h1_, h2_, h3_, h4_, h5_, h6_, h7_, h8_, h9_, h10_, h11_⟩
        have HO375 : Aside0 (Kd.R (Kd.int .i64) 3 w48 w.heap.size (fun k_ => some k_ ≠ (v377 : Value).ownBlock) v374 y373) := ⟨h0_⟩
        have HO378 : Aside0 (Kd.R (Kd.int .i64) 3 w48 w.heap.size (fun k_ => some k_ ≠ (v374 : Value).ownBlock) v377 y376) := ⟨h1_⟩
        replace BK364 : Aside0 (w48.heap[gb364]? = some (.cells #[.slice A0_0 l0_0.length c0_0, .slice A0_1 l0_1.length c0_1, .int .i64 a0_2] 25 (0, 0))) := ⟨h2_⟩
        replace BK365 : Aside0 (w48.heap[gb365]? = some (.cells #[.slice none 0 0, .slice none 0 0, .int .i64 0] 25 (0, 0))) := ⟨h3_⟩
        have BK382 : Aside0 (w48.heap[gb382]? = some (.cells #[.slice none 0 0, .slice none 0 0, .int .i64 0] 25 (0, 0))) := ⟨h4_⟩
        have GW382 : Aside0 (w.heap.size ≤ gb382) := ⟨h5_⟩
        have IGW382 : Nonempty _ := ⟨GW382.out⟩
        have GE382 : Aside0 (w.heap.size ≤ gb382) := ⟨h6_⟩
        have IGE382 : Nonempty _ := ⟨GE382.out⟩
        have NB364_382 : Aside0 (gb364 ≠ gb382) := ⟨h7_⟩
        have INB364_382 : Nonempty _ := ⟨NB364_382.out⟩
        have NB382_364 : Aside0 (gb382 ≠ gb364) := ⟨h8_⟩
        have INB382_364 : Nonempty _ := ⟨NB382_364.out⟩
        have NB365_382 : Aside0 (gb365 ≠ gb382) := ⟨h9_⟩
        have INB365_382 : Nonempty _ := ⟨NB365_382.out⟩
        have NB382_365 : Aside0 (gb382 ≠ gb365) := ⟨h10_⟩
        have INB382_365 : Nonempty _ := ⟨NB382_365.out⟩
        replace HB : Aside0 (Below w.heap.size w w48) := ⟨h11_⟩
        clear h0_ h1_ h2_ h3_ h4_ h5_ h6_ h7_ h8_ h9_ h10_ h11_
        have hHeld : w48.cell? ⟨gb364, 0, none⟩ = some (.slice A0_0 l0_0.length c0_0) ∧ w48.cell? ⟨gb364, 1, none⟩ = some (.slice A0_1 l0_1.length c0_1) ∧ w48.cell? ⟨gb364, 2, none⟩ = some (.int .i64 a0_2) := hS_
        refine norm_ (a' := ?_) ?_ ?_
        rotate_left
        ·simp only [putAll, Act.put, List.setIfInBounds_toArray, List.set_cons_zero, List.set_cons_succ]
         rfl
        refine one_ (i := 4) (N := some 41) #[true, true, true, true, true, true, true, false, true, false] rfl rfl (one_of HT_.out (by kernel_rfl)) (by decide) (fun K hK => ?_)
        refine Kd.R_append_rows_step (Kd.int .i64) (w0 := w) w.heap.size (by rfl) (.tmp 38) (.tmp 40) 23 3 (.int .i64 0) 8 rfl Try.underlying23 info3 rfl (by decide) (by omega) v377 y376 l0_1 _ _ _ (fun k_ => some k_ ≠ (v374 : Value).ownBlock) (fun _ => False) rfl rfl ?aO ?aR (fun _ _ h => h) (fun _ h => h.elim) ?aF ?aB ?aS ?aL ?_
        (case aR => exact lC <| (Kd.C_below HR0_1.out HB.out))
        (case aB => exact (by exact jB HB.out))
        (case aF => exact (fun k_ hk => Kd.fresh' (rl HO375.out) k_ hk))
        (case aO => exact (by exact lR HO378.out))
        (case aS => exact (below_size (by exact jB HB.out)))
        (case aL => have := LMc41.out; omega)
        intro v380 w49 ho hb hg hat
        rw [← Ny379.out] at ho
        replace BK364 := Aside0.mk (blk_grown (g := gb364) (o := .cells #[.slice A0_0 l0_0.length c0_0, .slice A0_1 l0_1.length c0_1, .int .i64 a0_2] 25 (0, 0)) (by exact lK BK364.out) hg (Kd.R_ne HO378.out BK364.out (by decide)))
        replace BK365 := Aside0.mk (blk_grown (g := gb365) (o := .cells #[.slice none 0 0, .slice none 0 0, .int .i64 0] 25 (0, 0)) (by exact lK BK365.out) hg (Kd.R_ne HO378.out BK365.out (by decide)))
        replace HO375 := Aside0.mk (Kd.R_after (ok := (fun _ => True)) (by exact lR <| Kd.R_mono HO375.out (fun _ hk => ⟨trivial, hk⟩)) hg hat)
        replace BK382 := Aside0.mk (blk_grown (g := gb382) (o := .cells #[.slice none 0 0, .slice none 0 0, .int .i64 0] 25 (0, 0)) (by exact lK BK382.out) hg (Kd.R_ne HO378.out BK382.out (by decide)))
        replace HB := Aside0.mk (hb)
        have HO381 := Aside0.mk (ho)
        clear HO378 ho hb hg hat
        obtain ⟨Ao50, co50, eo50⟩ := Kd.R_slice HO381.out
        (first | subst eo50 | (injection eo50 with f1_ f2_ f3_; have f4_ := f1_.symm; have f5_ := f3_.symm; clear f1_ f2_ f3_; subst f4_; subst f5_))
        obtain ⟨Ao51, co51, eo51⟩ := Kd.R_slice HO375.out
        (first | subst eo51 | (injection eo51 with f1_ f2_ f3_; have f4_ := f1_.symm; have f5_ := f3_.symm; clear f1_ f2_ f3_; subst f4_; subst f5_))
        refine hK.out _ _ ⟨(blk_cell BK364.out 0).trans rfl, (blk_cell BK364.out 1).trans rfl, (blk_cell BK364.out 2).trans rfl⟩ (fun hHeld => ?_)
        clear hK K
        refine norm_ (a' := ?_) ?_ ?_
        rotate_left
        ·show Act.put _ (some 41) _ = _
         simp only [Act.put, sA, s0, sS, i64_w, i32_w]
         rfl
        refine pure_ (i := 7) (N := some 44) (v := ?_) (a' := ?_) #[true, true, true, true, true, true, true, true, true, false] rfl rfl (any_of HT_.out (by kernel_rfl)) (fun _ _ _ h => h) (Or.inl ⟨by rfl, ?_⟩) ?_ ?_
        rotate_left
        ·intro w'
         go_simp
         with_reducible rfl
        rotate_left
        ·simp only [Act.put, sA, s0, sS, i64_w, i32_w]
         rfl
        exact norm_ (by first | (simp only [putAll, Act.put, List.setIfInBounds_toArray, List.set_cons_zero, List.set_cons_succ]; done) | (simp only [putAll, Act.put, List.setIfInBounds_toArray, List.set_cons_zero, List.set_cons_succ]; rfl)) (hJ0_1_4_8 (.slice Ao51 y373.length co51, v377, .slice Ao50 y379.length co50, gb382) _ ⟨hHeld, (by exact lR <| Kd.R_mono HO375.out (fun _ hk => hk.2)), (by exact lR HO381.out), (by exact lK BK364.out), (by exact lK BK365.out), (by exact lK BK382.out), GW382.out, GE382.out, NB364_382.out, NB382_364.out, NB365_382.out, NB382_365.out, (by exact jB HB.out)⟩)
      ·skip
       rintro ⟨v374, v377, v380⟩ w50 ⟨hS_, h0_, h1_, h2_, h3_, h4_⟩
       have HO375 : Aside0 (Kd.R (Kd.int .i64) 3 w50 w.heap.size (fun k_ => some k_ ≠ (v380 : Value).ownBlock) v374 y373) := ⟨h0_⟩
       have HO381 : Aside0 (Kd.R (Kd.int .i64) 3 w50 w.heap.size (fun k_ => some k_ ≠ (v374 : Value).ownBlock) v380 y379) := ⟨h1_⟩
       replace BK364 : Aside0 (w50.heap[gb364]? = some (.cells #[.slice A0_0 l0_0.length c0_0, .slice A0_1 l0_1.length c0_1, .int .i64 a0_2] 25 (0, 0))) := ⟨h2_⟩
       replace BK365 : Aside0 (w50.heap[gb365]? = some (.cells #[.slice none 0 0, .slice none 0 0, .int .i64 0] 25 (0, 0))) := ⟨h3_⟩
       replace HB : Aside0 (Below w.heap.size w w50) := ⟨h4_⟩
       clear h0_ h1_ h2_ h3_ h4_
       have hHeld : w50.cell? ⟨gb364, 0, none⟩ = some (.slice A0_0 l0_0.length c0_0) ∧ w50.cell? ⟨gb364, 1, none⟩ = some (.slice A0_1 l0_1.length c0_1) ∧ w50.cell? ⟨gb364, 2, none⟩ = some (.int .i64 a0_2) := hS_
       obtain ⟨Ao51, co51, eo51⟩ := Kd.R_slice HO381.out
       (first | subst eo51 | (injection eo51 with f1_ f2_ f3_; have f4_ := f1_.symm; have f5_ := f3_.symm; clear f1_ f2_ f3_; subst f4_; subst f5_))
       obtain ⟨Ao52, co52, eo52⟩ := Kd.R_slice HO375.out
       (first | subst eo52 | (injection eo52 with f1_ f2_ f3_; have f4_ := f1_.symm; have f5_ := f3_.symm; clear f1_ f2_ f3_; subst f4_; subst f5_))
       refine norm_ (a' := ?_) ?_ ?_
       rotate_left
       ·simp only [putAll, Act.put, List.setIfInBounds_toArray, List.set_cons_zero, List.set_cons_succ]
        rfl
       refine one_ (i := 8) (N := some 5) #[true, true, true, true, true, true, true, true, true, false] rfl rfl (one_of HT_.out (by kernel_rfl)) (by decide) (fun K hK => ?_)
       refine box_step ?hg (N := 5) ?hd (cs := #[.slice none 0 0, .slice none 0 0, .int .i64 0]) (t := 25) ?hr ?_; (case hd => rfl); (case hg => rfl); (case hr => first | (go_simp; done) | (go_simp; rfl))
       intro gb382 hg w53 hbox hb
       replace HO375 := Aside0.mk (rb HO375.out hb)
       replace HO381 := Aside0.mk (rb HO381.out hb)
       have BK382 := Aside0.mk (hbox)
       have GW382 := Aside0.mk ((by rw [hg]; exact (below_size (by exact jB HB.out)) : w.heap.size ≤ gb382))
       have IGW382 : Nonempty _ := ⟨GW382.out⟩
       have GE382 := Aside0.mk ((by rw [hg]; exact (below_size (by exact jB HB.out)) : w.heap.size ≤ gb382))
       have IGE382 : Nonempty _ := ⟨GE382.out⟩
       replace HB := Aside0.mk (below_step (by exact jB HB.out) hb)
       have NB364_382 := Aside0.mk ((neL hg (lK BK364.out) : gb364 ≠ gb382))
       have INB364_382 : Nonempty _ := ⟨NB364_382.out⟩
       have NB382_364 := Aside0.mk ((neG hg (lK BK364.out) : gb382 ≠ gb364))
       have INB382_364 : Nonempty _ := ⟨NB382_364.out⟩
       replace BK364 := Aside0.mk (bb BK364.out hb)
       have NB365_382 := Aside0.mk ((neL hg (lK BK365.out) : gb365 ≠ gb382))
       have INB365_382 : Nonempty _ := ⟨NB365_382.out⟩
       have NB382_365 := Aside0.mk ((neG hg (lK BK365.out) : gb382 ≠ gb365))
       have INB382_365 : Nonempty _ := ⟨NB382_365.out⟩
       replace BK365 := Aside0.mk (bb BK365.out hb)
       clear hb hbox hg
       refine hK.out _ _ ⟨(blk_cell BK364.out 0).trans rfl, (blk_cell BK364.out 1).trans rfl, (blk_cell BK364.out 2).trans rfl⟩ (fun hHeld => ?_)
       clear hK K
       refine norm_ (a' := ?_) ?_ ?_
       rotate_left
       ·show Act.put _ (some 5) _ = _
        simp only [Act.put, sA, s0, sS, i64_w, i32_w]
        rfl
       exact norm_ (by first | (simp only [putAll, Act.put, List.setIfInBounds_toArray, List.set_cons_zero, List.set_cons_succ]; done) | (simp only [putAll, Act.put, List.setIfInBounds_toArray, List.set_cons_zero, List.set_cons_succ]; rfl)) (hJ0_1_4_8 (.slice Ao52 y373.length co52, v377, .slice Ao51 y379.length co51, gb382) _ ⟨hHeld, (by exact lR HO375.out), (by exact lR HO381.out), (by exact lK BK364.out), (by exact lK BK365.out), (by exact lK BK382.out), GW382.out, GE382.out, NB364_382.out, NB382_364.out, NB365_382.out, NB382_365.out, (by exact jB HB.out)⟩)
     rintro ⟨v374, v377, v380, gb382⟩ w51 ⟨hS_, h0_, h1_, h2_, h3_, h4_, h5_, h6_, h7_, h8_, h9_, h10_, h11_⟩
     have HO375 : Aside0 (Kd.R (Kd.int .i64) 3 w51 w.heap.size (fun k_ => some k_ ≠ (v380 : Value).ownBlock) v374 y373) := ⟨h0_⟩
     have HO381 : Aside0 (Kd.R (Kd.int .i64) 3 w51 w.heap.size (fun k_ => some k_ ≠ (v374 : Value).ownBlock) v380 y379) := ⟨h1_⟩
     replace BK364 : Aside0 (w51.heap[gb364]? = some (.cells #[.slice A0_0 l0_0.length c0_0, .slice A0_1 l0_1.length c0_1, .int .i64 a0_2] 25 (0, 0))) := ⟨h2_⟩
     replace BK365 : Aside0 (w51.heap[gb365]? = some (.cells #[.slice none 0 0, .slice none 0 0, .int .i64 0] 25 (0, 0))) := ⟨h3_⟩
     have BK382 : Aside0 (w51.heap[gb382]? = some (.cells #[.slice none 0 0, .slice none 0 0, .int .i64 0] 25 (0, 0))) := ⟨h4_⟩
     have GW382 : Aside0 (w.heap.size ≤ gb382) := ⟨h5_⟩
     have IGW382 : Nonempty _ := ⟨GW382.out⟩
     have GE382 : Aside0 (w.heap.size ≤ gb382) := ⟨h6_⟩
     have IGE382 : Nonempty _ := ⟨GE382.out⟩
     have NB364_382 : Aside0 (gb364 ≠ gb382) := ⟨h7_⟩
     have INB364_382 : Nonempty _ := ⟨NB364_382.out⟩
     have NB382_364 : Aside0 (gb382 ≠ gb364) := ⟨h8_⟩
     have INB382_364 : Nonempty _ := ⟨NB382_364.out⟩
     have NB365_382 : Aside0 (gb365 ≠ gb382) := ⟨h9_⟩
     have INB365_382 : Nonempty _ := ⟨NB365_382.out⟩
     have NB382_365 : Aside0 (gb382 ≠ gb365) := ⟨h10_⟩
     have INB382_365 : Nonempty _ := ⟨NB382_365.out⟩
     replace HB : Aside0 (Below w.heap.size w w51) := ⟨h11_⟩
     clear h0_ h1_ h2_ h3_ h4_ h5_ h6_ h7_ h8_ h9_ h10_ h11_
     have hHeld : w51.cell? ⟨gb364, 0, none⟩ = some (.slice A0_0 l0_0.length c0_0) ∧ w51.cell? ⟨gb364, 1, none⟩ = some (.slice A0_1 l0_1.length c0_1) ∧ w51.cell? ⟨gb364, 2, none⟩ = some (.int .i64 a0_2) := hS_
     obtain ⟨Ao52, co52, eo52⟩ := Kd.R_slice HO381.out
     (first | subst eo52 | (injection eo52 with f1_ f2_ f3_; have f4_ := f1_.symm; have f5_ := f3_.symm; clear f1_ f2_ f3_; subst f4_; subst f5_))
     obtain ⟨Ao53, co53, eo53⟩ := Kd.R_slice HO375.out
     (first | subst eo53 | (injection eo53 with f1_ f2_ f3_; have f4_ := f1_.symm; have f5_ := f3_.symm; clear f1_ f2_ f3_; subst f4_; subst f5_))
     refine norm_ (a' := ?_) ?_ ?_
     rotate_left
     ·simp only [putAll, Act.put, List.setIfInBounds_toArray, List.set_cons_zero, List.set_cons_succ]
      rfl
     refine one_ (i := 9) (N := none) #[true, true, true, true, true, true, true, true, true, true] rfl rfl (one_of HT_.out (by kernel_rfl)) (by decide) (fun K hK => ?_)
     have hs54 : w51.cell? ⟨gb382, 0, none⟩ = some (.slice none 0 0) := (blk_cell BK382.out 0).trans rfl
     have hfs54 := blk_frozen BK382.out 0
     have hns54_0 := NB364_382.out
     have hns54_1 := NB365_382.out
     have hms54_0 := NB382_364.out
     have hms54_1 := NB382_365.out
     have hs55 : w51.cell? ⟨gb382, 1, none⟩ = some (.slice none 0 0) := (blk_cell BK382.out 1).trans rfl
     have hfs55 := blk_frozen BK382.out 1
     have hns55_0 := NB364_382.out
     have hns55_1 := NB365_382.out
     have hms55_0 := NB382_364.out
     have hms55_1 := NB382_365.out
     have hs56 : w51.cell? ⟨gb382, 2, none⟩ = some (.int .i64 0) := (blk_cell BK382.out 2).trans rfl
     have hfs56 := blk_frozen BK382.out 2
     have hns56_0 := NB364_382.out
     have hns56_1 := NB365_382.out
     have hms56_0 := NB382_364.out
     have hms56_1 := NB382_365.out
     refine skip_ (w1 := ?_) (by rfl) rfl ?_ ?_
     rotate_left
     ·go_simp
      rfl
     refine hK.out _ _ ⟨((cell_far (p := ⟨gb382, _, none⟩) NB364_382.out _).trans (((cell_far (p := ⟨gb382, _, none⟩) NB364_382.out _).trans (((cell_far (p := ⟨gb382, _, none⟩) NB364_382.out _).trans (hHeld.1)))))), ((cell_far (p := ⟨gb382, _, none⟩) NB364_382.out _).trans (((cell_far (p := ⟨gb382, _, none⟩) NB364_382.out _).trans (((cell_far (p := ⟨gb382, _, none⟩) NB364_382.out _).trans (hHeld.2.1)))))), ((cell_far (p := ⟨gb382, _, none⟩) NB364_382.out _).trans (((cell_far (p := ⟨gb382, _, none⟩) NB364_382.out _).trans (((cell_far (p := ⟨gb382, _, none⟩) NB364_382.out _).trans (hHeld.2.2))))))⟩ (fun hHeld => ?_)
     clear hK K
     refine done_ (done_of HT_.out (by kernel_rfl)) ?_
     try go_wp2
     go_loopg [6] kj2 (fun kq v6 w' => ∃ (x6_2 : Int) (x383000_2 : List Int) (x383001_2 : List Int) (x383002_2 : Int) (u383000 : Value) (u383001 : Value), v6 = .int .i64 x6_2 ∧ Aside0 (spec_FrmInto.l0 kq l1 x6_2 l0_0 l0_1 a0_2 x383000_2 x383001_2 x383002_2 = some (r1, r2, r3)) ∧ Aside0 (kq ≤ kj2) ∧ Aside0 (Kd.R (Kd.int .i64) 3 w' w.heap.size (fun k_ => some k_ ≠ (u383001 : Value).ownBlock) u383000 x383000_2) ∧ Aside0 (Kd.R (Kd.int .i64) 3 w' w.heap.size (fun k_ => some k_ ≠ (u383000 : Value).ownBlock) u383001 x383001_2) ∧ Aside0 (w'.heap[gb364]? = some (.cells #[(.slice A0_0 l0_0.length c0_0), (.slice A0_1 l0_1.length c0_1), .int .i64 a0_2] 25 (0, 0))) ∧ Aside0 (w'.heap[gb365]? = some (.cells #[(.slice none 0 0), (.slice none 0 0), .int .i64 0] 25 (0, 0))) ∧ Aside0 (w'.heap[gb382]? = some (.cells #[u383000, u383001, .int .i64 x383002_2] 25 (0, 0))) ∧ Aside0 (Below w.heap.size w w'))
     case atStart => exact ⟨(0), (y373), (y379), (a0_2), (.slice Ao53 y373.length co53), (.slice Ao52 y379.length co52), (by first | rfl | (simp; done) | (simp [*]; done)), H', ⟨Nat.le_refl _⟩, ⟨by (with_reducible repeat (first | apply ra | apply rn | apply re)); exact R3 HO375.out BK382.out⟩, ⟨by (with_reducible repeat (first | apply ra | apply rn | apply re)); exact R3 HO381.out BK382.out⟩, ⟨by (with_reducible repeat first | refine kN ?_ _ | refine kD ?_ | refine kA ?_ _); refine blk_far ?_ NB364_382.out _; (with_reducible repeat first | refine kN ?_ _ | refine kD ?_ | refine kA ?_ _); refine blk_far ?_ NB364_382.out _; (with_reducible repeat first | refine kN ?_ _ | refine kD ?_ | refine kA ?_ _); refine blk_far ?_ NB364_382.out _; exact lK <| BK364.out⟩, ⟨by (with_reducible repeat first | refine kN ?_ _ | refine kD ?_ | refine kA ?_ _); refine blk_far ?_ NB365_382.out _; (with_reducible repeat first | refine kN ?_ _ | refine kD ?_ | refine kA ?_ _); refine blk_far ?_ NB365_382.out _; (with_reducible repeat first | refine kN ?_ _ | refine kD ?_ | refine kA ?_ _); refine blk_far ?_ NB365_382.out _; exact lK <| BK365.out⟩, ⟨by (with_reducible repeat first | refine kN ?_ _ | refine kD ?_ | refine kA ?_ _); refine blk_put (cs := #[.slice Ao53 y373.length co53, .slice Ao52 y379.length co52, .int .i64 0]) ?_ 2 _ rfl; (with_reducible repeat first | refine kN ?_ _ | refine kD ?_ | refine kA ?_ _); refine blk_put (cs := #[.slice Ao53 y373.length co53, .slice none 0 0, .int .i64 0]) ?_ 1 _ rfl; (with_reducible repeat first | refine kN ?_ _ | refine kD ?_ | refine kA ?_ _); refine blk_put (cs := #[.slice none 0 0, .slice none 0 0, .int .i64 0]) ?_ 0 _ rfl; exact lK <| BK382.out⟩, ⟨by exact jB HB.out⟩⟩
     case round =>
      clear H'
      try clear p2
      try clear c4
      try clear c41
      obtain ⟨x6_2, x383000_2, x383001_2, x383002_2, u383000, u383001, rfl, HA, HK2, HO_383000, HO_383001, BK364, BK365, BK382, HB⟩ := hrel
      cases gk with
      | zero => exact absurd HA.out (by simp [spec_FrmInto.l0])
      | succ k2 =>
       have H := HA.out
       clear HA
       simp only [spec_FrmInto.l0] at H
       by_cases c57 : x6_2 < 3
       ·rw [if_pos c57] at H
        have c57b0 : decide (x6_2 < 3) = true := decide_eq_true c57
        clear c57
        by_cases c58 : 0 ≤ x6_2
        ·rw [if_pos c58] at H
         have c58b0 : decide (0 ≤ x6_2) = true := decide_eq_true c58
         clear c58
         by_cases c59 : x6_2 < (l1.length : Int)
         ·rw [if_pos c59] at H
          have c59b0 : decide (x6_2 < (l1.length : Int)) = true := decide_eq_true c59
          clear c59
          by_cases c60 : x6_2 < (l0_0.length : Int)
          ·rw [if_pos c60] at H
           have c60b0 : decide (x6_2 < (l0_0.length : Int)) = true := decide_eq_true c60
           clear c60
           replace H := Option.bind_eq_some_iff.mp H
           obtain ⟨⟨t385, t388, t391⟩, A610, H⟩ := H
           replace H : (spec_FrmInto.l0 k2 l1 (wrap64 (x6_2 + 1)) l0_0 l0_1 a0_2 t385 t388 t391) = some (r1, r2, r3) := H
           have A61 := Aside0.mk A610
           clear A610
           have H' := Aside0.mk H
           clear H
           try go_wp2
           replace HO_383000 := Aside0.mk (Kd.R_drew HO_383000.out)
           replace HO_383001 := Aside0.mk (Kd.R_drew HO_383001.out)
           replace BK364 := Aside0.mk (blk_drew BK364.out)
           replace BK365 := Aside0.mk (blk_drew BK365.out)
           replace BK382 := Aside0.mk (blk_drew BK382.out)
           replace HB := Aside0.mk (below_drew1 HB.out)
           have p383 : 0 ≤ (x6_2 : Int) := of_decide_eq_true (by first | (with_reducible assumption) | assumption)
           have q383 : x6_2 < (l1.length : Int) := of_decide_eq_true (by first | (with_reducible assumption) | assumption)
           obtain ⟨ad383, A383_0, c383_0, A383_1, c383_1, e383, hx383_0, hx383_1, hx383_2, hl383_0, hi383_0, hl383_1, hi383_1⟩ := at_T25 HR1.out x6_2 p383 q383
           have hw383_2 := hx383_2
           have hw383_1 := hx383_1
           have hw383_0 := hx383_0
           cases e383
           replace hx383_0 := (HB.out.cell (World.block_lt_of_cell? w _ hx383_0)).trans hx383_0
           replace hx383_1 := (HB.out.cell (World.block_lt_of_cell? w _ hx383_1)).trans hx383_1
           replace hx383_2 := (HB.out.cell (World.block_lt_of_cell? w _ hx383_2)).trans hx383_2
           have HR383_0 := Aside0.mk hi383_0
           have HC383_0 := Aside0.mk hl383_0
           clear hi383_0 hl383_0
           have HR383_1 := Aside0.mk hi383_1
           have HC383_1 := Aside0.mk hl383_1
           clear hi383_1 hl383_1
           replace p383 := eq_true p383
           replace q383 := eq_true q383
           have p384 : 0 ≤ (x6_2 : Int) := of_decide_eq_true (by first | (with_reducible assumption) | assumption)
           have q384 : x6_2 < (l0_0.length : Int) := of_decide_eq_true (by first | (with_reducible assumption) | assumption)
           obtain ⟨ad384, e384, hx384_0⟩ := Kd.at_int HR0_0.out x6_2 p384 q384
           have hw384_0 := hx384_0
           cases e384
           replace hx384_0 := (HB.out.cell (World.block_lt_of_cell? w _ hx384_0)).trans hx384_0
           replace p384 := eq_true p384
           replace q384 := eq_true q384
           obtain ⟨Ao63, co63, eo63⟩ := Kd.R_slice HO_383000.out
           (first | subst eo63 | (injection eo63 with f1_ f2_ f3_; have f4_ := f1_.symm; have f5_ := f3_.symm; clear f1_ f2_ f3_; subst f4_; subst f5_))
           obtain ⟨Ao64, co64, eo64⟩ := Kd.R_slice HO_383001.out
           (first | subst eo64 | (injection eo64 with f1_ f2_ f3_; have f4_ := f1_.symm; have f5_ := f3_.symm; clear f1_ f2_ f3_; subst f4_; subst f5_))
           refine start_ (n := 12) (S := fun w' => w'.cell? ⟨gb382, 0, none⟩ = some (.slice Ao63 x383000_2.length co63) ∧ w'.cell? ⟨gb382, 1, none⟩ = some (.slice Ao64 x383001_2.length co64) ∧ w'.cell? ⟨gb382, 2, none⟩ = some (.int .i64 x383002_2) ∧ w'.cell? ⟨gb364, 0, none⟩ = some (.slice (some ad384) l0_0.length c0_0) ∧ w'.cell? ⟨gb364, 1, none⟩ = some (.slice A0_1 l0_1.length c0_1) ∧ w'.cell? ⟨gb364, 2, none⟩ = some (.int .i64 a0_2) ∧ w'.cell? (ad383.add ((x6_2).toNat * 3)) = some (.slice A383_0 ((rd_T25 l1 x6_2).f0).length c383_0) ∧ w'.cell? ⟨(ad383.add ((x6_2).toNat * 3)).block, (ad383.add ((x6_2).toNat * 3)).off + 1, none⟩ = some (.slice A383_1 ((rd_T25 l1 x6_2).f1).length c383_1) ∧ w'.cell? ⟨(ad383.add ((x6_2).toNat * 3)).block, (ad383.add ((x6_2).toNat * 3)).off + 2, none⟩ = some (.int .i64 ((rd_T25 l1 x6_2).f2)) ∧ w'.cell? (ad384.add (x6_2).toNat) = some (.int .i64 (rd l0_0 x6_2))) (ds := [11]) #[false, false, false, false, false, false, false, false, false, false, false, false] (by kernel_rfl) rfl rfl ⟨(blk_cell BK382.out 0).trans rfl, (blk_cell BK382.out 1).trans rfl, (blk_cell BK382.out 2).trans rfl, (blk_cell BK364.out 0).trans rfl, (blk_cell BK364.out 1).trans rfl, (blk_cell BK364.out 2).trans rfl, ((HB.out.cell (World.block_lt_of_cell? w _ hw383_0)).trans hw383_0), ((HB.out.cell (World.block_lt_of_cell? w _ hw383_1)).trans hw383_1), ((HB.out.cell (World.block_lt_of_cell? w _ hw383_2)).trans hw383_2), ((HB.out.cell (World.block_lt_of_cell? w _ hw384_0)).trans hw384_0)⟩ (fun hHeld => ?_); refine with_tabW spec_FrmInto.tab7 spec_FrmInto.bits7 (fun HT_ HW_ => ?_)
           generalize wr.drew = w62 at HO_383000 HO_383001 BK364 BK365 BK382 HB HR383_0 HR383_1 hx383_0 hx383_1 hx383_2 hx384_0 hHeld ⊢
           refine pure_ (i := 1) (N := some 50) (v := ?_) (a' := ?_) #[false, true, false, false, false, false, false, false, false, false, false, false] rfl rfl (any_of HT_.out (by kernel_rfl)) (fun _ _ _ h => h) (Or.inl ⟨by rfl, ?_⟩) ?_ ?_
           rotate_left
           ·intro w'
            go_simp
            with_reducible rfl
           rotate_left
           ·simp only [Act.put, sA, s0, sS, i64_w, i32_w]
            rfl
           refine pure_ (i := 2) (N := some 51) (v := ?_) (a' := ?_) #[false, true, true, false, false, false, false, false, false, false, false, false] rfl rfl (any_of HT_.out (by kernel_rfl)) (fun _ _ _ h => h) (Or.inl ⟨by rfl, ?_⟩) ?_ ?_
           rotate_left
           ·intro w'
            go_simp
            with_reducible rfl
           rotate_left
           ·simp only [Act.put, sA, s0, sS, i64_w, i32_w]
            rfl
           refine pure_ (i := 3) (N := some 52) (v := ?_) (a' := ?_) #[false, true, true, true, false, false, false, false, false, false, false, false] rfl rfl (any_of HT_.out (by kernel_rfl)) (fun _ _ _ h => h) (Or.inl ⟨by rfl, ?_⟩) ?_ ?_
           rotate_left
           ·intro w'
            go_simp
            with_reducible rfl
           rotate_left
           ·simp only [Act.put, sA, s0, sS, i64_w, i32_w]
            rfl
           refine pure_ (i := 5) (N := some 54) (v := ?_) (a' := ?_) #[false, true, true, true, false, true, false, false, false, false, false, false] rfl rfl (any_of HT_.out (by kernel_rfl)) (fun _ _ _ h => h) (Or.inl ⟨by rfl, ?_⟩) ?_ ?_
           rotate_left
           ·intro w'
            go_simp
            with_reducible rfl
           rotate_left
           ·simp only [Act.put, sA, s0, sS, i64_w, i32_w]
            rfl
           refine pure_ (i := 7) (N := some 56) (v := ?_) (a' := ?_) #[false, true, true, true, false, true, false, true, false, false, false, false] rfl rfl (any_of HT_.out (by kernel_rfl)) (fun _ _ _ h => h) (Or.inl ⟨by rfl, ?_⟩) ?_ ?_
           rotate_left
           ·intro w'
            go_simp
            with_reducible rfl
           rotate_left
           ·simp only [Act.put, sA, s0, sS, i64_w, i32_w]
            rfl
           refine take_ (i := 0) (N := some 49) (v := ?_) (a' := ?_) #[true, true, true, true, false, true, false, true, false, false, false, false] rfl rfl (take_ofW HT_.out HW_.out (by kernel_rfl)) (fun _ _ _ h => h) (Or.inl ⟨by rfl, ?_⟩) hHeld ?_ ?_
           rotate_left
           ·rintro w' ⟨s0, s1, s2, s3, s4, s5, s6, s7, s8, s9⟩
            go_simp
            with_reducible rfl
           rotate_left
           ·simp only [Act.put, sA, s0, sS, i64_w, i32_w]
            rfl
           refine take_ (i := 4) (N := some 53) (v := ?_) (a' := ?_) #[true, true, true, true, true, true, false, true, false, false, false, false] rfl rfl (take_ofW HT_.out HW_.out (by kernel_rfl)) (fun _ _ _ h => h) (Or.inl ⟨by rfl, ?_⟩) hHeld ?_ ?_
           rotate_left
           ·rintro w' ⟨s0, s1, s2, s3, s4, s5, s6, s7, s8, s9⟩
            go_simp
            with_reducible rfl
           rotate_left
           ·simp only [Act.put, sA, s0, sS, i64_w, i32_w]
            rfl
           refine take_ (i := 6) (N := some 55) (v := ?_) (a' := ?_) #[true, true, true, true, true, true, true, true, false, false, false, false] rfl rfl (take_ofW HT_.out HW_.out (by kernel_rfl)) (fun _ _ _ h => h) (Or.inl ⟨by rfl, ?_⟩) hHeld ?_ ?_
           rotate_left
           ·rintro w' ⟨s0, s1, s2, s3, s4, s5, s6, s7, s8, s9⟩
            go_simp
            with_reducible rfl
           rotate_left
           ·simp only [Act.put, sA, s0, sS, i64_w, i32_w]
            rfl
           refine pure_ (i := 8) (N := some 57) (v := ?_) (a' := ?_) #[true, true, true, true, true, true, true, true, true, false, false, false] rfl rfl (any_of HT_.out (by kernel_rfl)) (fun _ _ _ h => h) (Or.inl ⟨by rfl, ?_⟩) ?_ ?_
           rotate_left
           ·intro w'
            go_simp
            with_reducible rfl
           rotate_left
           ·simp only [Act.put, sA, s0, sS, i64_w, i32_w]
            rfl
           refine take_ (i := 9) (N := some 58) (v := ?_) (a' := ?_) #[true, true, true, true, true, true, true, true, true, true, false, false] rfl rfl (take_ofW HT_.out HW_.out (by kernel_rfl)) (fun _ _ _ h => h) (Or.inl ⟨by rfl, ?_⟩) hHeld ?_ ?_
           rotate_left
           ·rintro w' ⟨s0, s1, s2, s3, s4, s5, s6, s7, s8, s9⟩
            go_simp
            with_reducible rfl
           rotate_left
           ·simp only [Act.put, sA, s0, sS, i64_w, i32_w]
            rfl
           refine one_ (i := 10) (N := some 59) #[true, true, true, true, true, true, true, true, true, true, true, false] rfl rfl (one_of HT_.out (by kernel_rfl)) (by decide) (fun K hK => ?_)
           refine goes_ Try.func30 (by kernel_rfl) rfl #[.agg #[.slice Ao63 x383000_2.length co63, .slice Ao64 x383001_2.length co64, .int .i64 x383002_2], .agg #[.slice A383_0 ((rd_T25 l1 x6_2).f0).length c383_0, .slice A383_1 ((rd_T25 l1 x6_2).f1).length c383_1, .int .i64 ((rd_T25 l1 x6_2).f2)], .int .i64 (rd l0_0 x6_2)] (by rfl) rfl rfl (by (try simp only [mA, mC, mN]); first | done | rfl | (simp only [ld, lt]; rfl)) ?_
           with_reducible refine (spec_l1Sum.calls k2 _ _ x383000_2 _ _ x383001_2 x383002_2 _ _ ((rd_T25 l1 x6_2).f0) _ _ ((rd_T25 l1 x6_2).f1) ((rd_T25 l1 x6_2).f2) (rd l0_0 x6_2) t385 t388 t391 _ ?side1 ?side2 ?side3 ?side4 ?side5 ?side6 ?side7 ?side8 A61.out).mono ?_
           (case side1 => exact lC <| (Kd.R_reads' HO_383000.out).2.2)
           (case side2 => exact (Kd.R_reads' HO_383000.out).2.1)
           (case side3 => exact lC <| (Kd.R_reads' HO_383001.out).2.2)
           (case side4 => exact (Kd.R_reads' HO_383001.out).2.1)
           (case side5 => exact lC <| (Kd.C_below HR383_0.out HB.out))
           (case side6 => exact HC383_0.out)
           (case side7 => exact lC <| (Kd.C_below HR383_1.out HB.out))
           (case side8 => exact HC383_1.out)
           rintro e w65 ⟨v386, v389, rfl, ho0, ho1, hb⟩
           refine ⟨_, rfl, ?_⟩
           have HO387 := Aside0.mk (Kd.R_lower (Kd.R_new' (Kd.R_new' ho0 (rl HO_383000.out)) (rl HO_383001.out)) (below_size (by exact jB HB.out)))
           have HO390 := Aside0.mk (Kd.R_lower (Kd.R_new' (Kd.R_new' ho1 (rl HO_383000.out)) (rl HO_383001.out)) (below_size (by exact jB HB.out)))
           replace HO_383000 := Aside0.mk (o2 HO_383000.out hb ho0 ho1)
           replace HO_383001 := Aside0.mk (o2 HO_383001.out hb ho0 ho1)
           replace BK364 := Aside0.mk (bb BK364.out hb)
           replace BK365 := Aside0.mk (bb BK365.out hb)
           replace BK382 := Aside0.mk (bb BK382.out hb)
           replace HB := Aside0.mk (below_step (by exact jB HB.out) hb)
           (try clear hb)
           (try clear hb2)
           (try clear hk)
           (try clear hi)
           (try clear ho0)
           (try clear ho1)
           obtain ⟨Ao66, co66, eo66⟩ := Kd.R_slice HO387.out
           (first | subst eo66 | (injection eo66 with f1_ f2_ f3_; have f4_ := f1_.symm; have f5_ := f3_.symm; clear f1_ f2_ f3_; subst f4_; subst f5_))
           obtain ⟨Ao68, co68, eo68⟩ := Kd.R_slice HO390.out
           (first | subst eo68 | (injection eo68 with f1_ f2_ f3_; have f4_ := f1_.symm; have f5_ := f3_.symm; clear f1_ f2_ f3_; subst f4_; subst f5_))
           refine hK.out _ _ ⟨(blk_cell BK382.out 0).trans rfl, (blk_cell BK382.out 1).trans rfl, (blk_cell BK382.out 2).trans rfl, (blk_cell BK364.out 0).trans rfl, (blk_cell BK364.out 1).trans rfl, (blk_cell BK364.out 2).trans rfl, ((HB.out.cell (World.block_lt_of_cell? w _ hw383_0)).trans hw383_0), ((HB.out.cell (World.block_lt_of_cell? w _ hw383_1)).trans hw383_1), ((HB.out.cell (World.block_lt_of_cell? w _ hw383_2)).trans hw383_2), ((HB.out.cell (World.block_lt_of_cell? w _ hw384_0)).trans hw384_0)⟩ (fun hHeld => ?_)
           clear hK K
           refine norm_ (a' := ?_) ?_ ?_
           rotate_left
           ·show Act.put _ (some 59) _ = _
            simp only [Act.put, sA, s0, sS, i64_w, i32_w]
            rfl
           refine last_ (i := 11) (N := none) #[true, true, true, true, true, true, true, true, true, true, true, true] rfl rfl (one_of HT_.out (by kernel_rfl)) (by decide) (fun K hK => ?_)
           have hs67 : w65.cell? ⟨gb382, 0, none⟩ = some (.slice Ao63 x383000_2.length co63) := (blk_cell BK382.out 0).trans rfl
           have hfs67 := blk_frozen BK382.out 0
           have hns67_0 := NB364_382.out
           have hns67_1 := NB365_382.out
           have hms67_0 := NB382_364.out
           have hms67_1 := NB382_365.out
           have hs69 : w65.cell? ⟨gb382, 1, none⟩ = some (.slice Ao64 x383001_2.length co64) := (blk_cell BK382.out 1).trans rfl
           have hfs69 := blk_frozen BK382.out 1
           have hns69_0 := NB364_382.out
           have hns69_1 := NB365_382.out
           have hms69_0 := NB382_364.out
           have hms69_1 := NB382_365.out
           have hs70 : w65.cell? ⟨gb382, 2, none⟩ = some (.int .i64 x383002_2) := (blk_cell BK382.out 2).trans rfl
           have hfs70 := blk_frozen BK382.out 2
           have hns70_0 := NB364_382.out
           have hns70_1 := NB365_382.out
           have hms70_0 := NB382_364.out
           have hms70_1 := NB382_365.out
           refine skip_ (w1 := ?_) (by rfl) rfl ?_ ?_
           rotate_left
           ·go_simp
            rfl
           refine hK.out _ _ ?_
           clear hK K
           refine done_ (done_of HT_.out (by kernel_rfl)) ?_
           try go_wp2
           go_roundg k2
           case measure => have := HJ2.out; have := HK2.out; omega
           case rel => exact ⟨(wrap64 (x6_2 + 1)), (t385), (t388), (t391), (.slice Ao66 t385.length co66), (.slice Ao68 t388.length co68), (by first | rfl | (simp; done) | (simp [*]; done)), H', ⟨by have := HJ2.out; have := HK2.out; omega⟩, ⟨by exact lR <| Kd.R_mono (Kd.R_far (p := ⟨gb382, 2, none⟩) (Kd.R_far (p := ⟨gb382, 1, none⟩) (Kd.R_far (p := ⟨gb382, 0, none⟩) (Kd.R_types HO387.out BK382.out (by decide)) (fun _ hk => hk.2) (.slice Ao66 t385.length co66)) (fun _ hk => hk.2) (.slice Ao68 t388.length co68)) (fun _ hk => hk.2) (.int .i64 t391)) (fun _ hk => hk.1.1.1)⟩, ⟨by exact lR <| Kd.R_mono (Kd.R_far (p := ⟨gb382, 2, none⟩) (Kd.R_far (p := ⟨gb382, 1, none⟩) (Kd.R_far (p := ⟨gb382, 0, none⟩) (Kd.R_types HO390.out BK382.out (by decide)) (fun _ hk => hk.2) (.slice Ao66 t385.length co66)) (fun _ hk => hk.2) (.slice Ao68 t388.length co68)) (fun _ hk => hk.2) (.int .i64 t391)) (fun _ hk => hk.1.1.1)⟩, ⟨by (with_reducible repeat first | refine kN ?_ _ | refine kD ?_ | refine kA ?_ _); refine blk_far ?_ NB364_382.out _; (with_reducible repeat first | refine kN ?_ _ | refine kD ?_ | refine kA ?_ _); refine blk_far ?_ NB364_382.out _; (with_reducible repeat first | refine kN ?_ _ | refine kD ?_ | refine kA ?_ _); refine blk_far ?_ NB364_382.out _; exact lK <| BK364.out⟩, ⟨by (with_reducible repeat first | refine kN ?_ _ | refine kD ?_ | refine kA ?_ _); refine blk_far ?_ NB365_382.out _; (with_reducible repeat first | refine kN ?_ _ | refine kD ?_ | refine kA ?_ _); refine blk_far ?_ NB365_382.out _; (with_reducible repeat first | refine kN ?_ _ | refine kD ?_ | refine kA ?_ _); refine blk_far ?_ NB365_382.out _; exact lK <| BK365.out⟩, ⟨by (with_reducible repeat first | refine kN ?_ _ | refine kD ?_ | refine kA ?_ _); refine blk_put (cs := #[.slice Ao66 t385.length co66, .slice Ao68 t388.length co68, .int .i64 x383002_2]) ?_ 2 _ rfl; (with_reducible repeat first | refine kN ?_ _ | refine kD ?_ | refine kA ?_ _); refine blk_put (cs := #[.slice Ao66 t385.length co66, .slice Ao64 x383001_2.length co64, .int .i64 x383002_2]) ?_ 1 _ rfl; (with_reducible repeat first | refine kN ?_ _ | refine kD ?_ | refine kA ?_ _); refine blk_put (cs := #[.slice Ao63 x383000_2.length co63, .slice Ao64 x383001_2.length co64, .int .i64 x383002_2]) ?_ 0 _ rfl; exact lK <| BK382.out⟩, ⟨by exact jB HB.out⟩⟩
          ·rw [if_neg c60] at H
           exact absurd H (by simp)
         ·rw [if_neg c59] at H
          exact absurd H (by simp)
        ·rw [if_neg c58] at H
         exact absurd H (by simp)
       ·rw [if_neg c57] at H
        have c57b0 : decide (x6_2 < 3) = false := decide_eq_false c57
        clear c57
        replace H := Option.bind_eq_some_iff.mp H
        obtain ⟨t392, A710, H⟩ := H
        replace H : (if t392 = true then (some (x383000_2, x383001_2, x383002_2)) else (some (([] : List Int), ([] : List Int), 0))) = some (r1, r2, r3) := H
        have A71 := Aside0.mk A710
        clear A710
        by_cases c72 : t392 = true
        ·subst c72
         have H1 : (some (x383000_2, x383001_2, x383002_2)) = some (r1, r2, r3) := by rw [if_pos rfl] at H; exact H
         clear H
         have H := H1
         clear H1
         simp only [Option.some.injEq, Prod.mk.injEq] at H
         obtain ⟨rfl, rfl, rfl⟩ := H
         have hnb73 := NB382_364.out
         have hnc73 := NB364_382.out
         have hnb74 := NB382_365.out
         have hnc74 := NB365_382.out
         obtain ⟨hcz75_0, hcz75_1, hcz75_2, hfz75_0, hfz75_1, hfz75_2⟩ := cf3 BK382.out
         obtain ⟨Ao76, co76, eo76⟩ := Kd.R_slice HO_383000.out
         subst eo76
         obtain ⟨Ao77, co77, eo77⟩ := Kd.R_slice HO_383001.out
         subst eo77
         go_wp2_with (first | ((with_reducible refine gate_callee (f := 17) rfl ?_); refine goesL_ (some 61) rfl rfl Try.func17 (by kernel_rfl) rfl #[.agg #[.slice Ao76 x383000_2.length co76, .slice Ao77 x383001_2.length co77, .int .i64 x383002_2]] rfl (by (try simp only [mA, mC, mN]); first | done | rfl | (simp only [ld, lt]; rfl)) ?_; (with_reducible refine (spec_FrmOk.calls k2 _ _ x383000_2 _ _ x383001_2 x383002_2 true _ ?side1 ?side2 ?side3 ?side4 A71.out).mono ?_); (case side1 => exact lC <| (Kd.R_reads' HO_383000.out).2.2); (case side2 => exact (Kd.R_reads' HO_383000.out).2.1); (case side3 => exact lC <| (Kd.R_reads' HO_383001.out).2.2); (case side4 => exact (Kd.R_reads' HO_383001.out).2.1); rintro e w78 ⟨rfl, hb⟩; refine ⟨_, rfl, ?_⟩; replace HO_383000 := Aside0.mk (rb HO_383000.out hb); replace HO_383001 := Aside0.mk (rb HO_383001.out hb); replace BK364 := Aside0.mk (bb BK364.out hb); replace BK365 := Aside0.mk (bb BK365.out hb); replace BK382 := Aside0.mk (bb BK382.out hb); replace HB := Aside0.mk (below_step (by exact jB HB.out) hb); (try clear hb); (try clear hb2); (try clear hk); (try clear hi); obtain ⟨hcz79_0, hcz79_1, hcz79_2, hfz79_0, hfz79_1, hfz79_2⟩ := cf3 BK382.out; have hnb80 := NB365_364.out; have hnc80 := NB364_365.out; obtain ⟨hcz81_0, hcz81_1, hcz81_2, hfz81_0, hfz81_1, hfz81_2⟩ := cf3 BK365.out))
         refine bodyPost_ret (results_cell_row rfl _ _ gb365 25 #[.slice Ao76 x383000_2.length co76, .slice Ao77 x383001_2.length co77, .int .i64 x383002_2] (0, 0) _ rfl (by (with_reducible repeat first | refine kN ?_ _ | refine kD ?_ | refine kA ?_ _); refine blk_put (cs := #[.slice Ao76 x383000_2.length co76, .slice Ao77 x383001_2.length co77, .int .i64 0]) ?_ 2 _ rfl; (with_reducible repeat first | refine kN ?_ _ | refine kD ?_ | refine kA ?_ _); refine blk_put (cs := #[.slice Ao76 x383000_2.length co76, .slice none 0 0, .int .i64 0]) ?_ 1 _ rfl; (with_reducible repeat first | refine kN ?_ _ | refine kD ?_ | refine kA ?_ _); refine blk_put (cs := #[.slice none 0 0, .slice none 0 0, .int .i64 0]) ?_ 0 _ rfl; exact lK BK365.out) Try.underlying25 rfl (by kernel_rfl)) rfl ?_
         exact ⟨_, _, by first | rfl | (simp [errW_none, errW_some] <;> rfl) | (simp [*, errW_none, errW_some] <;> rfl), by exact lR <| Kd.R_mono (Kd.R_far (p := ⟨gb365, 2, none⟩) (Kd.R_far (p := ⟨gb365, 1, none⟩) (Kd.R_far (p := ⟨gb365, 0, none⟩) (Kd.R_types HO_383000.out BK365.out (by decide)) (fun _ hk => by first | exact hk.2 | exact fun e_ => hk.2 (e_.trans (ob _ _ _ _))) (.slice Ao76 x383000_2.length co76)) (fun _ hk => by first | exact hk.2 | exact fun e_ => hk.2 (e_.trans (ob _ _ _ _))) (.slice Ao77 x383001_2.length co77)) (fun _ hk => by first | exact hk.2 | exact fun e_ => hk.2 (e_.trans (ob _ _ _ _))) (.int .i64 x383002_2)) (fun _ hk => by first | exact hk.1 | exact fun e_ => hk.1 (e_.trans (ob _ _ _ _))), by exact lR <| Kd.R_mono (Kd.R_far (p := ⟨gb365, 2, none⟩) (Kd.R_far (p := ⟨gb365, 1, none⟩) (Kd.R_far (p := ⟨gb365, 0, none⟩) (Kd.R_types HO_383001.out BK365.out (by decide)) (fun _ hk => by first | exact hk.2 | exact fun e_ => hk.2 (e_.trans (ob _ _ _ _))) (.slice Ao76 x383000_2.length co76)) (fun _ hk => by first | exact hk.2 | exact fun e_ => hk.2 (e_.trans (ob _ _ _ _))) (.slice Ao77 x383001_2.length co77)) (fun _ hk => by first | exact hk.2 | exact fun e_ => hk.2 (e_.trans (ob _ _ _ _))) (.int .i64 x383002_2)) (fun _ hk => by first | exact hk.1 | exact fun e_ => hk.1 (e_.trans (ob _ _ _ _))), by exact jB HB.out⟩
        ·replace c72 := Bool.eq_false_iff.mpr c72
         subst c72
         have H1 : (some (([] : List Int), ([] : List Int), 0)) = some (r1, r2, r3) := by rw [if_neg (show ¬ (false = true) by decide)] at H; exact H
         clear H
         have H := H1
         clear H1
         simp only [Option.some.injEq, Prod.mk.injEq] at H
         obtain ⟨rfl, rfl, rfl⟩ := H
         have hnb82 := NB382_364.out
         have hnc82 := NB364_382.out
         have hnb83 := NB382_365.out
         have hnc83 := NB365_382.out
         obtain ⟨hcz84_0, hcz84_1, hcz84_2, hfz84_0, hfz84_1, hfz84_2⟩ := cf3 BK382.out
         obtain ⟨Ao85, co85, eo85⟩ := Kd.R_slice HO_383000.out
         subst eo85
         obtain ⟨Ao86, co86, eo86⟩ := Kd.R_slice HO_383001.out
         subst eo86
         go_wp2_with (first | ((with_reducible refine gate_callee (f := 17) rfl ?_); refine goesL_ (some 61) rfl rfl Try.func17 (by kernel_rfl) rfl #[.agg #[.slice Ao85 x383000_2.length co85, .slice Ao86 x383001_2.length co86, .int .i64 x383002_2]] rfl (by (try simp only [mA, mC, mN]); first | done | rfl | (simp only [ld, lt]; rfl)) ?_; (with_reducible refine (spec_FrmOk.calls k2 _ _ x383000_2 _ _ x383001_2 x383002_2 false _ ?side1 ?side2 ?side3 ?side4 A71.out).mono ?_); (case side1 => exact lC <| (Kd.R_reads' HO_383000.out).2.2); (case side2 => exact (Kd.R_reads' HO_383000.out).2.1); (case side3 => exact lC <| (Kd.R_reads' HO_383001.out).2.2); (case side4 => exact (Kd.R_reads' HO_383001.out).2.1); rintro e w87 ⟨rfl, hb⟩; refine ⟨_, rfl, ?_⟩; replace HO_383000 := Aside0.mk (rb HO_383000.out hb); replace HO_383001 := Aside0.mk (rb HO_383001.out hb); replace BK364 := Aside0.mk (bb BK364.out hb); replace BK365 := Aside0.mk (bb BK365.out hb); replace BK382 := Aside0.mk (bb BK382.out hb); replace HB := Aside0.mk (below_step (by exact jB HB.out) hb); (try clear hb); (try clear hb2); (try clear hk); (try clear hi); have hnb88 := NB365_364.out; have hnc88 := NB364_365.out; obtain ⟨hcz89_0, hcz89_1, hcz89_2, hfz89_0, hfz89_1, hfz89_2⟩ := cf3 BK365.out))
         refine bodyPost_ret (results_cell_row rfl _ _ gb365 25 #[.slice none 0 0, .slice none 0 0, .int .i64 0] (0, 0) _ rfl (by (with_reducible repeat first | refine kN ?_ _ | refine kD ?_ | refine kA ?_ _); refine blk_put (cs := #[.slice none 0 0, .slice none 0 0, .int .i64 0]) ?_ 2 _ rfl; (with_reducible repeat first | refine kN ?_ _ | refine kD ?_ | refine kA ?_ _); refine blk_put (cs := #[.slice none 0 0, .slice none 0 0, .int .i64 0]) ?_ 1 _ rfl; (with_reducible repeat first | refine kN ?_ _ | refine kD ?_ | refine kA ?_ _); refine blk_put (cs := #[.slice none 0 0, .slice none 0 0, .int .i64 0]) ?_ 0 _ rfl; exact lK BK365.out) Try.underlying25 rfl (by kernel_rfl)) rfl ?_
         exact ⟨_, _, by first | rfl | (simp [errW_none, errW_some] <;> rfl) | (simp [*, errW_none, errW_some] <;> rfl), by first | exact Kd.R_nil _ _ _ _ _ | exact Kd.N_nil _ _ _ _ _ | exact Kd.V_nil _ _ _ _ _ | exact Kd.Q_nil _ _ _ _ _ | exact Kd.S_nil _ _ _ _ _, by first | exact Kd.R_nil _ _ _ _ _ | exact Kd.N_nil _ _ _ _ _ | exact Kd.V_nil _ _ _ _ _ | exact Kd.Q_nil _ _ _ _ _ | exact Kd.S_nil _ _ _ _ _, by exact jB HB.out⟩
    ·rw [if_neg c41] at H
     exact absurd H (by simp)

end Go.Proofs.Ytopbdoilpdpkmaa.QFnFrmInto

-- shorter
