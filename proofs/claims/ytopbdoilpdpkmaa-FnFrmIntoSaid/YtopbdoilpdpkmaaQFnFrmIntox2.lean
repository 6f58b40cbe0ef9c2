/- Plain functions, and that the Go code computes them: written by a program of this session over the seat's translation; the conditions stand in each theorem. -/
import Derived.Test.YtopbdoilpdpkmaaQFnFrmIntox0
import Derived.Test.YtopbdoilpdpkmaaQFnFrmIntox1
namespace Go.Proofs.Ytopbdoilpdpkmaa.QFnFrmInto
open Go.RowKit Go.Proofs.YtopbdoilpdpkmaaW.PrintWords Go.Proofs.YtopbdoilpdpkmaaW.PrintLast Go.Proofs.YtopbdoilpdpkmaaW.PrintMore Go.Proofs.Ytopbdoilpdpkmaa.HWords
attribute [local go_sem] max2_int min2_int max_two min_two max_three min_three max_four min_four   -- for this text's walks alone
set_option linter.unusedVariables false
set_option linter.unusedSimpArgs false

/-! ### spec_l20Small: function 39 -/
mutual
def spec_l20Small.l0 : Nat → Int → List Int → Int → List Int → List Int → Int → Option (List Int × List Int × Int × Int)
 | 0, _, _, _, _, _, _ => none
 | k + 1, x4, x1000, x1001, x123000, x123001, x123002 => if x4 < 3 then ((some (([0, 0, 0, 1, (-1), 2] : List Int) : List Int)).bind fun y123 => ((spec_l20Rd_pick.f k x1000 x1001 6).bind fun bt126 => (if 0 ≤ bt126.1 then (if bt126.1 < (y123.length : Int) then (if 0 ≤ x4 then (if x4 < (x123000.length : Int) then (spec_l20Small.l0 k (wrap64 (x4 + 1)) x1000 bt126.2 (x123000.set (x4 : Int).toNat (rd y123 bt126.1)) x123001 x123002) else (none)) else (none)) else (none)) else (none)))) else (spec_l20Small.l1 k 0 x1000 x1001 x123000 x123001 x123002)
def spec_l20Small.l1 : Nat → Int → List Int → Int → List Int → List Int → Int → Option (List Int × List Int × Int × Int)
 | 0, _, _, _, _, _, _ => none
 | k + 1, x5, x1000, x1001, x123000, x123001, x123002 => if x5 < 2 then ((some (([0, 0, 1, (-1), 2] : List Int) : List Int)).bind fun y130 => ((spec_l20Rd_pick.f k x1000 x1001 5).bind fun bt133 => (if 0 ≤ bt133.1 then (if bt133.1 < (y130.length : Int) then (if 0 ≤ x5 then (if x5 < (x123001.length : Int) then (spec_l20Small.l1 k (wrap64 (x5 + 1)) x1000 bt133.2 x123000 (x123001.set (x5 : Int).toNat (rd y130 bt133.1)) x123002) else (none)) else (none)) else (none)) else (none)))) else ((some (([0, 0, 1, (-1), 5, (-5), 20, (-20)] : List Int) : List Int)).bind fun y137 => ((spec_l20Rd_pick.f k x1000 x1001 8).bind fun bt140 => (if 0 ≤ bt140.1 then (if bt140.1 < (y137.length : Int) then (some (x123000, x123001, rd y137 bt140.1, bt140.2)) else (none)) else (none))))
end
def spec_l20Small.f (k : Nat) (s0_0 : List Int) (s0_1 : Int) : Option (List Int × List Int × Int × Int) := (spec_FrmZero.f).bind fun bt115 => (spec_l20Small.l0 k 0 s0_0 s0_1 bt115.1 bt115.2.1 bt115.2.2)
theorem spec_l20Small.mono_l : ∀ k, (∀ y0 y1 y2 y3 y4 y5, LeO (spec_l20Small.l0 k y0 y1 y2 y3 y4 y5) (spec_l20Small.l0 (k + 1) y0 y1 y2 y3 y4 y5)) ∧ (∀ y0 y1 y2 y3 y4 y5, LeO (spec_l20Small.l1 k y0 y1 y2 y3 y4 y5) (spec_l20Small.l1 (k + 1) y0 y1 y2 y3 y4 y5))
 | 0 => ⟨fun _ _ _ _ _ _ r h => by simp [spec_l20Small.l0] at h, fun _ _ _ _ _ _ r h => by simp [spec_l20Small.l1] at h⟩
 | k + 1 => by
  obtain ⟨ih0, ih1⟩ := spec_l20Small.mono_l k
  refine ⟨?_, ?_⟩
  ·intro y0 y1 y2 y3 y4 y5
   unfold spec_l20Small.l0
   repeat' first
   | (with_reducible exact ih0 _ _ _ _ _ _)
   | (with_reducible exact ih1 _ _ _ _ _ _)
   | (with_reducible exact spec_l20Rd_pick.mono _ _ _ _)
   | (with_reducible exact LeO.refl _)
   | (with_reducible exact LeO.none _)
   | (with_reducible refine LeO.ite ?_ ?_)
   | (with_reducible refine LeO.bind ?_ (fun _ => ?_))
   | exact ih0 _ _ _ _ _ _
   | exact ih1 _ _ _ _ _ _
   | exact spec_l20Rd_pick.mono _ _ _ _
   | exact LeO.none _
   | refine LeO.ite ?_ ?_
   | refine LeO.bind ?_ (fun _ => ?_)
  ·intro y0 y1 y2 y3 y4 y5
   unfold spec_l20Small.l1
   repeat' first
   | (with_reducible exact ih0 _ _ _ _ _ _)
   | (with_reducible exact ih1 _ _ _ _ _ _)
   | (with_reducible exact spec_l20Rd_pick.mono _ _ _ _)
   | (with_reducible exact LeO.refl _)
   | (with_reducible exact LeO.none _)
   | (with_reducible refine LeO.ite ?_ ?_)
   | (with_reducible refine LeO.bind ?_ (fun _ => ?_))
   | exact ih0 _ _ _ _ _ _
   | exact ih1 _ _ _ _ _ _
   | exact spec_l20Rd_pick.mono _ _ _ _
   | exact LeO.none _
   | refine LeO.ite ?_ ?_
   | refine LeO.bind ?_ (fun _ => ?_)
theorem spec_l20Small.mono : ∀ a0 a1 k, LeO (spec_l20Small.f k a0 a1) (spec_l20Small.f (k + 1) a0 a1) := by
 intro a0 a1 k
 obtain ⟨ih0, ih1⟩ := spec_l20Small.mono_l k
 unfold spec_l20Small.f
 repeat' first
   | (with_reducible exact ih0 _ _ _ _ _ _)
   | (with_reducible exact ih1 _ _ _ _ _ _)
   | (with_reducible exact spec_l20Rd_pick.mono _ _ _ _)
   | (with_reducible exact LeO.refl _)
   | (with_reducible exact LeO.none _)
   | (with_reducible refine LeO.ite ?_ ?_)
   | (with_reducible refine LeO.bind ?_ (fun _ => ?_))
   | exact ih0 _ _ _ _ _ _
   | exact ih1 _ _ _ _ _ _
   | exact spec_l20Rd_pick.mono _ _ _ _
   | exact LeO.none _
   | refine LeO.ite ?_ ?_
   | refine LeO.bind ?_ (fun _ => ?_)
def spec_l20Small.T5 : Bool × List (List Nat × List Nat) := (true, [([], []), ([0], [0]), ([], []), ([], []), ([], []), ([4], [4]), ([3, 5], [3, 5]), ([6], [6]), ([1, 2, 0, 1, 2, 3, 4, 5, 6, 7], [1, 2]), ([8, 7, 5, 0, 1, 2, 3, 4, 5, 6, 7], [7, 8])])
def spec_l20Small.B5 : List Nat := [0, 1, 0, 0, 0, 16, 56, 120, 255, 511]
theorem spec_l20Small.tab5 : rtab .any (opsOf Try.f39 5) = spec_l20Small.T5 := by kernel_rfl
theorem spec_l20Small.bits5 : waitsOk spec_l20Small.T5.2 spec_l20Small.B5 = true := by kernel_rfl
def spec_l20Small.T9 : Bool × List (List Nat × List Nat) := (true, [([], []), ([0], [0]), ([], []), ([], []), ([], []), ([4], [4]), ([3, 5], [3, 5]), ([6], [6]), ([1, 2, 0, 1, 2, 3, 4, 5, 6, 7], [1, 2]), ([8, 7, 5, 0, 1, 2, 3, 4, 5, 6, 7], [7, 8])])
def spec_l20Small.B9 : List Nat := [0, 1, 0, 0, 0, 16, 56, 120, 255, 511]
theorem spec_l20Small.tab9 : rtab .any (opsOf Try.f39 9) = spec_l20Small.T9 := by kernel_rfl
theorem spec_l20Small.bits9 : waitsOk spec_l20Small.T9.2 spec_l20Small.B9 = true := by kernel_rfl
set_option maxHeartbeats 8000000 in
set_option maxRecDepth 100000 in
theorem spec_l20Small.calls (k : Nat) (g : Nat) (s0_0 : List Int) (s0_1 : Int) (r1 : List Int) (r2 : List Int) (r3 : Int) (r4 : Int) (w0 w : World) (hI : IsS59 w0 w g s0_0 s0_1) (hB : Below w0.heap.size w0 w) (h : spec_l20Small.f k s0_0 s0_1 = some (r1, r2, r3, r4)) :
  Calls Try.prog 39 #[.pointer (some ⟨g, 0, none⟩)] w fun e w' => ∃ v0_ v1_ : Value, e = .returned (.agg #[v0_, v1_, .int .i64 r3]) ∧ Kd.R (Kd.int .i64) 3 w' w.heap.size (fun k_ => some k_ ≠ (v1_ : Value).ownBlock) v0_ r1 ∧ Kd.R (Kd.int .i64) 3 w' w.heap.size (fun k_ => some k_ ≠ (v0_ : Value).ownBlock) v1_ r2 ∧ IsS59 w0 w' g s0_0 r4 ∧ Below w0.heap.size w0 w' ∧ KeepBut w w' g none := by
 have hu25 := Try.underlying25
 have HI0 := Aside0.mk hI
 have IHI0 : Nonempty _ := ⟨IsS59.ge hI⟩
 have HK := Aside0.mk (KeepBut.refl w g none)
 have HL := Aside0.mk hB.size
 clear hI
 have HW0 := Aside0.mk hB.size
 have HB := Aside0.mk hB
 clear hB
 have H : ((spec_FrmZero.f).bind fun bt115 => (spec_l20Small.l0 k 0 s0_0 s0_1 bt115.1 bt115.2.1 bt115.2.2)) = some (r1, r2, r3, r4) := h
 clear h
 replace H := Option.bind_eq_some_iff.mp H
 obtain ⟨⟨t115, t118, t121⟩, A20, H⟩ := H
 replace H : (spec_l20Small.l0 k 0 s0_0 s0_1 t115 t118 t121) = some (r1, r2, r3, r4) := H
 have A2 := Aside0.mk A20
 clear A20
 have H' := Aside0.mk H
 clear H
 go_enter Try.func39, Try.ntmps39
 go_wp2_with (first | ((with_reducible refine gate_dst (N := 2) rfl ?_); refine box_event ?hg (N := 2) ?hd (cs := #[.slice none 0 0, .slice none 0 0, .int .i64 0]) (t := 25) ?hr ?_; (case hd => rfl); (case hg => rfl); (case hr => first | (go_simp; done) | (go_simp; rfl)); intro gb114 hg w3 hbox hb; replace HB := Aside0.mk (below_step (by exact jB HB.out) hb); have BK114 := Aside0.mk (hbox); have GW114 := Aside0.mk ((by rw [hg]; exact (keep_size (w := w) (g := g) (row := none) (by exact jK HK.out)) : w.heap.size ≤ gb114)); have IGW114 : Nonempty _ := ⟨GW114.out⟩; have GE114 := Aside0.mk ((Nat.le_trans HW0.out (by rw [hg]; exact (keep_size (w := w) (g := g) (row := none) (by exact jK HK.out)) : w.heap.size ≤ gb114) : w0.heap.size ≤ gb114)); have IGE114 : Nonempty _ := ⟨GE114.out⟩; replace HK := Aside0.mk (KeepBut.trans (by exact jK HK.out) (KeepBut.of_below hb g none) (.inl rfl)); have NB0_114 := Aside0.mk ((by rw [hg]; exact Nat.ne_of_lt (IsS59.lt (show IsS59 w0 _ g s0_0 s0_1 from by exact IsS59.j HI0.out)) : g ≠ gb114)); have INB0_114 : Nonempty _ := ⟨NB0_114.out⟩; have NB114_0 := Aside0.mk ((by rw [hg]; exact Nat.ne_of_gt (IsS59.lt (show IsS59 w0 _ g s0_0 s0_1 from by exact IsS59.j HI0.out)) : gb114 ≠ g)); have INB114_0 : Nonempty _ := ⟨NB114_0.out⟩; replace HI0 := Aside0.mk (IsS59.below (by exact IsS59.j HI0.out) hb); clear hb hbox hg) | ((with_reducible refine gate_callee (f := 37) rfl ?_); refine goesL_ (some 6) rfl rfl Try.func37 (by kernel_rfl) rfl #[] rfl (by (try simp only [mA, mC, mN]); first | done | rfl | (simp only [ld, lt]; rfl)) ?_; (with_reducible refine (spec_FrmZero.calls  t115 t118 t121 _ A2.out).mono ?_); rintro e w4 ⟨v116, v119, rfl, ho0, ho1, hb⟩; refine ⟨_, rfl, ?_⟩; have HO117 := Aside0.mk (Kd.R_lower ho0 (keep_size (w := w) (g := g) (row := none) (by exact jK HK.out))); have HO120 := Aside0.mk (Kd.R_lower ho1 (keep_size (w := w) (g := g) (row := none) (by exact jK HK.out))); replace HI0 := Aside0.mk (IsS59.below (by exact IsS59.j HI0.out) hb); replace BK114 := Aside0.mk (bb BK114.out hb); replace HK := Aside0.mk (KeepBut.trans (by exact jK HK.out) (KeepBut.of_below hb g none) (.inl rfl)); replace HB := Aside0.mk (below_step (by exact jB HB.out) hb); (try clear hb); (try clear hb2); (try clear hk); (try clear hi); (try clear ho0); (try clear ho1)) | ((with_reducible refine gate_dst (N := 3) rfl ?_); refine box_event ?hg (N := 3) ?hd (cs := #[.slice none 0 0, .slice none 0 0, .int .i64 0]) (t := 25) ?hr ?_; (case hd => rfl); (case hg => rfl); (case hr => first | (go_simp; done) | (go_simp; rfl)); intro gb122 hg w5 hbox hb; replace HO117 := Aside0.mk (rb HO117.out hb); replace HO120 := Aside0.mk (rb HO120.out hb); replace HB := Aside0.mk (below_step (by exact jB HB.out) hb); have BK122 := Aside0.mk (hbox); have GW122 := Aside0.mk ((by rw [hg]; exact (keep_size (w := w) (g := g) (row := none) (by exact jK HK.out)) : w.heap.size ≤ gb122)); have IGW122 : Nonempty _ := ⟨GW122.out⟩; have GE122 := Aside0.mk ((Nat.le_trans HW0.out (by rw [hg]; exact (keep_size (w := w) (g := g) (row := none) (by exact jK HK.out)) : w.heap.size ≤ gb122) : w0.heap.size ≤ gb122)); have IGE122 : Nonempty _ := ⟨GE122.out⟩; replace HK := Aside0.mk (KeepBut.trans (by exact jK HK.out) (KeepBut.of_below hb g none) (.inl rfl)); have NB114_122 := Aside0.mk ((neL hg (lK BK114.out) : gb114 ≠ gb122)); have INB114_122 : Nonempty _ := ⟨NB114_122.out⟩; have NB122_114 := Aside0.mk ((neG hg (lK BK114.out) : gb122 ≠ gb114)); have INB122_114 : Nonempty _ := ⟨NB122_114.out⟩; replace BK114 := Aside0.mk (bb BK114.out hb); have NB0_122 := Aside0.mk ((by rw [hg]; exact Nat.ne_of_lt (IsS59.lt (show IsS59 w0 _ g s0_0 s0_1 from by exact IsS59.j HI0.out)) : g ≠ gb122)); have INB0_122 : Nonempty _ := ⟨NB0_122.out⟩; have NB122_0 := Aside0.mk ((by rw [hg]; exact Nat.ne_of_gt (IsS59.lt (show IsS59 w0 _ g s0_0 s0_1 from by exact IsS59.j HI0.out)) : gb122 ≠ g)); have INB122_0 : Nonempty _ := ⟨NB122_0.out⟩; replace HI0 := Aside0.mk (IsS59.below (by exact IsS59.j HI0.out) hb); clear hb hbox hg; obtain ⟨Ao6, co6, eo6⟩ := Kd.R_slice HO117.out; subst eo6; have hnb7 := NB122_114.out; have hnc7 := NB114_122.out; have hnb8 := NB122_0.out; have hnc8 := NB0_122.out; obtain ⟨hcz9_0, hcz9_1, hcz9_2, hfz9_0, hfz9_1, hfz9_2⟩ := cf3 BK122.out; obtain ⟨Ao10, co10, eo10⟩ := Kd.R_slice HO120.out; subst eo10))
 go_loopg [4] k (fun kq v4 w' => ∃ (x4_1 : Int) (x1001_1 : Int) (x123000_1 : List Int) (x123001_1 : List Int) (u123000 : Value) (u123001 : Value), v4 = .int .i64 x4_1 ∧ Aside0 (spec_l20Small.l0 kq x4_1 s0_0 x1001_1 x123000_1 x123001_1 t121 = some (r1, r2, r3, r4)) ∧ Aside0 (kq ≤ k) ∧ Aside0 (Kd.R (Kd.int .i64) 3 w' w.heap.size (fun k_ => some k_ ≠ (u123001 : Value).ownBlock) u123000 x123000_1) ∧ Aside0 (Kd.R (Kd.int .i64) 3 w' w.heap.size (fun k_ => some k_ ≠ (u123000 : Value).ownBlock) u123001 x123001_1) ∧ Aside0 (w'.heap[gb114]? = some (.cells #[(.slice none 0 0), (.slice none 0 0), .int .i64 0] 25 (0, 0))) ∧ Aside0 (w'.heap[gb122]? = some (.cells #[u123000, u123001, .int .i64 t121] 25 (0, 0))) ∧ Aside0 (IsS59 w0 w' g s0_0 x1001_1) ∧ Aside0 (KeepBut w w' g none) ∧ Aside0 (Below w0.heap.size w0 w'))
 case atStart => exact ⟨(0), (s0_1), (t115), (t118), (.slice Ao6 t115.length co6), (.slice Ao10 t118.length co10), (by first | rfl | (simp; done) | (simp [*]; done)), H', ⟨Nat.le_refl _⟩, ⟨by (with_reducible repeat (first | apply ra | apply rn | apply re)); exact R3 HO117.out BK122.out⟩, ⟨by (with_reducible repeat (first | apply ra | apply rn | apply re)); exact R3 HO120.out BK122.out⟩, ⟨by (with_reducible repeat first | refine kN ?_ _ | refine kD ?_ | refine kA ?_ _); refine blk_far ?_ NB114_122.out _; (with_reducible repeat first | refine kN ?_ _ | refine kD ?_ | refine kA ?_ _); refine blk_far ?_ NB114_122.out _; (with_reducible repeat first | refine kN ?_ _ | refine kD ?_ | refine kA ?_ _); refine blk_far ?_ NB114_122.out _; exact lK <| BK114.out⟩, ⟨by (with_reducible repeat first | refine kN ?_ _ | refine kD ?_ | refine kA ?_ _); refine blk_put (cs := #[.slice Ao6 t115.length co6, .slice Ao10 t118.length co10, .int .i64 0]) ?_ 2 _ rfl; (with_reducible repeat first | refine kN ?_ _ | refine kD ?_ | refine kA ?_ _); refine blk_put (cs := #[.slice Ao6 t115.length co6, .slice none 0 0, .int .i64 0]) ?_ 1 _ rfl; (with_reducible repeat first | refine kN ?_ _ | refine kD ?_ | refine kA ?_ _); refine blk_put (cs := #[.slice none 0 0, .slice none 0 0, .int .i64 0]) ?_ 0 _ rfl; exact lK <| BK122.out⟩, ⟨by exact IsS59.j HI0.out⟩, ⟨by exact jK HK.out⟩, ⟨by exact jB HB.out⟩⟩
 case round =>
  clear H'
  try clear p2
  try clear c3
  try clear c7
  try clear c8
  try clear hcz9_0
  try clear hcz9_1
  try clear hcz9_2
  try clear hfz9_0
  try clear hfz9_1
  try clear hfz9_2
  obtain ⟨x4_1, x1001_1, x123000_1, x123001_1, u123000, u123001, rfl, HA, HK1, HO_123000, HO_123001, BK114, BK122, HI0, HK, HB⟩ := hrel
  cases gk with
  | zero => exact absurd HA.out (by simp [spec_l20Small.l0])
  | succ k1 =>
   have H := HA.out
   clear HA
   simp only [spec_l20Small.l0] at H
   by_cases c11 : x4_1 < 3
   ·rw [if_pos c11] at H
    have c11b0 : decide (x4_1 < 3) = true := decide_eq_true c11
    clear c11
    obtain ⟨y123, hy123⟩ : ∃ y_ : List Int, y_ = (([0, 0, 0, 1, (-1), 2] : List Int)) := ⟨_, rfl⟩
    replace H : ((spec_l20Rd_pick.f k1 s0_0 x1001_1 6).bind fun bt126 => (if 0 ≤ bt126.1 then (if bt126.1 < (y123.length : Int) then (if 0 ≤ x4_1 then (if x4_1 < (x123000_1.length : Int) then (spec_l20Small.l0 k1 (wrap64 (x4_1 + 1)) s0_0 bt126.2 (x123000_1.set (x4_1 : Int).toNat (rd y123 bt126.1)) x123001_1 t121) else (none)) else (none)) else (none)) else (none))) = some (r1, r2, r3, r4) := by first | (rw [hy123]; with_reducible exact H) | (have H2_ := (Option.bind_some _ _).symm.trans H; rw [hy123]; with_reducible exact H2_) | (have H2_ := (Option.bind_some _ _).symm.trans H; with_reducible exact H2_) | with_reducible exact H | (rw [hy123]; exact H) | exact H
    have Ny123 := Aside0.mk hy123
    clear hy123
    replace H := Option.bind_eq_some_iff.mp H
    obtain ⟨⟨t126, t127⟩, A120, H⟩ := H
    replace H : (if 0 ≤ t126 then (if t126 < (y123.length : Int) then (if 0 ≤ x4_1 then (if x4_1 < (x123000_1.length : Int) then (spec_l20Small.l0 k1 (wrap64 (x4_1 + 1)) s0_0 t127 (x123000_1.set (x4_1 : Int).toNat (rd y123 t126)) x123001_1 t121) else (none)) else (none)) else (none)) else (none)) = some (r1, r2, r3, r4) := H
    have A12 := Aside0.mk A120
    clear A120
    by_cases c13 : 0 ≤ t126
    ·rw [if_pos c13] at H
     have c13b0 : decide (0 ≤ t126) = true := decide_eq_true c13
     clear c13
     by_cases c14 : t126 < (y123.length : Int)
     ·rw [if_pos c14] at H
      have c14b0 : decide (t126 < (y123.length : Int)) = true := decide_eq_true c14
      clear c14
      by_cases c15 : 0 ≤ x4_1
      ·rw [if_pos c15] at H
       have c15b0 : decide (0 ≤ x4_1) = true := decide_eq_true c15
       clear c15
       by_cases c16 : x4_1 < (x123000_1.length : Int)
       ·rw [if_pos c16] at H
        have c16b0 : decide (x4_1 < (x123000_1.length : Int)) = true := decide_eq_true c16
        clear c16
        obtain ⟨y129, hy129⟩ : ∃ y_ : List Int, y_ = (x123000_1.set (x4_1 : Int).toNat (rd y123 t126)) := ⟨_, rfl⟩
        replace H : (spec_l20Small.l0 k1 (wrap64 (x4_1 + 1)) s0_0 t127 y129 x123001_1 t121) = some (r1, r2, r3, r4) := by first | (rw [hy129]; with_reducible exact H) | (have H2_ := (Option.bind_some _ _).symm.trans H; rw [hy129]; with_reducible exact H2_) | (have H2_ := (Option.bind_some _ _).symm.trans H; with_reducible exact H2_) | with_reducible exact H | (rw [hy129]; exact H) | exact H
        have Ny129 := Aside0.mk hy129
        clear hy129
        have H' := Aside0.mk H
        clear H
        try go_wp2
        have pi128 : (0 ≤ (t126 : Int)) = True := eq_true (of_decide_eq_true (by first | (with_reducible assumption) | assumption))
        have qi128 : (t126 < (y123.length : Int)) = True := eq_true (of_decide_eq_true (by first | (with_reducible assumption) | assumption))
        replace HO_123000 := Aside0.mk (Kd.R_drew HO_123000.out)
        replace HO_123001 := Aside0.mk (Kd.R_drew HO_123001.out)
        replace BK114 := Aside0.mk (blk_drew BK114.out)
        replace BK122 := Aside0.mk (blk_drew BK122.out)
        replace HI0 := Aside0.mk (IsS59.drew HI0.out)
        replace HK := Aside0.mk (keep_drew HK.out)
        replace HB := Aside0.mk (below_drew1 HB.out)
        refine start_ (n := 10) (S := fun w' => w'.cell? ⟨gb122, 0, none⟩ = some (u123000) ∧ w'.cell? ⟨gb122, 1, none⟩ = some (u123001) ∧ w'.cell? ⟨gb122, 2, none⟩ = some (.int .i64 t121)) (ds := [9]) #[false, false, false, false, false, false, false, false, false, false] (by kernel_rfl) rfl rfl ⟨(blk_cell BK122.out 0).trans rfl, (blk_cell BK122.out 1).trans rfl, (blk_cell BK122.out 2).trans rfl⟩ (fun hHeld => ?_); refine with_tabW spec_l20Small.tab5 spec_l20Small.bits5 (fun HT_ HW_ => ?_)
        generalize wr.drew = w18 at HO_123000 HO_123001 BK114 BK122 HI0 HK HB hHeld ⊢
        refine pure_ (i := 0) (N := some 11) (v := ?_) (a' := ?_) #[true, false, false, false, false, false, false, false, false, false] rfl rfl (any_of HT_.out (by kernel_rfl)) (fun _ _ _ h => h) (Or.inl ⟨by rfl, ?_⟩) ?_ ?_
        rotate_left
        ·intro w'
         go_simp
         with_reducible rfl
        rotate_left
        ·simp only [Act.put, sA, s0, sS, i64_w, i32_w]
         rfl
        refine pure_ (i := 2) (N := some 13) (v := ?_) (a' := ?_) #[true, false, true, false, false, false, false, false, false, false] rfl rfl (any_of HT_.out (by kernel_rfl)) (fun _ _ _ h => h) (Or.inl ⟨by rfl, ?_⟩) ?_ ?_
        rotate_left
        ·intro w'
         go_simp
         with_reducible rfl
        rotate_left
        ·simp only [Act.put, sA, s0, sS, i64_w, i32_w]
         rfl
        refine pure_ (i := 4) (N := some 15) (v := ?_) (a' := ?_) #[true, false, true, false, true, false, false, false, false, false] rfl rfl (any_of HT_.out (by kernel_rfl)) (fun _ _ _ h => h) (Or.inl ⟨by rfl, ?_⟩) ?_ ?_
        rotate_left
        ·intro w'
         go_simp
         with_reducible rfl
        rotate_left
        ·simp only [Act.put, sA, s0, sS, i64_w, i32_w]
         rfl
        refine take_ (i := 1) (N := some 12) (v := ?_) (a' := ?_) #[true, true, true, false, true, false, false, false, false, false] rfl rfl (take_ofW HT_.out HW_.out (by kernel_rfl)) (fun _ _ _ h => h) (Or.inl ⟨by rfl, ?_⟩) hHeld ?_ ?_
        rotate_left
        ·rintro w' ⟨s0, s1, s2⟩
         go_simp
         with_reducible rfl
        rotate_left
        ·simp only [Act.put, sA, s0, sS, i64_w, i32_w]
         rfl
        refine join_ (σ := Value × Addr) 4 #[true, true, true, true, true, true, false, false, false, false] (fun s_ => [(14, s_.1), (16, .int .i64 t126)]) (fun s_ w' => (w'.cell? ⟨gb122, 0, none⟩ = some (u123000) ∧ w'.cell? ⟨gb122, 1, none⟩ = some (u123001) ∧ w'.cell? ⟨gb122, 2, none⟩ = some (.int .i64 t121)) ∧ (Kd.R (Kd.int .i64) 3 w' w.heap.size (fun k_ => some k_ ≠ (u123000 : Value).ownBlock ∧ some k_ ≠ (u123001 : Value).ownBlock) s_.1 y123) ∧ (Kd.R (Kd.int .i64) 3 w' w.heap.size (fun k_ => some k_ ≠ (s_.1 : Value).ownBlock ∧ some k_ ≠ (u123001 : Value).ownBlock) u123000 x123000_1) ∧ (Kd.R (Kd.int .i64) 3 w' w.heap.size (fun k_ => some k_ ≠ (s_.1 : Value).ownBlock ∧ some k_ ≠ (u123000 : Value).ownBlock) u123001 x123001_1) ∧ (∃ c_, (s_.1 : Value) = .slice (some s_.2) y123.length c_) ∧ (w'.heap[gb114]? = some (.cells #[.slice none 0 0, .slice none 0 0, .int .i64 0] 25 (0, 0))) ∧ (w'.heap[gb122]? = some (.cells #[u123000, u123001, .int .i64 t121] 25 (0, 0))) ∧ (IsS59 w0 w' g s0_0 t127) ∧ (KeepBut w w' g none) ∧ (Below w0.heap.size w0 w')) ?_ ?_
        rotate_left
        ·intro hCont
         refine two_ (i := 3) (j := 5) (Ni := some 14) (Nj := some 16) #[true, true, true, true, true, false, false, false, false, false] #[true, true, true, false, true, true, false, false, false, false] rfl rfl rfl rfl (two_of HT_.out (by kernel_rfl)) (by decide) (by decide) (fun K hK => ?_) (fun K hK => ?_)
         ·skip
          refine Kd.R_lit_step (Kd.int .i64) _ 3 ?hg (N := 14) ?hd (xs := ([0, 0, 0, 1, (-1), 2] : List Int)) (inner := [.int .i64 0, .int .i64 0, .int .i64 0, .int .i64 1, .int .i64 (-1), .int .i64 2]) (ok := fun _ => True) (okp := fun _ => True) ?hr ?hp (fun _ hk => hk) trivial (Below.refl _ _) (Nat.le_refl _) (by simp) ?_; (case hd => rfl); (case hg => rfl); (case hr => first | (go_simp; done) | (go_simp; rfl)); (case hp => exact (Reps.one (show Kd.M (Kd.int .i64) _ _ _ 0 [.int .i64 0] from rfl) (Reps.one (show Kd.M (Kd.int .i64) _ _ _ 0 [.int .i64 0] from rfl) (Reps.one (show Kd.M (Kd.int .i64) _ _ _ 0 [.int .i64 0] from rfl) (Reps.one (show Kd.M (Kd.int .i64) _ _ _ 1 [.int .i64 1] from rfl) (Reps.one (show Kd.M (Kd.int .i64) _ _ _ (-1) [.int .i64 (-1)] from rfl) (Reps.one (show Kd.M (Kd.int .i64) _ _ _ 2 [.int .i64 2] from rfl) (Reps.none _ _))))))))
          intro v124 w19 ho20 hb hg_ hnew_
          clear hg_ hnew_
          (first | rw [← Ny123.out] at ho20 | (simp only [Int.reduceToNat] at ho20; rw [← Ny123.out] at ho20))
          have HO125 := Aside0.mk (Kd.R_lower (Kd.R_new' (Kd.R_new' ho20 (rl HO_123000.out)) (rl HO_123001.out)) (keep_size (w := w) (g := g) (row := none) (by exact jK HK.out)))
          replace HO_123000 := Aside0.mk (Kd.R_elder' (by exact lR HO_123000.out) (Kd.R_base ho20) hb)
          replace HO_123001 := Aside0.mk (Kd.R_elder' (by exact lR HO_123001.out) (Kd.R_base ho20) hb)
          replace BK114 := Aside0.mk (bb BK114.out hb)
          replace BK122 := Aside0.mk (bb BK122.out hb)
          replace HI0 := Aside0.mk (IsS59.below (by exact IsS59.j HI0.out) hb)
          replace HK := Aside0.mk (KeepBut.trans (by exact jK HK.out) (KeepBut.of_below hb g none) (.inl rfl))
          replace HB := Aside0.mk (below_step (by exact jB HB.out) hb)
          clear hb ho20
          obtain ⟨Ao21, co21, eo21⟩ := Kd.R_slice HO125.out
          subst eo21
          obtain ⟨ado21, fo21, _⟩ := Kd.at_int (Kd.R_reads' HO125.out).2.2 0 (by decide) (by rw [Ny123.out]; simp)
          cases fo21
          refine hK.out _ _ ⟨(blk_cell BK122.out 0).trans rfl, (blk_cell BK122.out 1).trans rfl, (blk_cell BK122.out 2).trans rfl⟩ (fun hHeld => ?_)
          clear hK K
          refine norm_ (a' := ?_) ?_ ?_
          rotate_left
          ·show Act.put _ (some 14) _ = _
           simp only [Act.put, sA, s0, sS, i64_w, i32_w]
           rfl
          refine one_ (i := 5) (N := some 16) #[true, true, true, true, true, true, false, false, false, false] rfl rfl (one_of HT_.out (by kernel_rfl)) (by decide) (fun K hK => ?_)
          refine goes_ Try.func22 (by kernel_rfl) rfl #[.pointer (some ⟨g, 0, none⟩), .int .i64 6] (by rfl) rfl rfl (by (try simp only [mA, mC, mN]); first | done | rfl | (simp only [ld, lt]; rfl)) ?_
          with_reducible refine (spec_l20Rd_pick.calls k1 g s0_0 x1001_1 6 t126 t127 w0 _ ?side1 ?side2 A12.out).mono ?_
          (case side1 => exact IsS59.j HI0.out)
          (case side2 => exact jB HB.out)
          rintro e w22 ⟨rfl, hi, hb, hk⟩
          refine ⟨_, rfl, ?_⟩
          replace HO_123000 := Aside0.mk (IsS59.kp (f1 := x1001_1) (by exact IsS59.j HI0.out) (lR HO_123000.out) hk)
          replace HO_123001 := Aside0.mk (IsS59.kp (f1 := x1001_1) (by exact IsS59.j HI0.out) (lR HO_123001.out) hk)
          replace BK114 := Aside0.mk (kb hk BK114.out NB114_0.out)
          replace BK122 := Aside0.mk (kb hk BK122.out NB122_0.out)
          replace HO125 := Aside0.mk (IsS59.kp (f1 := x1001_1) (by exact IsS59.j HI0.out) (lR HO125.out) hk)
          replace HK := Aside0.mk (KeepBut.trans (by exact jK HK.out) hk (.inl rfl))
          replace HB := Aside0.mk (hb)
          replace HI0 := Aside0.mk (hi)
          (try clear hb)
          (try clear hb2)
          (try clear hk)
          (try clear hi)
          refine hK.out _ _ ⟨(blk_cell BK122.out 0).trans rfl, (blk_cell BK122.out 1).trans rfl, (blk_cell BK122.out 2).trans rfl⟩ (fun hHeld => ?_)
          clear hK K
          refine norm_ (a' := ?_) ?_ ?_
          rotate_left
          ·show Act.put _ (some 16) _ = _
           simp only [Act.put, sA, s0, sS, i64_w, i32_w]
           rfl
          exact norm_ (by simp only [putAll, Act.put, List.setIfInBounds_toArray, List.set_cons_zero, List.set_cons_succ]) (hCont (.slice (some ado21) y123.length co21, ado21) _ ⟨hHeld, (by exact lR <| Kd.R_mono HO125.out (fun _ hk => ⟨hk.1.2, hk.2⟩)), (by exact lR <| Kd.R_mono HO_123000.out (fun _ hk => ⟨hk.2, hk.1⟩)), (by exact lR <| Kd.R_mono HO_123001.out (fun _ hk => ⟨hk.2, hk.1⟩)), ⟨_, rfl⟩, (by exact lK BK114.out), (by exact lK BK122.out), (by exact IsS59.j HI0.out), (by exact jK HK.out), (by exact jB HB.out)⟩)
         ·skip
          refine goes_ Try.func22 (by kernel_rfl) rfl #[.pointer (some ⟨g, 0, none⟩), .int .i64 6] (by rfl) rfl rfl (by (try simp only [mA, mC, mN]); first | done | rfl | (simp only [ld, lt]; rfl)) ?_
          with_reducible refine (spec_l20Rd_pick.calls k1 g s0_0 x1001_1 6 t126 t127 w0 _ ?side1 ?side2 A12.out).mono ?_
          (case side1 => exact IsS59.j HI0.out)
          (case side2 => exact jB HB.out)
          rintro e w19 ⟨rfl, hi, hb, hk⟩
          refine ⟨_, rfl, ?_⟩
          replace HO_123000 := Aside0.mk (IsS59.kp (f1 := x1001_1) (by exact IsS59.j HI0.out) (lR HO_123000.out) hk)
          replace HO_123001 := Aside0.mk (IsS59.kp (f1 := x1001_1) (by exact IsS59.j HI0.out) (lR HO_123001.out) hk)
          replace BK114 := Aside0.mk (kb hk BK114.out NB114_0.out)
          replace BK122 := Aside0.mk (kb hk BK122.out NB122_0.out)
          replace HK := Aside0.mk (KeepBut.trans (by exact jK HK.out) hk (.inl rfl))
          replace HB := Aside0.mk (hb)
          replace HI0 := Aside0.mk (hi)
          (try clear hb)
          (try clear hb2)
          (try clear hk)
          (try clear hi)
          refine hK.out _ _ ⟨(blk_cell BK122.out 0).trans rfl, (blk_cell BK122.out 1).trans rfl, (blk_cell BK122.out 2).trans rfl⟩ (fun hHeld => ?_)
          clear hK K
          refine norm_ (a' := ?_) ?_ ?_
          rotate_left
          ·show Act.put _ (some 16) _ = _
           simp only [Act.put, sA, s0, sS, i64_w, i32_w]
           rfl
          refine one_ (i := 3) (N := some 14) #[true, true, true, true, true, true, false, false, false, false] rfl rfl (one_of HT_.out (by kernel_rfl)) (by decide) (fun K hK => ?_)
          refine Kd.R_lit_step (Kd.int .i64) _ 3 ?hg (N := 14) ?hd (xs := ([0, 0, 0, 1, (-1), 2] : List Int)) (inner := [.int .i64 0, .int .i64 0, .int .i64 0, .int .i64 1, .int .i64 (-1), .int .i64 2]) (ok := fun _ => True) (okp := fun _ => True) ?hr ?hp (fun _ hk => hk) trivial (Below.refl _ _) (Nat.le_refl _) (by simp) ?_; (case hd => rfl); (case hg => rfl); (case hr => first | (go_simp; done) | (go_simp; rfl)); (case hp => exact (Reps.one (show Kd.M (Kd.int .i64) _ _ _ 0 [.int .i64 0] from rfl) (Reps.one (show Kd.M (Kd.int .i64) _ _ _ 0 [.int .i64 0] from rfl) (Reps.one (show Kd.M (Kd.int .i64) _ _ _ 0 [.int .i64 0] from rfl) (Reps.one (show Kd.M (Kd.int .i64) _ _ _ 1 [.int .i64 1] from rfl) (Reps.one (show Kd.M (Kd.int .i64) _ _ _ (-1) [.int .i64 (-1)] from rfl) (Reps.one (show Kd.M (Kd.int .i64) _ _ _ 2 [.int .i64 2] from rfl) (Reps.none _ _))))))))
          intro v124 w20 ho21 hb hg_ hnew_
          clear hg_ hnew_
          (first | rw [← Ny123.out] at ho21 | (simp only [Int.reduceToNat] at ho21; rw [← Ny123.out] at ho21))
          have HO125 := Aside0.mk (Kd.R_lower (Kd.R_new' (Kd.R_new' ho21 (rl HO_123000.out)) (rl HO_123001.out)) (keep_size (w := w) (g := g) (row := none) (by exact jK HK.out)))
          replace HO_123000 := Aside0.mk (Kd.R_elder' (by exact lR HO_123000.out) (Kd.R_base ho21) hb)
          replace HO_123001 := Aside0.mk (Kd.R_elder' (by exact lR HO_123001.out) (Kd.R_base ho21) hb)
          replace BK114 := Aside0.mk (bb BK114.out hb)
          replace BK122 := Aside0.mk (bb BK122.out hb)
          replace HI0 := Aside0.mk (IsS59.below (by exact IsS59.j HI0.out) hb)
          replace HK := Aside0.mk (KeepBut.trans (by exact jK HK.out) (KeepBut.of_below hb g none) (.inl rfl))
          replace HB := Aside0.mk (below_step (by exact jB HB.out) hb)
          clear hb ho21
          obtain ⟨Ao22, co22, eo22⟩ := Kd.R_slice HO125.out
          subst eo22
          obtain ⟨ado22, fo22, _⟩ := Kd.at_int (Kd.R_reads' HO125.out).2.2 0 (by decide) (by rw [Ny123.out]; simp)
          cases fo22
          refine hK.out _ _ ⟨(blk_cell BK122.out 0).trans rfl, (blk_cell BK122.out 1).trans rfl, (blk_cell BK122.out 2).trans rfl⟩ (fun hHeld => ?_)
          clear hK K
          refine norm_ (a' := ?_) ?_ ?_
          rotate_left
          ·show Act.put _ (some 14) _ = _
           simp only [Act.put, sA, s0, sS, i64_w, i32_w]
           rfl
          exact norm_ (by simp only [putAll, Act.put, List.setIfInBounds_toArray, List.set_cons_zero, List.set_cons_succ]) (hCont (.slice (some ado22) y123.length co22, ado22) _ ⟨hHeld, (by exact lR <| Kd.R_mono HO125.out (fun _ hk => ⟨hk.1.2, hk.2⟩)), (by exact lR <| Kd.R_mono HO_123000.out (fun _ hk => ⟨hk.2, hk.1⟩)), (by exact lR <| Kd.R_mono HO_123001.out (fun _ hk => ⟨hk.2, hk.1⟩)), ⟨_, rfl⟩, (by exact lK BK114.out), (by exact lK BK122.out), (by exact IsS59.j HI0.out), (by exact jK HK.out), (by exact jB HB.out)⟩)
        rintro ⟨v124, adz_v124⟩ w23 ⟨hS_, h0_, h1_, h2_, h3_, h4_, h5_, h6_, h7_, h8_⟩
        have HO125 : Aside0 (Kd.R (Kd.int .i64) 3 w23 w.heap.size (fun k_ => some k_ ≠ (u123000 : Value).ownBlock ∧ some k_ ≠ (u123001 : Value).ownBlock) v124 y123) := ⟨h0_⟩
        replace HO_123000 : Aside0 (Kd.R (Kd.int .i64) 3 w23 w.heap.size (fun k_ => some k_ ≠ (v124 : Value).ownBlock ∧ some k_ ≠ (u123001 : Value).ownBlock) u123000 x123000_1) := ⟨h1_⟩
        replace HO_123001 : Aside0 (Kd.R (Kd.int .i64) 3 w23 w.heap.size (fun k_ => some k_ ≠ (v124 : Value).ownBlock ∧ some k_ ≠ (u123000 : Value).ownBlock) u123001 x123001_1) := ⟨h2_⟩
        have HA_HO125 : Aside0 (∃ c_, (v124 : Value) = .slice (some adz_v124) y123.length c_) := ⟨h3_⟩
        replace BK114 : Aside0 (w23.heap[gb114]? = some (.cells #[.slice none 0 0, .slice none 0 0, .int .i64 0] 25 (0, 0))) := ⟨h4_⟩
        replace BK122 : Aside0 (w23.heap[gb122]? = some (.cells #[u123000, u123001, .int .i64 t121] 25 (0, 0))) := ⟨h5_⟩
        replace HI0 : Aside0 (IsS59 w0 w23 g s0_0 t127) := ⟨h6_⟩
        replace HK : Aside0 (KeepBut w w23 g none) := ⟨h7_⟩
        replace HB : Aside0 (Below w0.heap.size w0 w23) := ⟨h8_⟩
        clear h0_ h1_ h2_ h3_ h4_ h5_ h6_ h7_ h8_
        have hHeld : w23.cell? ⟨gb122, 0, none⟩ = some (u123000) ∧ w23.cell? ⟨gb122, 1, none⟩ = some (u123001) ∧ w23.cell? ⟨gb122, 2, none⟩ = some (.int .i64 t121) := hS_
        obtain ⟨co24, eo24⟩ := HA_HO125.out
        clear HA_HO125
        subst eo24
        have p17 : 0 ≤ (x4_1 : Int) := of_decide_eq_true (by first | (with_reducible assumption) | assumption)
        have q17 : (x4_1 : Int) < ((x123000_1.length : Int) : Int) := of_decide_eq_true (by first | (with_reducible assumption) | assumption)
        obtain ⟨go17, co17, eo17, gb17, gl17, cl17, HG17⟩ := Kd.R_form HO_123000.out (by omega)
        (first | cases eo17 | (injection eo17 with ea_ en_ ec_; (first | subst ea_ | (injection ea_ with ea_; subst ea_)); subst ec_; clear en_))
        have GB17 := Aside0.mk gb17
        have IGB17 : Nonempty _ := ⟨GB17.out⟩
        have GG17 := Aside0.mk HG17
        clear gb17 gl17 HG17
        obtain ⟨hx17_0, hf17_0⟩ := Kd.R_celln 0 HO_123000.out (x4_1 : Int) p17 q17
        replace p17 := eq_true p17
        replace q17 := eq_true q17
        have HN0_go17 := Aside0.mk (show g ≠ go17 from by have h_ := IsS59.own_ne HI0.out HO_123000.out (by decide); intro e_; exact h_ (by rw [e_]; rfl))
        have IHN0_go17 : Nonempty _ := ⟨HN0_go17.out⟩
        have HP25 := Kd.R_putn HO_123000.out (x4_1 : Int) (rd y123 t126)
        rw [← Ny129.out] at HP25
        have HQ25 := Aside0.mk HP25
        clear HP25
        refine norm_ (a' := ?_) ?_ ?_
        rotate_left
        ·simp only [putAll, Act.put, List.setIfInBounds_toArray, List.set_cons_zero, List.set_cons_succ]
         rfl
        refine pure_ (i := 6) (N := some 17) (v := ?_) (a' := ?_) #[true, true, true, true, true, true, true, false, false, false] rfl rfl (any_of HT_.out (by kernel_rfl)) (fun _ _ _ h => h) (Or.inl ⟨by rfl, ?_⟩) ?_ ?_
        rotate_left
        ·intro w'
         go_simp
         with_reducible rfl
        rotate_left
        ·simp only [Act.put, sA, s0, sS, i64_w, i32_w]
         rfl
        refine one_ (i := 7) (N := some 18) #[true, true, true, true, true, true, true, true, false, false] rfl rfl (one_of HT_.out (by kernel_rfl)) (by decide) (fun K hK => ?_)
        (have p128 : 0 ≤ (t126 : Int) := of_decide_eq_true (by first | (with_reducible assumption) | assumption); have q128 : t126 < (y123.length : Int) := of_decide_eq_true (by first | (with_reducible assumption) | assumption); obtain ⟨ad128, e128, hx128_0⟩ := Kd.at_int (Kd.R_reads' HO125.out).2.2 t126 p128 q128; obtain rfl : adz_v124 = ad128 := (by injection e128))
        refine value_ (w1 := ?_) (v := ?_) (by rfl) rfl ?_ ?_
        rotate_left 2
        ·go_simp
         constructor
         ·rfl
         ·rfl
        clear hx128_0
        refine hK.out _ _ ⟨(blk_cell BK122.out 0).trans rfl, (blk_cell BK122.out 1).trans rfl, (blk_cell BK122.out 2).trans rfl⟩ (fun hHeld => ?_)
        clear hK K
        refine norm_ (a' := ?_) ?_ ?_
        rotate_left
        ·show Act.put _ (some 18) _ = _
         simp only [Act.put, sA, s0, sS, i64_w, i32_w]
         rfl
        refine pure_ (i := 8) (N := some 19) (v := ?_) (a' := ?_) #[true, true, true, true, true, true, true, true, true, false] rfl rfl (any_of HT_.out (by kernel_rfl)) (fun _ _ _ h => h) (Or.inl ⟨by rfl, ?_⟩) ?_ ?_
        rotate_left
        ·intro w'
         go_simp
         with_reducible rfl
        rotate_left
        ·simp only [Act.put, sA, s0, sS, i64_w, i32_w]
         rfl
        refine last_ (i := 9) (N := none) #[true, true, true, true, true, true, true, true, true, true] rfl rfl (one_of HT_.out (by kernel_rfl)) (by decide) (fun K hK => ?_)
        refine skip_ (w1 := ?_) (by rfl) rfl ?_ ?_
        rotate_left
        ·go_simp
         rfl
        refine hK.out _ _ ?_
        clear hK K
        refine done_ (done_of HT_.out (by kernel_rfl)) ?_
        try go_wp2
        go_roundg k1
        case measure => have := HK1.out; omega
        case rel => exact ⟨(wrap64 (x4_1 + 1)), (t127), (y129), (x123001_1), (.slice (some ⟨go17, 0, none⟩) x123000_1.length co17), (u123001), (by first | rfl | (simp; done) | (simp [*]; done)), H', ⟨by have := HK1.out; omega⟩, ⟨by exact lR <| Kd.R_mono HQ25.out (fun _ hk => hk.2)⟩, ⟨by exact lR <| Kd.R_mono (Kd.R_far (p := ⟨go17, (x4_1 : Int).toNat, none⟩) (Kd.R_mono HO_123001.out (fun k_ hk => (⟨hk, fun e_ => hk.2 (by rw [e_]; rfl)⟩ : _ ∧ k_ ≠ go17))) (fun _ hk => hk.2) (.int .i64 (rd y123 t126))) (fun _ hk => hk.1.2)⟩, ⟨by (with_reducible repeat first | refine kN ?_ _ | refine kD ?_ | refine kA ?_ _); refine blk_far ?_ (by have h_ := Kd.R_ne HO_123000.out BK114.out (by decide); intro e_; exact h_ (by rw [e_]; rfl)) _; exact lK <| BK114.out⟩, ⟨by (with_reducible repeat first | refine kN ?_ _ | refine kD ?_ | refine kA ?_ _); refine blk_far ?_ (by have h_ := Kd.R_ne HO_123000.out BK122.out (by decide); intro e_; exact h_ (by rw [e_]; rfl)) _; exact lK <| BK122.out⟩, ⟨by exact IsS59.j HI0.out⟩, ⟨by exact jK HK.out⟩, ⟨by repeat (first | (with_reducible first | exact HB.out | apply below_alloc | apply pw_below_drewN | apply below_drew1 | refine below_set ?_ (Nat.le_trans HL.out GB17.out) | refine below_set ?_ (IsS59.ge HI0.out) | refine below_set ?_ GE114.out | refine below_set ?_ GE122.out) | exact HB.out)⟩⟩
       ·rw [if_neg c16] at H
        exact absurd H (by simp)
      ·rw [if_neg c15] at H
       exact absurd H (by simp)
     ·rw [if_neg c14] at H
      exact absurd H (by simp)
    ·rw [if_neg c13] at H
     exact absurd H (by simp)
   ·rw [if_neg c11] at H
    have c11b0 : decide (x4_1 < 3) = false := decide_eq_false c11
    clear c11
    have H' := Aside0.mk H
    clear H
    go_wp2
    go_loopg [5] k1 (fun kq v5 w' => ∃ (x5_2 : Int) (x1001_2 : Int) (x123000_2 : List Int) (x123001_2 : List Int) (u123000 : Value) (u123001 : Value), v5 = .int .i64 x5_2 ∧ Aside0 (spec_l20Small.l1 kq x5_2 s0_0 x1001_2 x123000_2 x123001_2 t121 = some (r1, r2, r3, r4)) ∧ Aside0 (kq ≤ k1) ∧ Aside0 (Kd.R (Kd.int .i64) 3 w' w.heap.size (fun k_ => some k_ ≠ (u123001 : Value).ownBlock) u123000 x123000_2) ∧ Aside0 (Kd.R (Kd.int .i64) 3 w' w.heap.size (fun k_ => some k_ ≠ (u123000 : Value).ownBlock) u123001 x123001_2) ∧ Aside0 (w'.heap[gb114]? = some (.cells #[(.slice none 0 0), (.slice none 0 0), .int .i64 0] 25 (0, 0))) ∧ Aside0 (w'.heap[gb122]? = some (.cells #[u123000, u123001, .int .i64 t121] 25 (0, 0))) ∧ Aside0 (IsS59 w0 w' g s0_0 x1001_2) ∧ Aside0 (KeepBut w w' g none) ∧ Aside0 (Below w0.heap.size w0 w'))
    case atStart => exact ⟨(0), (x1001_1), (x123000_1), (x123001_1), (u123000), (u123001), (by first | rfl | (simp; done) | (simp [*]; done)), H', ⟨Nat.le_refl _⟩, ⟨by exact lR <| HO_123000.out⟩, ⟨by exact lR <| HO_123001.out⟩, ⟨by exact lK <| BK114.out⟩, ⟨by exact lK <| BK122.out⟩, ⟨by exact IsS59.j HI0.out⟩, ⟨by exact jK HK.out⟩, ⟨by exact jB HB.out⟩⟩
    case round =>
     clear H'
     try clear c1
     try clear p1
     try clear q1
     try clear hx1
     try clear qi1
     try clear hf1
     try clear c2
     try clear p2
     try clear c3
     try clear p6
     try clear c7
     try clear c8
     try clear c11
     try clear c11b0
     try clear p12
     try clear q12
     try clear hx12
     try clear qi12
     try clear c13
     try clear c13b0
     try clear c14
     try clear c14b0
     try clear c15
     try clear c15b0
     try clear c16
     try clear c16b0
     try clear p17
     try clear q17
     try clear hx17
     try clear hf17
     try clear c22
     try clear hcz9_0
     try clear hcz9_1
     try clear hcz9_2
     try clear hfz9_0
     try clear hfz9_1
     try clear hfz9_2
     try clear hx128_0
     try clear hx17_0
     try clear p128
     try clear p17
     try clear p2
     try clear q128
     try clear q17
     obtain ⟨x5_2, x1001_2, x123000_2, x123001_2, u123000, u123001, rfl, HA, HK2, HO_123000, HO_123001, BK114, BK122, HI0, HK, HB⟩ := hrel
     cases gk with
     | zero => exact absurd HA.out (by simp [spec_l20Small.l1])
     | succ k2 =>
      have H := HA.out
      clear HA
      simp only [spec_l20Small.l1] at H
      by_cases c26 : x5_2 < 2
      ·rw [if_pos c26] at H
       have c26b0 : decide (x5_2 < 2) = true := decide_eq_true c26
       clear c26
       obtain ⟨y130, hy130⟩ : ∃ y_ : List Int, y_ = (([0, 0, 1, (-1), 2] : List Int)) := ⟨_, rfl⟩
       replace H : ((spec_l20Rd_pick.f k2 s0_0 x1001_2 5).bind fun bt133 => (if 0 ≤ bt133.1 then (if bt133.1 < (y130.length : Int) then (if 0 ≤ x5_2 then (if x5_2 < (x123001_2.length : Int) then (spec_l20Small.l1 k2 (wrap64 (x5_2 + 1)) s0_0 bt133.2 x123000_2 (x123001_2.set (x5_2 : Int).toNat (rd y130 bt133.1)) t121) else (none)) else (none)) else (none)) else (none))) = some (r1, r2, r3, r4) := by first | (rw [hy130]; with_reducible exact H) | (have H2_ := (Option.bind_some _ _).symm.trans H; rw [hy130]; with_reducible exact H2_) | (have H2_ := (Option.bind_some _ _).symm.trans H; with_reducible exact H2_) | with_reducible exact H | (rw [hy130]; exact H) | exact H
       have Ny130 := Aside0.mk hy130
       clear hy130
       replace H := Option.bind_eq_some_iff.mp H
       obtain ⟨⟨t133, t134⟩, A270, H⟩ := H
       replace H : (if 0 ≤ t133 then (if t133 < (y130.length : Int) then (if 0 ≤ x5_2 then (if x5_2 < (x123001_2.length : Int) then (spec_l20Small.l1 k2 (wrap64 (x5_2 + 1)) s0_0 t134 x123000_2 (x123001_2.set (x5_2 : Int).toNat (rd y130 t133)) t121) else (none)) else (none)) else (none)) else (none)) = some (r1, r2, r3, r4) := H
       have A27 := Aside0.mk A270
       clear A270
       by_cases c28 : 0 ≤ t133
       ·rw [if_pos c28] at H
        have c28b0 : decide (0 ≤ t133) = true := decide_eq_true c28
        clear c28
        by_cases c29 : t133 < (y130.length : Int)
        ·rw [if_pos c29] at H
         have c29b0 : decide (t133 < (y130.length : Int)) = true := decide_eq_true c29
         clear c29
         by_cases c30 : 0 ≤ x5_2
         ·rw [if_pos c30] at H
          have c30b0 : decide (0 ≤ x5_2) = true := decide_eq_true c30
          clear c30
          by_cases c31 : x5_2 < (x123001_2.length : Int)
          ·rw [if_pos c31] at H
           have c31b0 : decide (x5_2 < (x123001_2.length : Int)) = true := decide_eq_true c31
           clear c31
           obtain ⟨y136, hy136⟩ : ∃ y_ : List Int, y_ = (x123001_2.set (x5_2 : Int).toNat (rd y130 t133)) := ⟨_, rfl⟩
           replace H : (spec_l20Small.l1 k2 (wrap64 (x5_2 + 1)) s0_0 t134 x123000_2 y136 t121) = some (r1, r2, r3, r4) := by first | (rw [hy136]; with_reducible exact H) | (have H2_ := (Option.bind_some _ _).symm.trans H; rw [hy136]; with_reducible exact H2_) | (have H2_ := (Option.bind_some _ _).symm.trans H; with_reducible exact H2_) | with_reducible exact H | (rw [hy136]; exact H) | exact H
           have Ny136 := Aside0.mk hy136
           clear hy136
           have H' := Aside0.mk H
           clear H
           try go_wp2
           have pi135 : (0 ≤ (t133 : Int)) = True := eq_true (of_decide_eq_true (by first | (with_reducible assumption) | assumption))
           have qi135 : (t133 < (y130.length : Int)) = True := eq_true (of_decide_eq_true (by first | (with_reducible assumption) | assumption))
           replace HO_123000 := Aside0.mk (Kd.R_drew HO_123000.out)
           replace HO_123001 := Aside0.mk (Kd.R_drew HO_123001.out)
           replace BK114 := Aside0.mk (blk_drew BK114.out)
           replace BK122 := Aside0.mk (blk_drew BK122.out)
           replace HI0 := Aside0.mk (IsS59.drew HI0.out)
           replace HK := Aside0.mk (keep_drew HK.out)
           replace HB := Aside0.mk (below_drew1 HB.out)
           refine start_ (n := 10) (S := fun w' => w'.cell? ⟨gb122, 0, none⟩ = some (u123000) ∧ w'.cell? ⟨gb122, 1, none⟩ = some (u123001) ∧ w'.cell? ⟨gb122, 2, none⟩ = some (.int .i64 t121)) (ds := [9]) #[false, false, false, false, false, false, false, false, false, false] (by kernel_rfl) rfl rfl ⟨(blk_cell BK122.out 0).trans rfl, (blk_cell BK122.out 1).trans rfl, (blk_cell BK122.out 2).trans rfl⟩ (fun hHeld => ?_); refine with_tabW spec_l20Small.tab9 spec_l20Small.bits9 (fun HT_ HW_ => ?_)
           generalize wr.drew = w33 at HO_123000 HO_123001 BK114 BK122 HI0 HK HB hHeld ⊢
           refine pure_ (i := 0) (N := some 24) (v := ?_) (a' := ?_) #[true, false, false, false, false, false, false, false, false, false] rfl rfl (any_of HT_.out (by kernel_rfl)) (fun _ _ _ h => h) (Or.inl ⟨by rfl, ?_⟩) ?_ ?_
           rotate_left
           ·intro w'
            go_simp
            with_reducible rfl
           rotate_left
           ·simp only [Act.put, sA, s0, sS, i64_w, i32_w]
            rfl
           refine pure_ (i := 2) (N := some 26) (v := ?_) (a' := ?_) #[true, false, true, false, false, false, false, false, false, false] rfl rfl (any_of HT_.out (by kernel_rfl)) (fun _ _ _ h => h) (Or.inl ⟨by rfl, ?_⟩) ?_ ?_
           rotate_left
           ·intro w'
            go_simp
            with_reducible rfl
           rotate_left
           ·simp only [Act.put, sA, s0, sS, i64_w, i32_w]
            rfl
           refine pure_ (i := 4) (N := some 28) (v := ?_) (a' := ?_) #[true, false, true, false, true, false, false, false, false, false] rfl rfl (any_of HT_.out (by kernel_rfl)) (fun _ _ _ h => h) (Or.inl ⟨by rfl, ?_⟩) ?_ ?_
           rotate_left
           ·intro w'
            go_simp
            with_reducible rfl
           rotate_left
           ·simp only [Act.put, sA, s0, sS, i64_w, i32_w]
            rfl
           refine take_ (i := 1) (N := some 25) (v := ?_) (a' := ?_) #[true, true, true, false, true, false, false, false, false, false] rfl rfl (take_ofW HT_.out HW_.out (by kernel_rfl)) (fun _ _ _ h => h) (Or.inl ⟨by rfl, ?_⟩) hHeld ?_ ?_
           rotate_left
           ·rintro w' ⟨s0, s1, s2⟩
            go_simp
            with_reducible rfl
           rotate_left
           ·simp only [Act.put, sA, s0, sS, i64_w, i32_w]
            rfl
           refine join_ (σ := Value × Addr) 4 #[true, true, true, true, true, true, false, false, false, false] (fun s_ => [(27, s_.1), (29, .int .i64 t133)]) (fun s_ w' => (w'.cell? ⟨gb122, 0, none⟩ = some (u123000) ∧ w'.cell? ⟨gb122, 1, none⟩ = some (u123001) ∧ w'.cell? ⟨gb122, 2, none⟩ = some (.int .i64 t121)) ∧ (Kd.R (Kd.int .i64) 3 w' w.heap.size (fun k_ => some k_ ≠ (u123000 : Value).ownBlock ∧ some k_ ≠ (u123001 : Value).ownBlock) s_.1 y130) ∧ (Kd.R (Kd.int .i64) 3 w' w.heap.size (fun k_ => some k_ ≠ (s_.1 : Value).ownBlock ∧ some k_ ≠ (u123001 : Value).ownBlock) u123000 x123000_2) ∧ (Kd.R (Kd.int .i64) 3 w' w.heap.size (fun k_ => some k_ ≠ (s_.1 : Value).ownBlock ∧ some k_ ≠ (u123000 : Value).ownBlock) u123001 x123001_2) ∧ (∃ c_, (s_.1 : Value) = .slice (some s_.2) y130.length c_) ∧ (w'.heap[gb114]? = some (.cells #[.slice none 0 0, .slice none 0 0, .int .i64 0] 25 (0, 0))) ∧ (w'.heap[gb122]? = some (.cells #[u123000, u123001, .int .i64 t121] 25 (0, 0))) ∧ (IsS59 w0 w' g s0_0 t134) ∧ (KeepBut w w' g none) ∧ (Below w0.heap.size w0 w')) ?_ ?_
           rotate_left
           ·intro hCont
            refine two_ (i := 3) (j := 5) (Ni := some 27) (Nj := some 29) #[true, true, true, true, true, false, false, false, false, false] #[true, true, true, false, true, true, false, false, false, false] rfl rfl rfl rfl (two_of HT_.out (by kernel_rfl)) (by decide) (by decide) (fun K hK => ?_) (fun K hK => ?_)
            ·skip
             refine Kd.R_lit_step (Kd.int .i64) _ 3 ?hg (N := 27) ?hd (xs := ([0, 0, 1, (-1), 2] : List Int)) (inner := [.int .i64 0, .int .i64 0, .int .i64 1, .int .i64 (-1), .int .i64 2]) (ok := fun _ => True) (okp := fun _ => True) ?hr ?hp (fun _ hk => hk) trivial (Below.refl _ _) (Nat.le_refl _) (by simp) ?_; (case hd => rfl); (case hg => rfl); (case hr => first | (go_simp; done) | (go_simp; rfl)); (case hp => exact (Reps.one (show Kd.M (Kd.int .i64) _ _ _ 0 [.int .i64 0] from rfl) (Reps.one (show Kd.M (Kd.int .i64) _ _ _ 0 [.int .i64 0] from rfl) (Reps.one (show Kd.M (Kd.int .i64) _ _ _ 1 [.int .i64 1] from rfl) (Reps.one (show Kd.M (Kd.int .i64) _ _ _ (-1) [.int .i64 (-1)] from rfl) (Reps.one (show Kd.M (Kd.int .i64) _ _ _ 2 [.int .i64 2] from rfl) (Reps.none _ _)))))))
             intro v131 w34 ho35 hb hg_ hnew_
             clear hg_ hnew_
             (first | rw [← Ny130.out] at ho35 | (simp only [Int.reduceToNat] at ho35; rw [← Ny130.out] at ho35))
             have HO132 := Aside0.mk (Kd.R_lower (Kd.R_new' (Kd.R_new' ho35 (rl HO_123000.out)) (rl HO_123001.out)) (keep_size (w := w) (g := g) (row := none) (by exact jK HK.out)))
             replace HO_123000 := Aside0.mk (Kd.R_elder' (by exact lR HO_123000.out) (Kd.R_base ho35) hb)
             replace HO_123001 := Aside0.mk (Kd.R_elder' (by exact lR HO_123001.out) (Kd.R_base ho35) hb)
             replace BK114 := Aside0.mk (bb BK114.out hb)
             replace BK122 := Aside0.mk (bb BK122.out hb)
             replace HI0 := Aside0.mk (IsS59.below (by exact IsS59.j HI0.out) hb)
             replace HK := Aside0.mk (KeepBut.trans (by exact jK HK.out) (KeepBut.of_below hb g none) (.inl rfl))
             replace HB := Aside0.mk (below_step (by exact jB HB.out) hb)
             clear hb ho35
             obtain ⟨Ao36, co36, eo36⟩ := Kd.R_slice HO132.out
             subst eo36
             obtain ⟨ado36, fo36, _⟩ := Kd.at_int (Kd.R_reads' HO132.out).2.2 0 (by decide) (by rw [Ny130.out]; simp)
             cases fo36
             refine hK.out _ _ ⟨(blk_cell BK122.out 0).trans rfl, (blk_cell BK122.out 1).trans rfl, (blk_cell BK122.out 2).trans rfl⟩ (fun hHeld => ?_)
             clear hK K
             refine norm_ (a' := ?_) ?_ ?_
             rotate_left
             ·show Act.put _ (some 27) _ = _
              simp only [Act.put, sA, s0, sS, i64_w, i32_w]
              rfl
             refine one_ (i := 5) (N := some 29) #[true, true, true, true, true, true, false, false, false, false] rfl rfl (one_of HT_.out (by kernel_rfl)) (by decide) (fun K hK => ?_)
             refine goes_ Try.func22 (by kernel_rfl) rfl #[.pointer (some ⟨g, 0, none⟩), .int .i64 5] (by rfl) rfl rfl (by (try simp only [mA, mC, mN]); first | done | rfl | (simp only [ld, lt]; rfl)) ?_
             with_reducible refine (spec_l20Rd_pick.calls k2 g s0_0 x1001_2 5 t133 t134 w0 _ ?side1 ?side2 A27.out).mono ?_
             (case side1 => exact IsS59.j HI0.out)
             (case side2 => exact jB HB.out)
             rintro e w37 ⟨rfl, hi, hb, hk⟩
             refine ⟨_, rfl, ?_⟩
             replace HO_123000 := Aside0.mk (IsS59.kp (f1 := x1001_2) (by exact IsS59.j HI0.out) (lR HO_123000.out) hk)
             replace HO_123001 := Aside0.mk (IsS59.kp (f1 := x1001_2) (by exact IsS59.j HI0.out) (lR HO_123001.out) hk)
             replace BK114 := Aside0.mk (kb hk BK114.out NB114_0.out)
             replace BK122 := Aside0.mk (kb hk BK122.out NB122_0.out)
             replace HO132 := Aside0.mk (IsS59.kp (f1 := x1001_2) (by exact IsS59.j HI0.out) (lR HO132.out) hk)
             replace HK := Aside0.mk (KeepBut.trans (by exact jK HK.out) hk (.inl rfl))
             replace HB := Aside0.mk (hb)
             replace HI0 := Aside0.mk (hi)
             (try clear hb)
             (try clear hb2)
             (try clear hk)
             (try clear hi)
             refine hK.out _ _ ⟨(blk_cell BK122.out 0).trans rfl, (blk_cell BK122.out 1).trans rfl, (blk_cell BK122.out 2).trans rfl⟩ (fun hHeld => ?_)
             clear hK K
             refine norm_ (a' := ?_) ?_ ?_
             rotate_left
             ·show Act.put _ (some 29) _ = _
              simp only [Act.put, sA, s0, sS, i64_w, i32_w]
              rfl
             exact norm_ (by simp only [putAll, Act.put, List.setIfInBounds_toArray, List.set_cons_zero, List.set_cons_succ]) (hCont (.slice (some ado36) y130.length co36, ado36) _ ⟨hHeld, (by exact lR <| Kd.R_mono HO132.out (fun _ hk => ⟨hk.1.2, hk.2⟩)), (by exact lR <| Kd.R_mono HO_123000.out (fun _ hk => ⟨hk.2, hk.1⟩)), (by exact lR <| Kd.R_mono HO_123001.out (fun _ hk => ⟨hk.2, hk.1⟩)), ⟨_, rfl⟩, (by exact lK BK114.out), (by exact lK BK122.out), (by exact IsS59.j HI0.out), (by exact jK HK.out), (by exact jB HB.out)⟩)
            ·skip
             refine goes_ Try.func22 (by kernel_rfl) rfl #[.pointer (some ⟨g, 0, none⟩), .int .i64 5] (by rfl) rfl rfl (by (try simp only [mA, mC, mN]); first | done | rfl | (simp only [ld, lt]; rfl)) ?_
             with_reducible refine (spec_l20Rd_pick.calls k2 g s0_0 x1001_2 5 t133 t134 w0 _ ?side1 ?side2 A27.out).mono ?_
             (case side1 => exact IsS59.j HI0.out)
             (case side2 => exact jB HB.out)
             rintro e w34 ⟨rfl, hi, hb, hk⟩
             refine ⟨_, rfl, ?_⟩
             replace HO_123000 := Aside0.mk (IsS59.kp (f1 := x1001_2) (by exact IsS59.j HI0.out) (lR HO_123000.out) hk)
             replace HO_123001 := Aside0.mk (IsS59.kp (f1 := x1001_2) (by exact IsS59.j HI0.out) (lR HO_123001.out) hk)
             replace BK114 := Aside0.mk (kb hk BK114.out NB114_0.out)
             replace BK122 := Aside0.mk (kb hk BK122.out NB122_0.out)
             replace HK := Aside0.mk (KeepBut.trans (by exact jK HK.out) hk (.inl rfl))
             replace HB := Aside0.mk (hb)
             replace HI0 := Aside0.mk (hi)
             (try clear hb)
             (try clear hb2)
             (try clear hk)
             (try clear hi)
             refine hK.out _ _ ⟨(blk_cell BK122.out 0).trans rfl, (blk_cell BK122.out 1).trans rfl, (blk_cell BK122.out 2).trans rfl⟩ (fun hHeld => ?_)
             clear hK K
             refine norm_ (a' := ?_) ?_ ?_
             rotate_left
             ·show Act.put _ (some 29) _ = _
              simp only [Act.put, sA, s0, sS, i64_w, i32_w]
              rfl
             refine one_ (i := 3) (N := some 27) #[true, true, true, true, true, true, false, false, false, false] rfl rfl (one_of HT_.out (by kernel_rfl)) (by decide) (fun K hK => ?_)
             refine Kd.R_lit_step (Kd.int .i64) _ 3 ?hg (N := 27) ?hd (xs := ([0, 0, 1, (-1), 2] : List Int)) (inner := [.int .i64 0, .int .i64 0, .int .i64 1, .int .i64 (-1), .int .i64 2]) (ok := fun _ => True) (okp := fun _ => True) ?hr ?hp (fun _ hk => hk) trivial (Below.refl _ _) (Nat.le_refl _) (by simp) ?_; (case hd => rfl); (case hg => rfl); (case hr => first | (go_simp; done) | (go_simp; rfl)); (case hp => exact (Reps.one (show Kd.M (Kd.int .i64) _ _ _ 0 [.int .i64 0] from rfl) (Reps.one (show Kd.M (Kd.int .i64) _ _ _ 0 [.int .i64 0] from rfl) (Reps.one (show Kd.M (Kd.int .i64) _ _ _ 1 [.int .i64 1] from rfl) (Reps.one (show Kd.M (Kd.int .i64) _ _ _ (-1) [.int .i64 (-1)] from rfl) (Reps.one (show Kd.M (Kd.int .i64) _ _ _ 2 [.int .i64 2] from rfl) (Reps.none _ _)))))))
             intro v131 w35 ho36 hb hg_ hnew_
             clear hg_ hnew_
             (first | rw [← Ny130.out] at ho36 | (simp only [Int.reduceToNat] at ho36; rw [← Ny130.out] at ho36))
             have HO132 := Aside0.mk (Kd.R_lower (Kd.R_new' (Kd.R_new' ho36 (rl HO_123000.out)) (rl HO_123001.out)) (keep_size (w := w) (g := g) (row := none) (by exact jK HK.out)))
             replace HO_123000 := Aside0.mk (Kd.R_elder' (by exact lR HO_123000.out) (Kd.R_base ho36) hb)
             replace HO_123001 := Aside0.mk (Kd.R_elder' (by exact lR HO_123001.out) (Kd.R_base ho36) hb)
             replace BK114 := Aside0.mk (bb BK114.out hb)
             replace BK122 := Aside0.mk (bb BK122.out hb)
             replace HI0 := Aside0.mk (IsS59.below (by exact IsS59.j HI0.out) hb)
             replace HK := Aside0.mk (KeepBut.trans (by exact jK HK.out) (KeepBut.of_below hb g none) (.inl rfl))
             replace HB := Aside0.mk (below_step (by exact jB HB.out) hb)
             clear hb ho36
             obtain ⟨Ao37, co37, eo37⟩ := Kd.R_slice HO132.out
             subst eo37
             obtain ⟨ado37, fo37, _⟩ := Kd.at_int (Kd.R_reads' HO132.out).2.2 0 (by decide) (by rw [Ny130.out]; simp)
             cases fo37
             refine hK.out _ _ ⟨(blk_cell BK122.out 0).trans rfl, (blk_cell BK122.out 1).trans rfl, (blk_cell BK122.out 2).trans rfl⟩ (fun hHeld => ?_)
             clear hK K
             refine norm_ (a' := ?_) ?_ ?_
             rotate_left
             ·show Act.put _ (some 27) _ = _
              simp only [Act.put, sA, s0, sS, i64_w, i32_w]
              rfl
             exact norm_ (by simp only [putAll, Act.put, List.setIfInBounds_toArray, List.set_cons_zero, List.set_cons_succ]) (hCont (.slice (some ado37) y130.length co37, ado37) _ ⟨hHeld, (by exact lR <| Kd.R_mono HO132.out (fun _ hk => ⟨hk.1.2, hk.2⟩)), (by exact lR <| Kd.R_mono HO_123000.out (fun _ hk => ⟨hk.2, hk.1⟩)), (by exact lR <| Kd.R_mono HO_123001.out (fun _ hk => ⟨hk.2, hk.1⟩)), ⟨_, rfl⟩, (by exact lK BK114.out), (by exact lK BK122.out), (by exact IsS59.j HI0.out), (by exact jK HK.out), (by exact jB HB.out)⟩)
           rintro ⟨v131, adz_v131⟩ w38 ⟨hS_, h0_, h1_, h2_, h3_, h4_, h5_, h6_, h7_, h8_⟩
           have HO132 : Aside0 (Kd.R (Kd.int .i64) 3 w38 w.heap.size (fun k_ => some k_ ≠ (u123000 : Value).ownBlock ∧ some k_ ≠ (u123001 : Value).ownBlock) v131 y130) := ⟨h0_⟩
           replace HO_123000 : Aside0 (Kd.R (Kd.int .i64) 3 w38 w.heap.size (fun k_ => some k_ ≠ (v131 : Value).ownBlock ∧ some k_ ≠ (u123001 : Value).ownBlock) u123000 x123000_2) := ⟨h1_⟩
           replace HO_123001 : Aside0 (Kd.R (Kd.int .i64) 3 w38 w.heap.size (fun k_ => some k_ ≠ (v131 : Value).ownBlock ∧ some k_ ≠ (u123000 : Value).ownBlock) u123001 x123001_2) := ⟨h2_⟩
           have HA_HO132 : Aside0 (∃ c_, (v131 : Value) = .slice (some adz_v131) y130.length c_) := ⟨h3_⟩
           replace BK114 : Aside0 (w38.heap[gb114]? = some (.cells #[.slice none 0 0, .slice none 0 0, .int .i64 0] 25 (0, 0))) := ⟨h4_⟩
           replace BK122 : Aside0 (w38.heap[gb122]? = some (.cells #[u123000, u123001, .int .i64 t121] 25 (0, 0))) := ⟨h5_⟩
           replace HI0 : Aside0 (IsS59 w0 w38 g s0_0 t134) := ⟨h6_⟩
           replace HK : Aside0 (KeepBut w w38 g none) := ⟨h7_⟩
           replace HB : Aside0 (Below w0.heap.size w0 w38) := ⟨h8_⟩
           clear h0_ h1_ h2_ h3_ h4_ h5_ h6_ h7_ h8_
           have hHeld : w38.cell? ⟨gb122, 0, none⟩ = some (u123000) ∧ w38.cell? ⟨gb122, 1, none⟩ = some (u123001) ∧ w38.cell? ⟨gb122, 2, none⟩ = some (.int .i64 t121) := hS_
           obtain ⟨co39, eo39⟩ := HA_HO132.out
           clear HA_HO132
           subst eo39
           have p32 : 0 ≤ (x5_2 : Int) := of_decide_eq_true (by first | (with_reducible assumption) | assumption)
           have q32 : (x5_2 : Int) < ((x123001_2.length : Int) : Int) := of_decide_eq_true (by first | (with_reducible assumption) | assumption)
           obtain ⟨go32, co32, eo32, gb32, gl32, cl32, HG32⟩ := Kd.R_form HO_123001.out (by omega)
           (first | cases eo32 | (injection eo32 with ea_ en_ ec_; (first | subst ea_ | (injection ea_ with ea_; subst ea_)); subst ec_; clear en_))
           have GB32 := Aside0.mk gb32
           have IGB32 : Nonempty _ := ⟨GB32.out⟩
           have GG32 := Aside0.mk HG32
           clear gb32 gl32 HG32
           obtain ⟨hx32_0, hf32_0⟩ := Kd.R_celln 0 HO_123001.out (x5_2 : Int) p32 q32
           replace p32 := eq_true p32
           replace q32 := eq_true q32
           have HN0_go32 := Aside0.mk (show g ≠ go32 from by have h_ := IsS59.own_ne HI0.out HO_123001.out (by decide); intro e_; exact h_ (by rw [e_]; rfl))
           have IHN0_go32 : Nonempty _ := ⟨HN0_go32.out⟩
           have HP40 := Kd.R_putn HO_123001.out (x5_2 : Int) (rd y130 t133)
           rw [← Ny136.out] at HP40
           have HQ40 := Aside0.mk HP40
           clear HP40
           refine norm_ (a' := ?_) ?_ ?_
           rotate_left
           ·simp only [putAll, Act.put, List.setIfInBounds_toArray, List.set_cons_zero, List.set_cons_succ]
            rfl
           refine pure_ (i := 6) (N := some 30) (v := ?_) (a' := ?_) #[true, true, true, true, true, true, true, false, false, false] rfl rfl (any_of HT_.out (by kernel_rfl)) (fun _ _ _ h => h) (Or.inl ⟨by rfl, ?_⟩) ?_ ?_
           rotate_left
           ·intro w'
            go_simp
            with_reducible rfl
           rotate_left
           ·simp only [Act.put, sA, s0, sS, i64_w, i32_w]
            rfl
           refine one_ (i := 7) (N := some 31) #[true, true, true, true, true, true, true, true, false, false] rfl rfl (one_of HT_.out (by kernel_rfl)) (by decide) (fun K hK => ?_)
           (have p135 : 0 ≤ (t133 : Int) := of_decide_eq_true (by first | (with_reducible assumption) | assumption); have q135 : t133 < (y130.length : Int) := of_decide_eq_true (by first | (with_reducible assumption) | assumption); obtain ⟨ad135, e135, hx135_0⟩ := Kd.at_int (Kd.R_reads' HO132.out).2.2 t133 p135 q135; obtain rfl : adz_v131 = ad135 := (by injection e135))
           refine value_ (w1 := ?_) (v := ?_) (by rfl) rfl ?_ ?_
           rotate_left 2
           ·go_simp
            constructor
            ·rfl
            ·rfl
           clear hx135_0
           refine hK.out _ _ ⟨(blk_cell BK122.out 0).trans rfl, (blk_cell BK122.out 1).trans rfl, (blk_cell BK122.out 2).trans rfl⟩ (fun hHeld => ?_)
           clear hK K
           refine norm_ (a' := ?_) ?_ ?_
           rotate_left
           ·show Act.put _ (some 31) _ = _
            simp only [Act.put, sA, s0, sS, i64_w, i32_w]
            rfl
           refine pure_ (i := 8) (N := some 32) (v := ?_) (a' := ?_) #[true, true, true, true, true, true, true, true, true, false] rfl rfl (any_of HT_.out (by kernel_rfl)) (fun _ _ _ h => h) (Or.inl ⟨by rfl, ?_⟩) ?_ ?_
           rotate_left
           ·intro w'
            go_simp
            with_reducible rfl
           rotate_left
           ·simp only [Act.put, sA, s0, sS, i64_w, i32_w]
            rfl
           refine last_ (i := 9) (N := none) #[true, true, true, true, true, true, true, true, true, true] rfl rfl (one_of HT_.out (by kernel_rfl)) (by decide) (fun K hK => ?_)
           refine skip_ (w1 := ?_) (by rfl) rfl ?_ ?_
           rotate_left
           ·go_simp
            rfl
           refine hK.out _ _ ?_
           clear hK K
           refine done_ (done_of HT_.out (by kernel_rfl)) ?_
           try go_wp2
           go_roundg k2
           case measure => have := HK1.out; have := HK2.out; omega
           case rel => exact ⟨(wrap64 (x5_2 + 1)), (t134), (x123000_2), (y136), (u123000), (.slice (some ⟨go32, 0, none⟩) x123001_2.length co32), (by first | rfl | (simp; done) | (simp [*]; done)), H', ⟨by have := HK1.out; have := HK2.out; omega⟩, ⟨by exact lR <| Kd.R_mono (Kd.R_far (p := ⟨go32, (x5_2 : Int).toNat, none⟩) (Kd.R_mono HO_123000.out (fun k_ hk => (⟨hk, fun e_ => hk.2 (by rw [e_]; rfl)⟩ : _ ∧ k_ ≠ go32))) (fun _ hk => hk.2) (.int .i64 (rd y130 t133))) (fun _ hk => hk.1.2)⟩, ⟨by exact lR <| Kd.R_mono HQ40.out (fun _ hk => hk.2)⟩, ⟨by (with_reducible repeat first | refine kN ?_ _ | refine kD ?_ | refine kA ?_ _); refine blk_far ?_ (by have h_ := Kd.R_ne HO_123001.out BK114.out (by decide); intro e_; exact h_ (by rw [e_]; rfl)) _; exact lK <| BK114.out⟩, ⟨by (with_reducible repeat first | refine kN ?_ _ | refine kD ?_ | refine kA ?_ _); refine blk_far ?_ (by have h_ := Kd.R_ne HO_123001.out BK122.out (by decide); intro e_; exact h_ (by rw [e_]; rfl)) _; exact lK <| BK122.out⟩, ⟨by exact IsS59.j HI0.out⟩, ⟨by exact jK HK.out⟩, ⟨by repeat (first | (with_reducible first | exact HB.out | apply below_alloc | apply pw_below_drewN | apply below_drew1 | refine below_set ?_ (Nat.le_trans HL.out GB32.out) | refine below_set ?_ (IsS59.ge HI0.out) | refine below_set ?_ GE114.out | refine below_set ?_ GE122.out) | exact HB.out)⟩⟩
          ·rw [if_neg c31] at H
           exact absurd H (by simp)
         ·rw [if_neg c30] at H
          exact absurd H (by simp)
        ·rw [if_neg c29] at H
         exact absurd H (by simp)
       ·rw [if_neg c28] at H
        exact absurd H (by simp)
      ·rw [if_neg c26] at H
       have c26b0 : decide (x5_2 < 2) = false := decide_eq_false c26
       clear c26
       obtain ⟨y137, hy137⟩ : ∃ y_ : List Int, y_ = (([0, 0, 1, (-1), 5, (-5), 20, (-20)] : List Int)) := ⟨_, rfl⟩
       replace H : ((spec_l20Rd_pick.f k2 s0_0 x1001_2 8).bind fun bt140 => (if 0 ≤ bt140.1 then (if bt140.1 < (y137.length : Int) then (some (x123000_2, x123001_2, rd y137 bt140.1, bt140.2)) else (none)) else (none))) = some (r1, r2, r3, r4) := by first | (rw [hy137]; with_reducible exact H) | (have H2_ := (Option.bind_some _ _).symm.trans H; rw [hy137]; with_reducible exact H2_) | (have H2_ := (Option.bind_some _ _).symm.trans H; with_reducible exact H2_) | with_reducible exact H | (rw [hy137]; exact H) | exact H
       have Ny137 := Aside0.mk hy137
       clear hy137
       replace H := Option.bind_eq_some_iff.mp H
       obtain ⟨⟨t140, t141⟩, A410, H⟩ := H
       replace H : (if 0 ≤ t140 then (if t140 < (y137.length : Int) then (some (x123000_2, x123001_2, rd y137 t140, t141)) else (none)) else (none)) = some (r1, r2, r3, r4) := H
       have A41 := Aside0.mk A410
       clear A410
       by_cases c42 : 0 ≤ t140
       ·rw [if_pos c42] at H
        have c42b0 : decide (0 ≤ t140) = true := decide_eq_true c42
        clear c42
        by_cases c43 : t140 < (y137.length : Int)
        ·rw [if_pos c43] at H
         have c43b0 : decide (t140 < (y137.length : Int)) = true := decide_eq_true c43
         clear c43
         simp only [Option.some.injEq, Prod.mk.injEq] at H
         obtain ⟨rfl, rfl, rfl, rfl⟩ := H
         go_wp2_with (first | ((with_reducible refine gate_dst (N := 33) rfl ?_); refine Kd.R_lit (Kd.int .i64) _ 3 ?hg (N := 33) ?hd (xs := ([0, 0, 1, (-1), 5, (-5), 20, (-20)] : List Int)) (inner := [.int .i64 0, .int .i64 0, .int .i64 1, .int .i64 (-1), .int .i64 5, .int .i64 (-5), .int .i64 20, .int .i64 (-20)]) (ok := fun _ => True) (okp := fun _ => True) ?hr ?hp (fun _ hk => hk) trivial (Below.refl _ _) (Nat.le_refl _) (by simp) ?_; (case hd => rfl); (case hg => rfl); (case hr => first | (go_simp; done) | (go_simp; rfl)); (case hp => exact (Reps.one (show Kd.M (Kd.int .i64) _ _ _ 0 [.int .i64 0] from rfl) (Reps.one (show Kd.M (Kd.int .i64) _ _ _ 0 [.int .i64 0] from rfl) (Reps.one (show Kd.M (Kd.int .i64) _ _ _ 1 [.int .i64 1] from rfl) (Reps.one (show Kd.M (Kd.int .i64) _ _ _ (-1) [.int .i64 (-1)] from rfl) (Reps.one (show Kd.M (Kd.int .i64) _ _ _ 5 [.int .i64 5] from rfl) (Reps.one (show Kd.M (Kd.int .i64) _ _ _ (-5) [.int .i64 (-5)] from rfl) (Reps.one (show Kd.M (Kd.int .i64) _ _ _ 20 [.int .i64 20] from rfl) (Reps.one (show Kd.M (Kd.int .i64) _ _ _ (-20) [.int .i64 (-20)] from rfl) (Reps.none _ _)))))))))); intro v138 w44 ho45 hb hg_ hnew_; clear hg_ hnew_; (first | rw [← Ny137.out] at ho45 | (simp only [Int.reduceToNat] at ho45; rw [← Ny137.out] at ho45)); have HO139 := Aside0.mk (Kd.R_lower (Kd.R_new' (Kd.R_new' ho45 (rl HO_123000.out)) (rl HO_123001.out)) (keep_size (w := w) (g := g) (row := none) (by exact jK HK.out))); replace HO_123000 := Aside0.mk (Kd.R_elder' (by exact lR HO_123000.out) (Kd.R_base ho45) hb); replace HO_123001 := Aside0.mk (Kd.R_elder' (by exact lR HO_123001.out) (Kd.R_base ho45) hb); replace BK114 := Aside0.mk (bb BK114.out hb); replace BK122 := Aside0.mk (bb BK122.out hb); replace HI0 := Aside0.mk (IsS59.below (by exact IsS59.j HI0.out) hb); replace HK := Aside0.mk (KeepBut.trans (by exact jK HK.out) (KeepBut.of_below hb g none) (.inl rfl)); replace HB := Aside0.mk (below_step (by exact jB HB.out) hb); clear hb ho45) | ((with_reducible refine gate_callee (f := 22) rfl ?_); refine goesL_ (some 35) rfl rfl Try.func22 (by kernel_rfl) rfl #[.pointer (some ⟨g, 0, none⟩), .int .i64 8] rfl (by (try simp only [mA, mC, mN]); first | done | rfl | (simp only [ld, lt]; rfl)) ?_; (with_reducible refine (spec_l20Rd_pick.calls k2 g s0_0 x1001_2 8 t140 t141 w0 _ ?side1 ?side2 A41.out).mono ?_); (case side1 => exact IsS59.j HI0.out); (case side2 => exact jB HB.out); rintro e w46 ⟨rfl, hi, hb, hk⟩; refine ⟨_, rfl, ?_⟩; replace HO_123000 := Aside0.mk (IsS59.kp (f1 := x1001_2) (by exact IsS59.j HI0.out) (lR HO_123000.out) hk); replace HO_123001 := Aside0.mk (IsS59.kp (f1 := x1001_2) (by exact IsS59.j HI0.out) (lR HO_123001.out) hk); replace BK114 := Aside0.mk (kb hk BK114.out NB114_0.out); replace BK122 := Aside0.mk (kb hk BK122.out NB122_0.out); replace HO139 := Aside0.mk (IsS59.kp (f1 := x1001_2) (by exact IsS59.j HI0.out) (lR HO139.out) hk); replace HK := Aside0.mk (KeepBut.trans (by exact jK HK.out) hk (.inl rfl)); replace HB := Aside0.mk (hb); replace HI0 := Aside0.mk (hi); (try clear hb); (try clear hb2); (try clear hk); (try clear hi); obtain ⟨Ao47, co47, eo47⟩ := Kd.R_slice HO139.out; subst eo47; have p142 : 0 ≤ (t140 : Int) := of_decide_eq_true (by first | (with_reducible assumption) | assumption); have q142 : t140 < (y137.length : Int) := of_decide_eq_true (by first | (with_reducible assumption) | assumption); obtain ⟨ad142, e142, hx142_0⟩ := Kd.at_int (Kd.R_reads' HO139.out).2.2 t140 p142 q142; cases e142; replace p142 := eq_true p142; replace q142 := eq_true q142; have hnb48 := NB122_114.out; have hnc48 := NB114_122.out; have hnb49 := NB122_0.out; have hnc49 := NB0_122.out; obtain ⟨hcz50_0, hcz50_1, hcz50_2, hfz50_0, hfz50_1, hfz50_2⟩ := cf3 BK122.out; obtain ⟨Ao51, co51, eo51⟩ := Kd.R_slice HO_123000.out; subst eo51; have hnb52 := NB114_0.out; have hnc52 := NB0_114.out; obtain ⟨hcz53_0, hcz53_1, hcz53_2, hfz53_0, hfz53_1, hfz53_2⟩ := cf3 BK114.out; obtain ⟨Ao54, co54, eo54⟩ := Kd.R_slice HO_123001.out; subst eo54))
         refine bodyPost_ret (results_cell_row rfl _ _ gb114 25 #[.slice Ao51 x123000_2.length co51, .slice Ao54 x123001_2.length co54, .int .i64 (rd y137 t140)] (0, 0) _ rfl (by (with_reducible repeat first | refine kN ?_ _ | refine kD ?_ | refine kA ?_ _); refine blk_put (cs := #[.slice Ao51 x123000_2.length co51, .slice Ao54 x123001_2.length co54, .int .i64 0]) ?_ 2 _ rfl; (with_reducible repeat first | refine kN ?_ _ | refine kD ?_ | refine kA ?_ _); refine blk_put (cs := #[.slice Ao51 x123000_2.length co51, .slice none 0 0, .int .i64 0]) ?_ 1 _ rfl; (with_reducible repeat first | refine kN ?_ _ | refine kD ?_ | refine kA ?_ _); refine blk_put (cs := #[.slice none 0 0, .slice none 0 0, .int .i64 0]) ?_ 0 _ rfl; (with_reducible repeat first | refine kN ?_ _ | refine kD ?_ | refine kA ?_ _); refine blk_far ?_ NB114_122.out _; exact lK BK114.out) Try.underlying25 rfl (by kernel_rfl)) rfl ?_
         exact ⟨_, _, by first | rfl | (simp [errW_none, errW_some] <;> rfl) | (simp [*, errW_none, errW_some] <;> rfl), by exact lR <| Kd.R_mono (Kd.R_far (p := ⟨gb114, 2, none⟩) (Kd.R_far (p := ⟨gb114, 1, none⟩) (Kd.R_far (p := ⟨gb114, 0, none⟩) (Kd.R_far (p := ⟨gb122, 2, none⟩) (Kd.R_types (Kd.R_types HO_123000.out BK122.out (by decide)) BK114.out (by decide)) (fun _ hk => by first | exact hk.1.2 | exact fun e_ => hk.1.2 (e_.trans (ob _ _ _ _))) (.int .i64 (rd y137 t140))) (fun _ hk => by first | exact hk.2 | exact fun e_ => hk.2 (e_.trans (ob _ _ _ _))) (.slice Ao51 x123000_2.length co51)) (fun _ hk => by first | exact hk.2 | exact fun e_ => hk.2 (e_.trans (ob _ _ _ _))) (.slice Ao54 x123001_2.length co54)) (fun _ hk => by first | exact hk.2 | exact fun e_ => hk.2 (e_.trans (ob _ _ _ _))) (.int .i64 (rd y137 t140))) (fun _ hk => by first | exact hk.1.1.1 | exact fun e_ => hk.1.1.1 (e_.trans (ob _ _ _ _))), by exact lR <| Kd.R_mono (Kd.R_far (p := ⟨gb114, 2, none⟩) (Kd.R_far (p := ⟨gb114, 1, none⟩) (Kd.R_far (p := ⟨gb114, 0, none⟩) (Kd.R_far (p := ⟨gb122, 2, none⟩) (Kd.R_types (Kd.R_types HO_123001.out BK122.out (by decide)) BK114.out (by decide)) (fun _ hk => by first | exact hk.1.2 | exact fun e_ => hk.1.2 (e_.trans (ob _ _ _ _))) (.int .i64 (rd y137 t140))) (fun _ hk => by first | exact hk.2 | exact fun e_ => hk.2 (e_.trans (ob _ _ _ _))) (.slice Ao51 x123000_2.length co51)) (fun _ hk => by first | exact hk.2 | exact fun e_ => hk.2 (e_.trans (ob _ _ _ _))) (.slice Ao54 x123001_2.length co54)) (fun _ hk => by first | exact hk.2 | exact fun e_ => hk.2 (e_.trans (ob _ _ _ _))) (.int .i64 (rd y137 t140))) (fun _ hk => by first | exact hk.1.1.1 | exact fun e_ => hk.1.1.1 (e_.trans (ob _ _ _ _))), by exact IsS59.j HI0.out, by exact jB HB.out, by exact jK HK.out⟩
        ·rw [if_neg c43] at H
         exact absurd H (by simp)
       ·rw [if_neg c42] at H
        exact absurd H (by simp)

end Go.Proofs.Ytopbdoilpdpkmaa.QFnFrmInto

-- shorter
