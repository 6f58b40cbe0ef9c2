/- Plain functions, and that the Go code computes them: written by a program of this session over the seat's translation; the conditions stand in each theorem. -/
import Derived.Test.YtopbdoilpdpkmaaQFnFrmTimesx0
import Derived.Test.YtopbdoilpdpkmaaQFnFrmTimesx1
import Derived.Test.YtopbdoilpdpkmaaQFnFrmTimesx6
import Derived.Test.YtopbdoilpdpkmaaQFnFrmTimesx7
namespace Go.Proofs.Ytopbdoilpdpkmaa.QFnFrmTimes
open Go.RowKit Go.Proofs.YtopbdoilpdpkmaaW.PrintWords Go.Proofs.YtopbdoilpdpkmaaW.PrintLast Go.Proofs.YtopbdoilpdpkmaaW.PrintMore Go.Proofs.Ytopbdoilpdpkmaa.HWords
attribute [local go_sem] max2_int min2_int max_two min_two max_three min_three max_four min_four   -- for this text's walks alone
set_option linter.unusedVariables false
set_option linter.unusedSimpArgs false

/-! ### spec_FrmTimes: function 16 -/
def spec_FrmTimes.j0 : Nat → Int → Bool → List Int → List Int → Int → Option (List Int × List Int × Int)
 | 0, _, _, _, _, _ => none
 | k + 1, x1, x13, x351000, x351001, x351002 => if x13 = true then (some (([] : List Int), ([] : List Int), 0)) else ((spec_FrmZero.f).bind fun bt354 => ((spec_l1Sum.f k bt354.1 bt354.2.1 bt354.2.2 x351000 x351001 x351002 x1).bind fun bt361 => ((spec_FrmOk.f k bt361.1 bt361.2.1 bt361.2.2).bind fun t369 => (if t369 = true then (some (bt361.1, bt361.2.1, bt361.2.2)) else (some (([] : List Int), ([] : List Int), 0))))))
def spec_FrmTimes.f (k : Nat) (l0_0 : List Int) (l0_1 : List Int) (a0_2 : Int) (a1 : Int) : Option (List Int × List Int × Int) := (spec_FrmOk.f k l0_0 l0_1 a0_2).bind fun t352 => (if t352 = true then ((spec_l1In.f a1 (-10000000) 10000000).bind fun t353 => (spec_FrmTimes.j0 k a1 (!t353) l0_0 l0_1 a0_2)) else (spec_FrmTimes.j0 k a1 true l0_0 l0_1 a0_2))
theorem spec_FrmTimes.mono_l : ∀ k, (∀ y0 y1 y2 y3 y4, LeO (spec_FrmTimes.j0 k y0 y1 y2 y3 y4) (spec_FrmTimes.j0 (k + 1) y0 y1 y2 y3 y4))
 | 0 => fun _ _ _ _ _ r h => by simp [spec_FrmTimes.j0] at h
 | k + 1 => by
  have ih0 := spec_FrmTimes.mono_l k
  ·intro y0 y1 y2 y3 y4
   unfold spec_FrmTimes.j0
   repeat' first
   | (with_reducible exact ih0 _ _ _ _ _)
   | (with_reducible exact spec_FrmOk.mono _ _ _ _)
   | (with_reducible exact spec_l1Sum.mono _ _ _ _ _ _ _ _)
   | (with_reducible exact LeO.refl _)
   | (with_reducible exact LeO.none _)
   | (with_reducible refine LeO.ite ?_ ?_)
   | (with_reducible refine LeO.bind ?_ (fun _ => ?_))
   | exact ih0 _ _ _ _ _
   | exact spec_FrmOk.mono _ _ _ _
   | exact spec_l1Sum.mono _ _ _ _ _ _ _ _
   | exact LeO.none _
   | refine LeO.ite ?_ ?_
   | refine LeO.bind ?_ (fun _ => ?_)
theorem spec_FrmTimes.mono : ∀ a0 a1 a2 a3 k, LeO (spec_FrmTimes.f k a0 a1 a2 a3) (spec_FrmTimes.f (k + 1) a0 a1 a2 a3) := by
 intro a0 a1 a2 a3 k
 have ih0 := spec_FrmTimes.mono_l k
 unfold spec_FrmTimes.f
 repeat' first
   | (with_reducible exact ih0 _ _ _ _ _)
   | (with_reducible exact spec_FrmOk.mono _ _ _ _)
   | (with_reducible exact spec_l1Sum.mono _ _ _ _ _ _ _ _)
   | (with_reducible exact LeO.refl _)
   | (with_reducible exact LeO.none _)
   | (with_reducible refine LeO.ite ?_ ?_)
   | (with_reducible refine LeO.bind ?_ (fun _ => ?_))
   | exact ih0 _ _ _ _ _
   | exact spec_FrmOk.mono _ _ _ _
   | exact spec_l1Sum.mono _ _ _ _ _ _ _ _
   | exact LeO.none _
   | refine LeO.ite ?_ ?_
   | refine LeO.bind ?_ (fun _ => ?_)
set_option maxHeartbeats 8000000 in
set_option maxRecDepth 100000 in
theorem spec_FrmTimes.calls (k : Nat) (A0_0 : Option Addr) (c0_0 : Nat) (l0_0 : List Int) (A0_1 : Option Addr) (c0_1 : Nat) (l0_1 : List Int) (a0_2 : Int) (a1 : Int) (r1 : List Int) (r2 : List Int) (r3 : Int) (w : World) (hr0_0 : Kd.C (Kd.int .i64) w A0_0 l0_0.length l0_0) (hc0_0 : l0_0.length ≤ c0_0) (hr0_1 : Kd.C (Kd.int .i64) w A0_1 l0_1.length l0_1) (hc0_1 : l0_1.length ≤ c0_1) (h : spec_FrmTimes.f k l0_0 l0_1 a0_2 a1 = some (r1, r2, r3)) :
  Calls Try.prog 16 #[.agg #[.slice A0_0 l0_0.length c0_0, .slice A0_1 l0_1.length c0_1, .int .i64 a0_2], .int .i64 a1] w fun e w' => ∃ v0_ v1_ : Value, e = .returned (.agg #[v0_, v1_, .int .i64 r3]) ∧ Kd.R (Kd.int .i64) 3 w' w.heap.size (fun k_ => some k_ ≠ (v1_ : Value).ownBlock) v0_ r1 ∧ Kd.R (Kd.int .i64) 3 w' w.heap.size (fun k_ => some k_ ≠ (v0_ : Value).ownBlock) v1_ r2 ∧ Below w.heap.size w w' := by
 have hu25 := Try.underlying25
 have HR0_0 := Aside0.mk hr0_0
 have HC0_0 := Aside0.mk hc0_0
 clear hr0_0 hc0_0
 have HR0_1 := Aside0.mk hr0_1
 have HC0_1 := Aside0.mk hc0_1
 clear hr0_1 hc0_1
 have HB := Aside0.mk (Below.refl w.heap.size w)
 have H : ((spec_FrmOk.f k l0_0 l0_1 a0_2).bind fun t352 => (if t352 = true then ((spec_l1In.f a1 (-10000000) 10000000).bind fun t353 => (spec_FrmTimes.j0 k a1 (!t353) l0_0 l0_1 a0_2)) else (spec_FrmTimes.j0 k a1 true l0_0 l0_1 a0_2))) = some (r1, r2, r3) := h
 clear h
 have HC3 := Aside0.mk H
 clear H
 go_enter Try.func16, Try.ntmps16
 go_upto_region 1 with (first | ((with_reducible refine gate_dst (N := 2) rfl ?_); refine box_event ?hg (N := 2) ?hd (cs := #[.slice A0_0 l0_0.length c0_0, .slice A0_1 l0_1.length c0_1, .int .i64 a0_2]) (t := 25) ?hr ?_; (case hd => rfl); (case hg => rfl); (case hr => first | (go_simp; done) | (go_simp; rfl)); intro gb350 hg w4 hbox hb; have BK350 := Aside0.mk (hbox); have GW350 := Aside0.mk ((by rw [hg]; exact (below_size (by exact lB HB.out)) : w.heap.size ≤ gb350)); have IGW350 : Nonempty _ := ⟨GW350.out⟩; have GE350 := Aside0.mk ((by rw [hg]; exact (below_size (by exact lB HB.out)) : w.heap.size ≤ gb350)); have IGE350 : Nonempty _ := ⟨GE350.out⟩; replace HB := Aside0.mk (below_step (by exact lB HB.out) hb); clear hb hbox hg) | ((with_reducible refine gate_dst (N := 4) rfl ?_); refine box_event ?hg (N := 4) ?hd (cs := #[.slice none 0 0, .slice none 0 0, .int .i64 0]) (t := 25) ?hr ?_; (case hd => rfl); (case hg => rfl); (case hr => first | (go_simp; done) | (go_simp; rfl)); intro gb351 hg w5 hbox hb; have BK351 := Aside0.mk (hbox); have GW351 := Aside0.mk ((by rw [hg]; exact (below_size (by exact jB HB.out)) : w.heap.size ≤ gb351)); have IGW351 : Nonempty _ := ⟨GW351.out⟩; have GE351 := Aside0.mk ((by rw [hg]; exact (below_size (by exact jB HB.out)) : w.heap.size ≤ gb351)); have IGE351 : Nonempty _ := ⟨GE351.out⟩; replace HB := Aside0.mk (below_step (by exact jB HB.out) hb); have NB350_351 := Aside0.mk ((neL hg (lK BK350.out) : gb350 ≠ gb351)); have INB350_351 : Nonempty _ := ⟨NB350_351.out⟩; have NB351_350 := Aside0.mk ((neG hg (lK BK350.out) : gb351 ≠ gb350)); have INB351_350 : Nonempty _ := ⟨NB351_350.out⟩; replace BK350 := Aside0.mk (bb BK350.out hb); clear hb hbox hg))
 (try simp only [Act.put, sA, s0, sS])
 go_cut [13] (fun v13 wc => ∃ (kq : Nat) (x13_2 : Bool), v13 = .bool x13_2 ∧ Aside0 (spec_FrmTimes.j0 kq a1 x13_2 l0_0 l0_1 a0_2 = some (r1, r2, r3)) ∧ Aside0 (kq ≤ k) ∧ Aside0 (wc.heap[gb350]? = some (.cells #[(.slice A0_0 l0_0.length c0_0), (.slice A0_1 l0_1.length c0_1), .int .i64 a0_2] 25 (0, 0))) ∧ Aside0 (wc.heap[gb351]? = some (.cells #[(.slice none 0 0), (.slice none 0 0), .int .i64 0] 25 (0, 0))) ∧ Aside0 (Below w.heap.size w wc))
 case first =>
  have H := HC3.out
  clear HC3
  replace H := Option.bind_eq_some_iff.mp H
  obtain ⟨t352, A60, H⟩ := H
  replace H : (if t352 = true then ((spec_l1In.f a1 (-10000000) 10000000).bind fun t353 => (spec_FrmTimes.j0 k a1 (!t353) l0_0 l0_1 a0_2)) else (spec_FrmTimes.j0 k a1 true l0_0 l0_1 a0_2)) = some (r1, r2, r3) := H
  have A6 := Aside0.mk A60
  clear A60
  by_cases c7 : t352 = true
  ·subst c7
   have H1 : ((spec_l1In.f a1 (-10000000) 10000000).bind fun t353 => (spec_FrmTimes.j0 k a1 (!t353) l0_0 l0_1 a0_2)) = some (r1, r2, r3) := by rw [if_pos rfl] at H; exact H
   clear H
   have H := H1
   clear H1
   replace H := Option.bind_eq_some_iff.mp H
   obtain ⟨t353, A80, H⟩ := H
   replace H : (spec_FrmTimes.j0 k a1 (!t353) l0_0 l0_1 a0_2) = some (r1, r2, r3) := H
   have A8 := Aside0.mk A80
   clear A80
   have H' := Aside0.mk H
   clear H
   have hnb9 := NB350_351.out
   have hnc9 := NB351_350.out
   obtain ⟨hcz10_0, hcz10_1, hcz10_2, hfz10_0, hfz10_1, hfz10_2⟩ := cf3 BK350.out
   go_wp2_with (first | ((with_reducible refine gate_callee (f := 17) rfl ?_); refine goesL_ (some 7) rfl rfl Try.func17 (by kernel_rfl) rfl #[.agg #[.slice A0_0 l0_0.length c0_0, .slice A0_1 l0_1.length c0_1, .int .i64 a0_2]] rfl (by (try simp only [mA, mC, mN]); first | done | rfl | (simp only [ld, lt]; rfl)) ?_; (with_reducible refine (spec_FrmOk.calls k _ _ l0_0 _ _ l0_1 a0_2 true _ ?side1 ?side2 ?side3 ?side4 A6.out).mono ?_); (case side1 => exact lC <| (Kd.C_below HR0_0.out HB.out)); (case side2 => exact HC0_0.out); (case side3 => exact lC <| (Kd.C_below HR0_1.out HB.out)); (case side4 => exact HC0_1.out); rintro e w11 ⟨rfl, hb⟩; refine ⟨_, rfl, ?_⟩; replace BK350 := Aside0.mk (bb BK350.out hb); replace BK351 := Aside0.mk (bb BK351.out hb); replace HB := Aside0.mk (below_step (by exact jB HB.out) hb); (try clear hb); (try clear hb2); (try clear hk); (try clear hi)) | (go_at_call 36; (with_reducible refine (spec_l1In.calls a1 (-10000000) 10000000 t353 _ A8.out).mono ?_); rintro e w' ⟨rfl, ⟨nd, rfl⟩⟩))
   go_meet
   case rel => exact ⟨_, (!t353), (by first | rfl | (simp; done) | (simp [*]; done)), H', ⟨by first | omega | exact Nat.le_refl _⟩, ⟨by exact lK <| BK350.out⟩, ⟨by exact lK <| BK351.out⟩, ⟨by exact jB HB.out⟩⟩
  ·replace c7 := Bool.eq_false_iff.mpr c7
   subst c7
   have H1 : (spec_FrmTimes.j0 k a1 true l0_0 l0_1 a0_2) = some (r1, r2, r3) := by rw [if_neg (show ¬ (false = true) by decide)] at H; exact H
   clear H
   have H := H1
   clear H1
   have H' := Aside0.mk H
   clear H
   have hnb12 := NB350_351.out
   have hnc12 := NB351_350.out
   obtain ⟨hcz13_0, hcz13_1, hcz13_2, hfz13_0, hfz13_1, hfz13_2⟩ := cf3 BK350.out
   go_wp2_with (first | ((with_reducible refine gate_callee (f := 17) rfl ?_); refine goesL_ (some 7) rfl rfl Try.func17 (by kernel_rfl) rfl #[.agg #[.slice A0_0 l0_0.length c0_0, .slice A0_1 l0_1.length c0_1, .int .i64 a0_2]] rfl (by (try simp only [mA, mC, mN]); first | done | rfl | (simp only [ld, lt]; rfl)) ?_; (with_reducible refine (spec_FrmOk.calls k _ _ l0_0 _ _ l0_1 a0_2 false _ ?side1 ?side2 ?side3 ?side4 A6.out).mono ?_); (case side1 => exact lC <| (Kd.C_below HR0_0.out HB.out)); (case side2 => exact HC0_0.out); (case side3 => exact lC <| (Kd.C_below HR0_1.out HB.out)); (case side4 => exact HC0_1.out); rintro e w14 ⟨rfl, hb⟩; refine ⟨_, rfl, ?_⟩; replace BK350 := Aside0.mk (bb BK350.out hb); replace BK351 := Aside0.mk (bb BK351.out hb); replace HB := Aside0.mk (below_step (by exact jB HB.out) hb); (try clear hb); (try clear hb2); (try clear hk); (try clear hi)))
   go_meet
   case rel => exact ⟨_, (true), (by first | rfl | (simp; done) | (simp [*]; done)), H', ⟨by first | omega | exact Nat.le_refl _⟩, ⟨by exact lK <| BK350.out⟩, ⟨by exact lK <| BK351.out⟩, ⟨by exact jB HB.out⟩⟩
 case rest =>
  clear HC3
  try clear c1
  try clear p2
  try clear c7
  try clear c9
  try clear c12
  try clear hcz10_0
  try clear hcz10_1
  try clear hcz10_2
  try clear hcz13_0
  try clear hcz13_1
  try clear hcz13_2
  try clear hfz10_0
  try clear hfz10_1
  try clear hfz10_2
  try clear hfz13_0
  try clear hfz13_1
  try clear hfz13_2
  obtain ⟨kq, x13_2, rfl, HA, HJ2, BK350, BK351, HB⟩ := hcut
  cases kq with
  | zero => exact absurd HA.out (by simp [spec_FrmTimes.j0])
  | succ kj2 =>
   have H := HA.out
   clear HA
   simp only [spec_FrmTimes.j0] at H
   by_cases c15 : x13_2 = true
   ·subst c15
    have H1 : (some (([] : List Int), ([] : List Int), 0)) = some (r1, r2, r3) := by rw [if_pos rfl] at H; exact H
    clear H
    have H := H1
    clear H1
    simp only [Option.some.injEq, Prod.mk.injEq] at H
    obtain ⟨rfl, rfl, rfl⟩ := H
    have hnb16 := NB351_350.out
    have hnc16 := NB350_351.out
    obtain ⟨hcz17_0, hcz17_1, hcz17_2, hfz17_0, hfz17_1, hfz17_2⟩ := cf3 BK351.out
    go_wp2
    refine bodyPost_ret (results_cell_row rfl _ _ gb351 25 #[.slice none 0 0, .slice none 0 0, .int .i64 0] (0, 0) _ rfl (by (with_reducible repeat first | refine kN ?_ _ | refine kD ?_ | refine kA ?_ _); refine blk_put (cs := #[.slice none 0 0, .slice none 0 0, .int .i64 0]) ?_ 2 _ rfl; (with_reducible repeat first | refine kN ?_ _ | refine kD ?_ | refine kA ?_ _); refine blk_put (cs := #[.slice none 0 0, .slice none 0 0, .int .i64 0]) ?_ 1 _ rfl; (with_reducible repeat first | refine kN ?_ _ | refine kD ?_ | refine kA ?_ _); refine blk_put (cs := #[.slice none 0 0, .slice none 0 0, .int .i64 0]) ?_ 0 _ rfl; exact lK BK351.out) Try.underlying25 rfl (by kernel_rfl)) rfl ?_
    exact ⟨_, _, by first | rfl | (simp [errW_none, errW_some] <;> rfl) | (simp [*, errW_none, errW_some] <;> rfl), by first | exact Kd.R_nil _ _ _ _ _ | exact Kd.N_nil _ _ _ _ _ | exact Kd.V_nil _ _ _ _ _ | exact Kd.Q_nil _ _ _ _ _ | exact Kd.S_nil _ _ _ _ _, by first | exact Kd.R_nil _ _ _ _ _ | exact Kd.N_nil _ _ _ _ _ | exact Kd.V_nil _ _ _ _ _ | exact Kd.Q_nil _ _ _ _ _ | exact Kd.S_nil _ _ _ _ _, by exact jB HB.out⟩
   ·replace c15 := Bool.eq_false_iff.mpr c15
    subst c15
    have H1 : ((spec_FrmZero.f).bind fun bt354 => ((spec_l1Sum.f kj2 bt354.1 bt354.2.1 bt354.2.2 l0_0 l0_1 a0_2 a1).bind fun bt361 => ((spec_FrmOk.f kj2 bt361.1 bt361.2.1 bt361.2.2).bind fun t369 => (if t369 = true then (some (bt361.1, bt361.2.1, bt361.2.2)) else (some (([] : List Int), ([] : List Int), 0)))))) = some (r1, r2, r3) := by rw [if_neg (show ¬ (false = true) by decide)] at H; exact H
    clear H
    have H := H1
    clear H1
    replace H := Option.bind_eq_some_iff.mp H
    obtain ⟨⟨t354, t357, t360⟩, A180, H⟩ := H
    replace H : ((spec_l1Sum.f kj2 t354 t357 t360 l0_0 l0_1 a0_2 a1).bind fun bt361 => ((spec_FrmOk.f kj2 bt361.1 bt361.2.1 bt361.2.2).bind fun t369 => (if t369 = true then (some (bt361.1, bt361.2.1, bt361.2.2)) else (some (([] : List Int), ([] : List Int), 0))))) = some (r1, r2, r3) := H
    have A18 := Aside0.mk A180
    clear A180
    replace H := Option.bind_eq_some_iff.mp H
    obtain ⟨⟨t361, t364, t367⟩, A190, H⟩ := H
    replace H : ((spec_FrmOk.f kj2 t361 t364 t367).bind fun t369 => (if t369 = true then (some (t361, t364, t367)) else (some (([] : List Int), ([] : List Int), 0)))) = some (r1, r2, r3) := H
    have A19 := Aside0.mk A190
    clear A190
    replace H := Option.bind_eq_some_iff.mp H
    obtain ⟨t369, A200, H⟩ := H
    replace H : (if t369 = true then (some (t361, t364, t367)) else (some (([] : List Int), ([] : List Int), 0))) = some (r1, r2, r3) := H
    have A20 := Aside0.mk A200
    clear A200
    by_cases c21 : t369 = true
    ·subst c21
     have H1 : (some (t361, t364, t367)) = some (r1, r2, r3) := by rw [if_pos rfl] at H; exact H
     clear H
     have H := H1
     clear H1
     simp only [Option.some.injEq, Prod.mk.injEq] at H
     obtain ⟨rfl, rfl, rfl⟩ := H
     try go_wp2
     replace BK350 := Aside0.mk (blk_drew BK350.out)
     replace BK351 := Aside0.mk (blk_drew BK351.out)
     replace HB := Aside0.mk (below_drew1 HB.out)
     refine start_ (n := 6) (S := fun w' => w'.cell? ⟨gb350, 0, none⟩ = some (.slice A0_0 l0_0.length c0_0) ∧ w'.cell? ⟨gb350, 1, none⟩ = some (.slice A0_1 l0_1.length c0_1) ∧ w'.cell? ⟨gb350, 2, none⟩ = some (.int .i64 a0_2)) (ds := []) #[false, false, false, false, false, false] (by kernel_rfl) rfl rfl ⟨(blk_cell BK350.out 0).trans rfl, (blk_cell BK350.out 1).trans rfl, (blk_cell BK350.out 2).trans rfl⟩ (fun hHeld => ?_)
     generalize wc.drew = w22 at BK350 BK351 HB hHeld ⊢
     refine pure_ (i := 2) (N := some 17) (v := ?_) (a' := ?_) #[false, false, true, false, false, false] rfl rfl (by kernel_rfl) (fun _ _ _ h => h) (Or.inl ⟨by rfl, ?_⟩) ?_ ?_
     rotate_left
     ·intro w'
      go_simp
      with_reducible rfl
     rotate_left
     ·simp only [Act.put, sA, s0, sS, i64_w, i32_w]
      rfl
     refine take_ (i := 1) (N := some 16) (v := ?_) (a' := ?_) #[false, true, true, false, false, false] rfl rfl (by kernel_rfl) (fun _ _ _ h => h) (Or.inl ⟨by rfl, ?_⟩) hHeld ?_ ?_
     rotate_left
     ·rintro w' ⟨s0, s1, s2⟩
      go_simp
      with_reducible rfl
     rotate_left
     ·simp only [Act.put, sA, s0, sS, i64_w, i32_w]
      rfl
     refine join_ (σ := Value × Value × Value × Value × Nat) 1 #[true, true, true, true, true, false] (fun s_ => [(15, .agg #[s_.1, s_.2.1, .int .i64 t360]), (18, .agg #[s_.2.2.1, s_.2.2.2.1, .int .i64 t367]), (5, .pointer (some ⟨s_.2.2.2.2, 0, none⟩))]) (fun s_ w' => (w'.cell? ⟨gb350, 0, none⟩ = some (.slice A0_0 l0_0.length c0_0) ∧ w'.cell? ⟨gb350, 1, none⟩ = some (.slice A0_1 l0_1.length c0_1) ∧ w'.cell? ⟨gb350, 2, none⟩ = some (.int .i64 a0_2)) ∧ (Kd.R (Kd.int .i64) 3 w' w.heap.size (fun k_ => some k_ ≠ (s_.2.1 : Value).ownBlock ∧ some k_ ≠ (s_.2.2.1 : Value).ownBlock ∧ some k_ ≠ (s_.2.2.2.1 : Value).ownBlock) s_.1 t354) ∧ (Kd.R (Kd.int .i64) 3 w' w.heap.size (fun k_ => some k_ ≠ (s_.1 : Value).ownBlock ∧ some k_ ≠ (s_.2.2.1 : Value).ownBlock ∧ some k_ ≠ (s_.2.2.2.1 : Value).ownBlock) s_.2.1 t357) ∧ (Kd.R (Kd.int .i64) 3 w' w.heap.size (fun k_ => some k_ ≠ (s_.1 : Value).ownBlock ∧ some k_ ≠ (s_.2.1 : Value).ownBlock ∧ some k_ ≠ (s_.2.2.2.1 : Value).ownBlock) s_.2.2.1 t361) ∧ (Kd.R (Kd.int .i64) 3 w' w.heap.size (fun k_ => some k_ ≠ (s_.1 : Value).ownBlock ∧ some k_ ≠ (s_.2.1 : Value).ownBlock ∧ some k_ ≠ (s_.2.2.1 : Value).ownBlock) s_.2.2.2.1 t364) ∧ (w'.heap[gb350]? = some (.cells #[.slice A0_0 l0_0.length c0_0, .slice A0_1 l0_1.length c0_1, .int .i64 a0_2] 25 (0, 0))) ∧ (w'.heap[gb351]? = some (.cells #[.slice none 0 0, .slice none 0 0, .int .i64 0] 25 (0, 0))) ∧ (w'.heap[s_.2.2.2.2]? = some (.cells #[.slice none 0 0, .slice none 0 0, .int .i64 0] 25 (0, 0))) ∧ (w.heap.size ≤ s_.2.2.2.2) ∧ (w.heap.size ≤ s_.2.2.2.2) ∧ (gb350 ≠ s_.2.2.2.2) ∧ (s_.2.2.2.2 ≠ gb350) ∧ (gb351 ≠ s_.2.2.2.2) ∧ (s_.2.2.2.2 ≠ gb351) ∧ (Below w.heap.size w w')) ?_ ?_
     rotate_left
     ·intro hCont
      refine two_ (i := 0) (j := 4) (Ni := some 15) (Nj := some 5) #[true, true, true, false, false, false] #[false, true, true, false, true, false] rfl rfl rfl rfl (by kernel_rfl) (by decide) (by decide) (fun K hK => ?_) (fun K hK => ?_)
      ·skip
       refine goes_ Try.func37 (by kernel_rfl) rfl #[] (by rfl) rfl rfl (by (try simp only [mA, mC, mN]); first | done | rfl | (simp only [ld, lt]; rfl)) ?_
       with_reducible refine (spec_FrmZero.calls  t354 t357 t360 _ A18.out).mono ?_
       rintro e w23 ⟨v355, v358, rfl, ho0, ho1, hb⟩
       refine ⟨_, rfl, ?_⟩
       have HO356 := Aside0.mk (Kd.R_lower ho0 (below_size (by exact jB HB.out)))
       have HO359 := Aside0.mk (Kd.R_lower ho1 (below_size (by exact jB HB.out)))
       replace BK350 := Aside0.mk (bb BK350.out hb)
       replace BK351 := Aside0.mk (bb BK351.out hb)
       replace HB := Aside0.mk (below_step (by exact jB HB.out) hb)
       (try clear hb)
       (try clear hb2)
       (try clear hk)
       (try clear hi)
       (try clear ho0)
       (try clear ho1)
       obtain ⟨Ao24, co24, eo24⟩ := Kd.R_slice HO356.out
       (first | subst eo24 | (injection eo24 with f1_ f2_ f3_; have f4_ := f1_.symm; have f5_ := f3_.symm; clear f1_ f2_ f3_; subst f4_; subst f5_))
       obtain ⟨Ao25, co25, eo25⟩ := Kd.R_slice HO359.out
       (first | subst eo25 | (injection eo25 with f1_ f2_ f3_; have f4_ := f1_.symm; have f5_ := f3_.symm; clear f1_ f2_ f3_; subst f4_; subst f5_))
       refine hK.out _ _ ⟨(blk_cell BK350.out 0).trans rfl, (blk_cell BK350.out 1).trans rfl, (blk_cell BK350.out 2).trans rfl⟩ (fun hHeld => ?_)
       clear hK K
       refine norm_ (a' := ?_) ?_ ?_
       rotate_left
       ·show Act.put _ (some 15) _ = _
        simp only [Act.put, sA, s0, sS, i64_w, i32_w]
        rfl
       refine two_ (i := 3) (j := 4) (Ni := some 18) (Nj := some 5) #[true, true, true, true, false, false] #[true, true, true, false, true, false] rfl rfl rfl rfl (by kernel_rfl) (by decide) (by decide) (fun K hK => ?_) (fun K hK => ?_)
       ·skip
        refine goes_ Try.func30 (by kernel_rfl) rfl #[.agg #[.slice Ao24 t354.length co24, .slice Ao25 t357.length co25, .int .i64 t360], .agg #[.slice A0_0 l0_0.length c0_0, .slice A0_1 l0_1.length c0_1, .int .i64 a0_2], .int .i64 a1] (by rfl) rfl rfl (by (try simp only [mA, mC, mN]); first | done | rfl | (simp only [ld, lt]; rfl)) ?_
        with_reducible refine (spec_l1Sum.calls kj2 _ _ t354 _ _ t357 t360 _ _ l0_0 _ _ l0_1 a0_2 a1 t361 t364 t367 _ ?side1 ?side2 ?side3 ?side4 ?side5 ?side6 ?side7 ?side8 A19.out).mono ?_
        (case side1 => exact lC <| (Kd.R_reads' HO356.out).2.2)
        (case side2 => exact (Kd.R_reads' HO356.out).2.1)
        (case side3 => exact lC <| (Kd.R_reads' HO359.out).2.2)
        (case side4 => exact (Kd.R_reads' HO359.out).2.1)
        (case side5 => exact lC <| (Kd.C_below HR0_0.out HB.out))
        (case side6 => exact HC0_0.out)
        (case side7 => exact lC <| (Kd.C_below HR0_1.out HB.out))
        (case side8 => exact HC0_1.out)
        rintro e w26 ⟨v362, v365, rfl, ho0, ho1, hb⟩
        refine ⟨_, rfl, ?_⟩
        have HO363 := Aside0.mk (Kd.R_lower (Kd.R_new' (Kd.R_new' ho0 (rl HO356.out)) (rl HO359.out)) (below_size (by exact jB HB.out)))
        have HO366 := Aside0.mk (Kd.R_lower (Kd.R_new' (Kd.R_new' ho1 (rl HO356.out)) (rl HO359.out)) (below_size (by exact jB HB.out)))
        replace HO356 := Aside0.mk (o2 HO356.out hb ho0 ho1)
        replace HO359 := Aside0.mk (o2 HO359.out hb ho0 ho1)
        replace BK350 := Aside0.mk (bb BK350.out hb)
        replace BK351 := Aside0.mk (bb BK351.out hb)
        replace HB := Aside0.mk (below_step (by exact jB HB.out) hb)
        (try clear hb)
        (try clear hb2)
        (try clear hk)
        (try clear hi)
        (try clear ho0)
        (try clear ho1)
        refine hK.out _ _ ⟨(blk_cell BK350.out 0).trans rfl, (blk_cell BK350.out 1).trans rfl, (blk_cell BK350.out 2).trans rfl⟩ (fun hHeld => ?_)
        clear hK K
        refine norm_ (a' := ?_) ?_ ?_
        rotate_left
        ·show Act.put _ (some 18) _ = _
         simp only [Act.put, sA, s0, sS, i64_w, i32_w]
         rfl
        refine one_ (i := 4) (N := some 5) #[true, true, true, true, true, false] rfl rfl (by kernel_rfl) (by decide) (fun K hK => ?_)
        refine box_step ?hg (N := 5) ?hd (cs := #[.slice none 0 0, .slice none 0 0, .int .i64 0]) (t := 25) ?hr ?_; (case hd => rfl); (case hg => rfl); (case hr => first | (go_simp; done) | (go_simp; rfl))
        intro gb368 hg w27 hbox hb
        replace HO356 := Aside0.mk (rb HO356.out hb)
        replace HO359 := Aside0.mk (rb HO359.out hb)
        replace HO363 := Aside0.mk (rb HO363.out hb)
        replace HO366 := Aside0.mk (rb HO366.out hb)
        have BK368 := Aside0.mk (hbox)
        have GW368 := Aside0.mk ((by rw [hg]; exact (below_size (by exact jB HB.out)) : w.heap.size ≤ gb368))
        have IGW368 : Nonempty _ := ⟨GW368.out⟩
        have GE368 := Aside0.mk ((by rw [hg]; exact (below_size (by exact jB HB.out)) : w.heap.size ≤ gb368))
        have IGE368 : Nonempty _ := ⟨GE368.out⟩
        replace HB := Aside0.mk (below_step (by exact jB HB.out) hb)
        have NB350_368 := Aside0.mk ((neL hg (lK BK350.out) : gb350 ≠ gb368))
        have INB350_368 : Nonempty _ := ⟨NB350_368.out⟩
        have NB368_350 := Aside0.mk ((neG hg (lK BK350.out) : gb368 ≠ gb350))
        have INB368_350 : Nonempty _ := ⟨NB368_350.out⟩
        replace BK350 := Aside0.mk (bb BK350.out hb)
        have NB351_368 := Aside0.mk ((neL hg (lK BK351.out) : gb351 ≠ gb368))
        have INB351_368 : Nonempty _ := ⟨NB351_368.out⟩
        have NB368_351 := Aside0.mk ((neG hg (lK BK351.out) : gb368 ≠ gb351))
        have INB368_351 : Nonempty _ := ⟨NB368_351.out⟩
        replace BK351 := Aside0.mk (bb BK351.out hb)
        clear hb hbox hg
        refine hK.out _ _ ⟨(blk_cell BK350.out 0).trans rfl, (blk_cell BK350.out 1).trans rfl, (blk_cell BK350.out 2).trans rfl⟩ (fun hHeld => ?_)
        clear hK K
        refine norm_ (a' := ?_) ?_ ?_
        rotate_left
        ·show Act.put _ (some 5) _ = _
         simp only [Act.put, sA, s0, sS, i64_w, i32_w]
         rfl
        exact norm_ (by simp only [putAll, Act.put, List.setIfInBounds_toArray, List.set_cons_zero, List.set_cons_succ]) (hCont (.slice Ao24 t354.length co24, .slice Ao25 t357.length co25, v362, v365, gb368) _ ⟨hHeld, (by exact lR <| Kd.R_mono HO356.out (fun _ hk => ⟨hk.1.1, ⟨hk.1.2, hk.2⟩⟩)), (by exact lR <| Kd.R_mono HO359.out (fun _ hk => ⟨hk.1.1, ⟨hk.1.2, hk.2⟩⟩)), (by exact lR <| Kd.R_mono HO363.out (fun _ hk => ⟨hk.1.2, ⟨hk.2, hk.1.1⟩⟩)), (by exact lR <| Kd.R_mono HO366.out (fun _ hk => ⟨hk.1.2, ⟨hk.2, hk.1.1⟩⟩)), (by exact lK BK350.out), (by exact lK BK351.out), (by exact lK BK368.out), GW368.out, GE368.out, NB350_368.out, NB368_350.out, NB351_368.out, NB368_351.out, (by exact jB HB.out)⟩)
       ·skip
        refine box_step ?hg (N := 5) ?hd (cs := #[.slice none 0 0, .slice none 0 0, .int .i64 0]) (t := 25) ?hr ?_; (case hd => rfl); (case hg => rfl); (case hr => first | (go_simp; done) | (go_simp; rfl))
        intro gb368 hg w24 hbox hb
        replace HO356 := Aside0.mk (rb HO356.out hb)
        replace HO359 := Aside0.mk (rb HO359.out hb)
        have BK368 := Aside0.mk (hbox)
        have GW368 := Aside0.mk ((by rw [hg]; exact (below_size (by exact jB HB.out)) : w.heap.size ≤ gb368))
        have IGW368 : Nonempty _ := ⟨GW368.out⟩
        have GE368 := Aside0.mk ((by rw [hg]; exact (below_size (by exact jB HB.out)) : w.heap.size ≤ gb368))
        have IGE368 : Nonempty _ := ⟨GE368.out⟩
        replace HB := Aside0.mk (below_step (by exact jB HB.out) hb)
        have NB350_368 := Aside0.mk ((neL hg (lK BK350.out) : gb350 ≠ gb368))
        have INB350_368 : Nonempty _ := ⟨NB350_368.out⟩
        have NB368_350 := Aside0.mk ((neG hg (lK BK350.out) : gb368 ≠ gb350))
        have INB368_350 : Nonempty _ := ⟨NB368_350.out⟩
        replace BK350 := Aside0.mk (bb BK350.out hb)
        have NB351_368 := Aside0.mk ((neL hg (lK BK351.out) : gb351 ≠ gb368))
        have INB351_368 : Nonempty _ := ⟨NB351_368.out⟩
        have NB368_351 := Aside0.mk ((neG hg (lK BK351.out) : gb368 ≠ gb351))
        have INB368_351 : Nonempty _ := ⟨NB368_351.out⟩
        replace BK351 := Aside0.mk (bb BK351.out hb)
        clear hb hbox hg
        obtain ⟨Ao25, co25, eo25⟩ := Kd.R_slice HO356.out
        (first | subst eo25 | (injection eo25 with f1_ f2_ f3_; have f4_ := f1_.symm; have f5_ := f3_.symm; clear f1_ f2_ f3_; subst f4_; subst f5_))
        obtain ⟨Ao26, co26, eo26⟩ := Kd.R_slice HO359.out
        (first | subst eo26 | (injection eo26 with f1_ f2_ f3_; have f4_ := f1_.symm; have f5_ := f3_.symm; clear f1_ f2_ f3_; subst f4_; subst f5_))
        refine hK.out _ _ ⟨(blk_cell BK350.out 0).trans rfl, (blk_cell BK350.out 1).trans rfl, (blk_cell BK350.out 2).trans rfl⟩ (fun hHeld => ?_)
        clear hK K
        refine norm_ (a' := ?_) ?_ ?_
        rotate_left
        ·show Act.put _ (some 5) _ = _
         simp only [Act.put, sA, s0, sS, i64_w, i32_w]
         rfl
        refine one_ (i := 3) (N := some 18) #[true, true, true, true, true, false] rfl rfl (by kernel_rfl) (by decide) (fun K hK => ?_)
        refine goes_ Try.func30 (by kernel_rfl) rfl #[.agg #[.slice Ao25 t354.length co25, .slice Ao26 t357.length co26, .int .i64 t360], .agg #[.slice A0_0 l0_0.length c0_0, .slice A0_1 l0_1.length c0_1, .int .i64 a0_2], .int .i64 a1] (by rfl) rfl rfl (by (try simp only [mA, mC, mN]); first | done | rfl | (simp only [ld, lt]; rfl)) ?_
        with_reducible refine (spec_l1Sum.calls kj2 _ _ t354 _ _ t357 t360 _ _ l0_0 _ _ l0_1 a0_2 a1 t361 t364 t367 _ ?side1 ?side2 ?side3 ?side4 ?side5 ?side6 ?side7 ?side8 A19.out).mono ?_
        (case side1 => exact lC <| (Kd.R_reads' HO356.out).2.2)
        (case side2 => exact (Kd.R_reads' HO356.out).2.1)
        (case side3 => exact lC <| (Kd.R_reads' HO359.out).2.2)
        (case side4 => exact (Kd.R_reads' HO359.out).2.1)
        (case side5 => exact lC <| (Kd.C_below HR0_0.out HB.out))
        (case side6 => exact HC0_0.out)
        (case side7 => exact lC <| (Kd.C_below HR0_1.out HB.out))
        (case side8 => exact HC0_1.out)
        rintro e w27 ⟨v362, v365, rfl, ho0, ho1, hb⟩
        refine ⟨_, rfl, ?_⟩
        have HO363 := Aside0.mk (Kd.R_lower (Kd.R_new' (Kd.R_new' ho0 (rl HO356.out)) (rl HO359.out)) (below_size (by exact jB HB.out)))
        have HO366 := Aside0.mk (Kd.R_lower (Kd.R_new' (Kd.R_new' ho1 (rl HO356.out)) (rl HO359.out)) (below_size (by exact jB HB.out)))
        replace HO356 := Aside0.mk (o2 HO356.out hb ho0 ho1)
        replace HO359 := Aside0.mk (o2 HO359.out hb ho0 ho1)
        replace BK350 := Aside0.mk (bb BK350.out hb)
        replace BK351 := Aside0.mk (bb BK351.out hb)
        replace BK368 := Aside0.mk (bb BK368.out hb)
        replace HB := Aside0.mk (below_step (by exact jB HB.out) hb)
        (try clear hb)
        (try clear hb2)
        (try clear hk)
        (try clear hi)
        (try clear ho0)
        (try clear ho1)
        refine hK.out _ _ ⟨(blk_cell BK350.out 0).trans rfl, (blk_cell BK350.out 1).trans rfl, (blk_cell BK350.out 2).trans rfl⟩ (fun hHeld => ?_)
        clear hK K
        refine norm_ (a' := ?_) ?_ ?_
        rotate_left
        ·show Act.put _ (some 18) _ = _
         simp only [Act.put, sA, s0, sS, i64_w, i32_w]
         rfl
        exact norm_ (by simp only [putAll, Act.put, List.setIfInBounds_toArray, List.set_cons_zero, List.set_cons_succ]) (hCont (.slice Ao25 t354.length co25, .slice Ao26 t357.length co26, v362, v365, gb368) _ ⟨hHeld, (by exact lR <| Kd.R_mono HO356.out (fun _ hk => ⟨hk.1.1, ⟨hk.1.2, hk.2⟩⟩)), (by exact lR <| Kd.R_mono HO359.out (fun _ hk => ⟨hk.1.1, ⟨hk.1.2, hk.2⟩⟩)), (by exact lR <| Kd.R_mono HO363.out (fun _ hk => ⟨hk.1.2, ⟨hk.2, hk.1.1⟩⟩)), (by exact lR <| Kd.R_mono HO366.out (fun _ hk => ⟨hk.1.2, ⟨hk.2, hk.1.1⟩⟩)), (by exact lK BK350.out), (by exact lK BK351.out), (by exact lK BK368.out), GW368.out, GE368.out, NB350_368.out, NB368_350.out, NB351_368.out, NB368_351.out, (by exact jB HB.out)⟩)
      ·skip
       refine box_step ?hg (N := 5) ?hd (cs := #[.slice none 0 0, .slice none 0 0, .int .i64 0]) (t := 25) ?hr ?_; (case hd => rfl); (case hg => rfl); (case hr => first | (go_simp; done) | (go_simp; rfl))
       intro gb368 hg w23 hbox hb
       have BK368 := Aside0.mk (hbox)
       have GW368 := Aside0.mk ((by rw [hg]; exact (below_size (by exact jB HB.out)) : w.heap.size ≤ gb368))
       have IGW368 : Nonempty _ := ⟨GW368.out⟩
       have GE368 := Aside0.mk ((by rw [hg]; exact (below_size (by exact jB HB.out)) : w.heap.size ≤ gb368))
       have IGE368 : Nonempty _ := ⟨GE368.out⟩
       replace HB := Aside0.mk (below_step (by exact jB HB.out) hb)
       have NB350_368 := Aside0.mk ((neL hg (lK BK350.out) : gb350 ≠ gb368))
       have INB350_368 : Nonempty _ := ⟨NB350_368.out⟩
       have NB368_350 := Aside0.mk ((neG hg (lK BK350.out) : gb368 ≠ gb350))
       have INB368_350 : Nonempty _ := ⟨NB368_350.out⟩
       replace BK350 := Aside0.mk (bb BK350.out hb)
       have NB351_368 := Aside0.mk ((neL hg (lK BK351.out) : gb351 ≠ gb368))
       have INB351_368 : Nonempty _ := ⟨NB351_368.out⟩
       have NB368_351 := Aside0.mk ((neG hg (lK BK351.out) : gb368 ≠ gb351))
       have INB368_351 : Nonempty _ := ⟨NB368_351.out⟩
       replace BK351 := Aside0.mk (bb BK351.out hb)
       clear hb hbox hg
       refine hK.out _ _ ⟨(blk_cell BK350.out 0).trans rfl, (blk_cell BK350.out 1).trans rfl, (blk_cell BK350.out 2).trans rfl⟩ (fun hHeld => ?_)
       clear hK K
       refine norm_ (a' := ?_) ?_ ?_
       rotate_left
       ·show Act.put _ (some 5) _ = _
        simp only [Act.put, sA, s0, sS, i64_w, i32_w]
        rfl
       refine one_ (i := 0) (N := some 15) #[true, true, true, false, true, false] rfl rfl (by kernel_rfl) (by decide) (fun K hK => ?_)
       refine goes_ Try.func37 (by kernel_rfl) rfl #[] (by rfl) rfl rfl (by (try simp only [mA, mC, mN]); first | done | rfl | (simp only [ld, lt]; rfl)) ?_
       with_reducible refine (spec_FrmZero.calls  t354 t357 t360 _ A18.out).mono ?_
       rintro e w24 ⟨v355, v358, rfl, ho0, ho1, hb⟩
       refine ⟨_, rfl, ?_⟩
       have HO356 := Aside0.mk (Kd.R_lower ho0 (below_size (by exact jB HB.out)))
       have HO359 := Aside0.mk (Kd.R_lower ho1 (below_size (by exact jB HB.out)))
       replace BK350 := Aside0.mk (bb BK350.out hb)
       replace BK351 := Aside0.mk (bb BK351.out hb)
       replace BK368 := Aside0.mk (bb BK368.out hb)
       replace HB := Aside0.mk (below_step (by exact jB HB.out) hb)
       (try clear hb)
       (try clear hb2)
       (try clear hk)
       (try clear hi)
       (try clear ho0)
       (try clear ho1)
       obtain ⟨Ao25, co25, eo25⟩ := Kd.R_slice HO356.out
       (first | subst eo25 | (injection eo25 with f1_ f2_ f3_; have f4_ := f1_.symm; have f5_ := f3_.symm; clear f1_ f2_ f3_; subst f4_; subst f5_))
       obtain ⟨Ao26, co26, eo26⟩ := Kd.R_slice HO359.out
       (first | subst eo26 | (injection eo26 with f1_ f2_ f3_; have f4_ := f1_.symm; have f5_ := f3_.symm; clear f1_ f2_ f3_; subst f4_; subst f5_))
       refine hK.out _ _ ⟨(blk_cell BK350.out 0).trans rfl, (blk_cell BK350.out 1).trans rfl, (blk_cell BK350.out 2).trans rfl⟩ (fun hHeld => ?_)
       clear hK K
       refine norm_ (a' := ?_) ?_ ?_
       rotate_left
       ·show Act.put _ (some 15) _ = _
        simp only [Act.put, sA, s0, sS, i64_w, i32_w]
        rfl
       refine one_ (i := 3) (N := some 18) #[true, true, true, true, true, false] rfl rfl (by kernel_rfl) (by decide) (fun K hK => ?_)
       refine goes_ Try.func30 (by kernel_rfl) rfl #[.agg #[.slice Ao25 t354.length co25, .slice Ao26 t357.length co26, .int .i64 t360], .agg #[.slice A0_0 l0_0.length c0_0, .slice A0_1 l0_1.length c0_1, .int .i64 a0_2], .int .i64 a1] (by rfl) rfl rfl (by (try simp only [mA, mC, mN]); first | done | rfl | (simp only [ld, lt]; rfl)) ?_
       with_reducible refine (spec_l1Sum.calls kj2 _ _ t354 _ _ t357 t360 _ _ l0_0 _ _ l0_1 a0_2 a1 t361 t364 t367 _ ?side1 ?side2 ?side3 ?side4 ?side5 ?side6 ?side7 ?side8 A19.out).mono ?_
       (case side1 => exact lC <| (Kd.R_reads' HO356.out).2.2)
       (case side2 => exact (Kd.R_reads' HO356.out).2.1)
       (case side3 => exact lC <| (Kd.R_reads' HO359.out).2.2)
       (case side4 => exact (Kd.R_reads' HO359.out).2.1)
       (case side5 => exact lC <| (Kd.C_below HR0_0.out HB.out))
       (case side6 => exact HC0_0.out)
       (case side7 => exact lC <| (Kd.C_below HR0_1.out HB.out))
       (case side8 => exact HC0_1.out)
       rintro e w27 ⟨v362, v365, rfl, ho0, ho1, hb⟩
       refine ⟨_, rfl, ?_⟩
       have HO363 := Aside0.mk (Kd.R_lower (Kd.R_new' (Kd.R_new' ho0 (rl HO356.out)) (rl HO359.out)) (below_size (by exact jB HB.out)))
       have HO366 := Aside0.mk (Kd.R_lower (Kd.R_new' (Kd.R_new' ho1 (rl HO356.out)) (rl HO359.out)) (below_size (by exact jB HB.out)))
       replace HO356 := Aside0.mk (o2 HO356.out hb ho0 ho1)
       replace HO359 := Aside0.mk (o2 HO359.out hb ho0 ho1)
       replace BK350 := Aside0.mk (bb BK350.out hb)
       replace BK351 := Aside0.mk (bb BK351.out hb)
       replace BK368 := Aside0.mk (bb BK368.out hb)
       replace HB := Aside0.mk (below_step (by exact jB HB.out) hb)
       (try clear hb)
       (try clear hb2)
       (try clear hk)
       (try clear hi)
       (try clear ho0)
       (try clear ho1)
       refine hK.out _ _ ⟨(blk_cell BK350.out 0).trans rfl, (blk_cell BK350.out 1).trans rfl, (blk_cell BK350.out 2).trans rfl⟩ (fun hHeld => ?_)
       clear hK K
       refine norm_ (a' := ?_) ?_ ?_
       rotate_left
       ·show Act.put _ (some 18) _ = _
        simp only [Act.put, sA, s0, sS, i64_w, i32_w]
        rfl
       exact norm_ (by simp only [putAll, Act.put, List.setIfInBounds_toArray, List.set_cons_zero, List.set_cons_succ]) (hCont (.slice Ao25 t354.length co25, .slice Ao26 t357.length co26, v362, v365, gb368) _ ⟨hHeld, (by exact lR <| Kd.R_mono HO356.out (fun _ hk => ⟨hk.1.1, ⟨hk.1.2, hk.2⟩⟩)), (by exact lR <| Kd.R_mono HO359.out (fun _ hk => ⟨hk.1.1, ⟨hk.1.2, hk.2⟩⟩)), (by exact lR <| Kd.R_mono HO363.out (fun _ hk => ⟨hk.1.2, ⟨hk.2, hk.1.1⟩⟩)), (by exact lR <| Kd.R_mono HO366.out (fun _ hk => ⟨hk.1.2, ⟨hk.2, hk.1.1⟩⟩)), (by exact lK BK350.out), (by exact lK BK351.out), (by exact lK BK368.out), GW368.out, GE368.out, NB350_368.out, NB368_350.out, NB351_368.out, NB368_351.out, (by exact jB HB.out)⟩)
     rintro ⟨v355, v358, v362, v365, gb368⟩ w28 ⟨hS_, h0_, h1_, h2_, h3_, h4_, h5_, h6_, h7_, h8_, h9_, h10_, h11_, h12_, h13_⟩
     have HO356 : Aside0 (Kd.R (Kd.int .i64) 3 w28 w.heap.size (fun k_ => some k_ ≠ (v358 : Value).ownBlock ∧ some k_ ≠ (v362 : Value).ownBlock ∧ some k_ ≠ (v365 : Value).ownBlock) v355 t354) := ⟨h0_⟩
     have HO359 : Aside0 (Kd.R (Kd.int .i64) 3 w28 w.heap.size (fun k_ => some k_ ≠ (v355 : Value).ownBlock ∧ some k_ ≠ (v362 : Value).ownBlock ∧ some k_ ≠ (v365 : Value).ownBlock) v358 t357) := ⟨h1_⟩
     have HO363 : Aside0 (Kd.R (Kd.int .i64) 3 w28 w.heap.size (fun k_ => some k_ ≠ (v355 : Value).ownBlock ∧ some k_ ≠ (v358 : Value).ownBlock ∧ some k_ ≠ (v365 : Value).ownBlock) v362 t361) := ⟨h2_⟩
     have HO366 : Aside0 (Kd.R (Kd.int .i64) 3 w28 w.heap.size (fun k_ => some k_ ≠ (v355 : Value).ownBlock ∧ some k_ ≠ (v358 : Value).ownBlock ∧ some k_ ≠ (v362 : Value).ownBlock) v365 t364) := ⟨h3_⟩
     replace BK350 : Aside0 (w28.heap[gb350]? = some (.cells #[.slice A0_0 l0_0.length c0_0, .slice A0_1 l0_1.length c0_1, .int .i64 a0_2] 25 (0, 0))) := ⟨h4_⟩
     replace BK351 : Aside0 (w28.heap[gb351]? = some (.cells #[.slice none 0 0, .slice none 0 0, .int .i64 0] 25 (0, 0))) := ⟨h5_⟩
     have BK368 : Aside0 (w28.heap[gb368]? = some (.cells #[.slice none 0 0, .slice none 0 0, .int .i64 0] 25 (0, 0))) := ⟨h6_⟩
     have GW368 : Aside0 (w.heap.size ≤ gb368) := ⟨h7_⟩
     have IGW368 : Nonempty _ := ⟨GW368.out⟩
     have GE368 : Aside0 (w.heap.size ≤ gb368) := ⟨h8_⟩
     have IGE368 : Nonempty _ := ⟨GE368.out⟩
     have NB350_368 : Aside0 (gb350 ≠ gb368) := ⟨h9_⟩
     have INB350_368 : Nonempty _ := ⟨NB350_368.out⟩
     have NB368_350 : Aside0 (gb368 ≠ gb350) := ⟨h10_⟩
     have INB368_350 : Nonempty _ := ⟨NB368_350.out⟩
     have NB351_368 : Aside0 (gb351 ≠ gb368) := ⟨h11_⟩
     have INB351_368 : Nonempty _ := ⟨NB351_368.out⟩
     have NB368_351 : Aside0 (gb368 ≠ gb351) := ⟨h12_⟩
     have INB368_351 : Nonempty _ := ⟨NB368_351.out⟩
     replace HB : Aside0 (Below w.heap.size w w28) := ⟨h13_⟩
     clear h0_ h1_ h2_ h3_ h4_ h5_ h6_ h7_ h8_ h9_ h10_ h11_ h12_ h13_
     have hHeld : w28.cell? ⟨gb350, 0, none⟩ = some (.slice A0_0 l0_0.length c0_0) ∧ w28.cell? ⟨gb350, 1, none⟩ = some (.slice A0_1 l0_1.length c0_1) ∧ w28.cell? ⟨gb350, 2, none⟩ = some (.int .i64 a0_2) := hS_
     obtain ⟨Ao29, co29, eo29⟩ := Kd.R_slice HO363.out
     (first | subst eo29 | (injection eo29 with f1_ f2_ f3_; have f4_ := f1_.symm; have f5_ := f3_.symm; clear f1_ f2_ f3_; subst f4_; subst f5_))
     obtain ⟨Ao31, co31, eo31⟩ := Kd.R_slice HO366.out
     (first | subst eo31 | (injection eo31 with f1_ f2_ f3_; have f4_ := f1_.symm; have f5_ := f3_.symm; clear f1_ f2_ f3_; subst f4_; subst f5_))
     refine norm_ (a' := ?_) ?_ ?_
     rotate_left
     ·simp only [putAll, Act.put, List.setIfInBounds_toArray, List.set_cons_zero, List.set_cons_succ]
      rfl
     refine one_ (i := 5) (N := none) #[true, true, true, true, true, true] rfl rfl (by kernel_rfl) (by decide) (fun K hK => ?_)
     have hs30 : w28.cell? ⟨gb368, 0, none⟩ = some (.slice none 0 0) := (blk_cell BK368.out 0).trans rfl
     have hfs30 := blk_frozen BK368.out 0
     have hns30_0 := NB350_368.out
     have hns30_1 := NB351_368.out
     have hms30_0 := NB368_350.out
     have hms30_1 := NB368_351.out
     have hs32 : w28.cell? ⟨gb368, 1, none⟩ = some (.slice none 0 0) := (blk_cell BK368.out 1).trans rfl
     have hfs32 := blk_frozen BK368.out 1
     have hns32_0 := NB350_368.out
     have hns32_1 := NB351_368.out
     have hms32_0 := NB368_350.out
     have hms32_1 := NB368_351.out
     have hs33 : w28.cell? ⟨gb368, 2, none⟩ = some (.int .i64 0) := (blk_cell BK368.out 2).trans rfl
     have hfs33 := blk_frozen BK368.out 2
     have hns33_0 := NB350_368.out
     have hns33_1 := NB351_368.out
     have hms33_0 := NB368_350.out
     have hms33_1 := NB368_351.out
     refine skip_ (w1 := ?_) (by rfl) rfl ?_ ?_
     rotate_left
     ·go_simp
      rfl
     refine hK.out _ _ ⟨((cell_far (p := ⟨gb368, _, none⟩) NB350_368.out _).trans (((cell_far (p := ⟨gb368, _, none⟩) NB350_368.out _).trans (((cell_far (p := ⟨gb368, _, none⟩) NB350_368.out _).trans (hHeld.1)))))), ((cell_far (p := ⟨gb368, _, none⟩) NB350_368.out _).trans (((cell_far (p := ⟨gb368, _, none⟩) NB350_368.out _).trans (((cell_far (p := ⟨gb368, _, none⟩) NB350_368.out _).trans (hHeld.2.1)))))), ((cell_far (p := ⟨gb368, _, none⟩) NB350_368.out _).trans (((cell_far (p := ⟨gb368, _, none⟩) NB350_368.out _).trans (((cell_far (p := ⟨gb368, _, none⟩) NB350_368.out _).trans (hHeld.2.2))))))⟩ (fun hHeld => ?_)
     clear hK K
     refine done_ (by kernel_rfl) ?_
     have hnb34 := NB368_350.out
     have hnc34 := NB350_368.out
     have hnb35 := NB368_351.out
     have hnc35 := NB351_368.out
     obtain ⟨hcz36_0, hcz36_1, hcz36_2, hfz36_0, hfz36_1, hfz36_2⟩ := cf3 BK368.out
     try go_wp2_with (first | ((with_reducible refine gate_callee (f := 17) rfl ?_); refine goesL_ (some 20) rfl rfl Try.func17 (by kernel_rfl) rfl #[.agg #[.slice Ao29 t361.length co29, .slice Ao31 t364.length co31, .int .i64 t367]] rfl (by (try simp only [mA, mC, mN]); first | done | rfl | (simp only [ld, lt]; rfl)) ?_; (with_reducible refine (spec_FrmOk.calls kj2 _ _ t361 _ _ t364 t367 true _ ?side1 ?side2 ?side3 ?side4 A20.out).mono ?_); (case side1 => refine (Kd.R_reads' (e := 3) (base := w.heap.size) (ok := fun k_ => (some k_ ≠ (v355 : Value).ownBlock ∧ (some k_ ≠ (v358 : Value).ownBlock ∧ some k_ ≠ (.slice Ao31 t364.length co31 : Value).ownBlock))) (n := t361.length) (c := co29) ?_).2.2; exact (by (with_reducible repeat (first | apply ra | apply rn | apply re)); exact (R3 HO363.out BK368.out))); (case side2 => exact (Kd.R_reads' HO363.out).2.1); (case side3 => refine (Kd.R_reads' (e := 3) (base := w.heap.size) (ok := fun k_ => (some k_ ≠ (v355 : Value).ownBlock ∧ (some k_ ≠ (v358 : Value).ownBlock ∧ some k_ ≠ (.slice Ao29 t361.length co29 : Value).ownBlock))) (n := t364.length) (c := co31) ?_).2.2; exact (by (with_reducible repeat (first | apply ra | apply rn | apply re)); exact (R3 HO366.out BK368.out))); (case side4 => exact (Kd.R_reads' HO366.out).2.1); rintro e w37 ⟨rfl, hb⟩; refine ⟨_, rfl, ?_⟩; replace HO356 := Aside0.mk (Kd.R_below (by (with_reducible repeat (first | apply ra | apply rn | apply re)); exact (R3 HO356.out BK368.out)) hb); replace HO359 := Aside0.mk (Kd.R_below (by (with_reducible repeat (first | apply ra | apply rn | apply re)); exact (R3 HO359.out BK368.out)) hb); replace HO363 := Aside0.mk (Kd.R_below (by (with_reducible repeat (first | apply ra | apply rn | apply re)); exact (R3 HO363.out BK368.out)) hb); replace HO366 := Aside0.mk (Kd.R_below (by (with_reducible repeat (first | apply ra | apply rn | apply re)); exact (R3 HO366.out BK368.out)) hb); replace BK350 := Aside0.mk (blk_below (g := gb350) (o := .cells #[.slice A0_0 l0_0.length c0_0, .slice A0_1 l0_1.length c0_1, .int .i64 a0_2] 25 (0, 0)) (by (with_reducible repeat first | refine kN ?_ _ | refine kD ?_ | refine kA ?_ _); refine blk_far ?_ NB350_368.out _; (with_reducible repeat first | refine kN ?_ _ | refine kD ?_ | refine kA ?_ _); refine blk_far ?_ NB350_368.out _; (with_reducible repeat first | refine kN ?_ _ | refine kD ?_ | refine kA ?_ _); refine blk_far ?_ NB350_368.out _; exact lK BK350.out) hb); replace BK351 := Aside0.mk (blk_below (g := gb351) (o := .cells #[.slice none 0 0, .slice none 0 0, .int .i64 0] 25 (0, 0)) (by (with_reducible repeat first | refine kN ?_ _ | refine kD ?_ | refine kA ?_ _); refine blk_far ?_ NB351_368.out _; (with_reducible repeat first | refine kN ?_ _ | refine kD ?_ | refine kA ?_ _); refine blk_far ?_ NB351_368.out _; (with_reducible repeat first | refine kN ?_ _ | refine kD ?_ | refine kA ?_ _); refine blk_far ?_ NB351_368.out _; exact lK BK351.out) hb); replace BK368 := Aside0.mk (blk_below (g := gb368) (o := .cells #[.slice Ao29 t361.length co29, .slice Ao31 t364.length co31, .int .i64 t367] 25 (0, 0)) (by (with_reducible repeat first | refine kN ?_ _ | refine kD ?_ | refine kA ?_ _); refine blk_put (cs := #[.slice Ao29 t361.length co29, .slice Ao31 t364.length co31, .int .i64 0]) ?_ 2 _ rfl; (with_reducible repeat first | refine kN ?_ _ | refine kD ?_ | refine kA ?_ _); refine blk_put (cs := #[.slice Ao29 t361.length co29, .slice none 0 0, .int .i64 0]) ?_ 1 _ rfl; (with_reducible repeat first | refine kN ?_ _ | refine kD ?_ | refine kA ?_ _); refine blk_put (cs := #[.slice none 0 0, .slice none 0 0, .int .i64 0]) ?_ 0 _ rfl; exact lK BK368.out) hb); replace HB := Aside0.mk (below_step (by exact jB HB.out) hb); (try clear hb); (try clear hb2); (try clear hk); (try clear hi); obtain ⟨hcz38_0, hcz38_1, hcz38_2, hfz38_0, hfz38_1, hfz38_2⟩ := cf3 BK368.out; have hnb39 := NB351_350.out; have hnc39 := NB350_351.out; obtain ⟨hcz40_0, hcz40_1, hcz40_2, hfz40_0, hfz40_1, hfz40_2⟩ := cf3 BK351.out))
     refine bodyPost_ret (results_cell_row rfl _ _ gb351 25 #[.slice Ao29 t361.length co29, .slice Ao31 t364.length co31, .int .i64 t367] (0, 0) _ rfl (by (with_reducible repeat first | refine kN ?_ _ | refine kD ?_ | refine kA ?_ _); refine blk_put (cs := #[.slice Ao29 t361.length co29, .slice Ao31 t364.length co31, .int .i64 0]) ?_ 2 _ rfl; (with_reducible repeat first | refine kN ?_ _ | refine kD ?_ | refine kA ?_ _); refine blk_put (cs := #[.slice Ao29 t361.length co29, .slice none 0 0, .int .i64 0]) ?_ 1 _ rfl; (with_reducible repeat first | refine kN ?_ _ | refine kD ?_ | refine kA ?_ _); refine blk_put (cs := #[.slice none 0 0, .slice none 0 0, .int .i64 0]) ?_ 0 _ rfl; exact lK BK351.out) Try.underlying25 rfl (by kernel_rfl)) rfl ?_
     exact ⟨_, _, by first | rfl | (simp [errW_none, errW_some] <;> rfl) | (simp [*, errW_none, errW_some] <;> rfl), by exact lR <| Kd.R_mono (Kd.R_far (p := ⟨gb351, 2, none⟩) (Kd.R_far (p := ⟨gb351, 1, none⟩) (Kd.R_far (p := ⟨gb351, 0, none⟩) (Kd.R_types HO363.out BK351.out (by decide)) (fun _ hk => by first | exact hk.2 | exact fun e_ => hk.2 (e_.trans (ob _ _ _ _))) (.slice Ao29 t361.length co29)) (fun _ hk => by first | exact hk.2 | exact fun e_ => hk.2 (e_.trans (ob _ _ _ _))) (.slice Ao31 t364.length co31)) (fun _ hk => by first | exact hk.2 | exact fun e_ => hk.2 (e_.trans (ob _ _ _ _))) (.int .i64 t367)) (fun _ hk => by first | exact hk.1.2.2 | exact fun e_ => hk.1.2.2 (e_.trans (ob _ _ _ _))), by exact lR <| Kd.R_mono (Kd.R_far (p := ⟨gb351, 2, none⟩) (Kd.R_far (p := ⟨gb351, 1, none⟩) (Kd.R_far (p := ⟨gb351, 0, none⟩) (Kd.R_types HO366.out BK351.out (by decide)) (fun _ hk => by first | exact hk.2 | exact fun e_ => hk.2 (e_.trans (ob _ _ _ _))) (.slice Ao29 t361.length co29)) (fun _ hk => by first | exact hk.2 | exact fun e_ => hk.2 (e_.trans (ob _ _ _ _))) (.slice Ao31 t364.length co31)) (fun _ hk => by first | exact hk.2 | exact fun e_ => hk.2 (e_.trans (ob _ _ _ _))) (.int .i64 t367)) (fun _ hk => by first | exact hk.1.2.2 | exact fun e_ => hk.1.2.2 (e_.trans (ob _ _ _ _))), by exact jB HB.out⟩
    ·replace c21 := Bool.eq_false_iff.mpr c21
     subst c21
     have H1 : (some (([] : List Int), ([] : List Int), 0)) = some (r1, r2, r3) := by rw [if_neg (show ¬ (false = true) by decide)] at H; exact H
     clear H
     have H := H1
     clear H1
     simp only [Option.some.injEq, Prod.mk.injEq] at H
     obtain ⟨rfl, rfl, rfl⟩ := H
     try go_wp2
     replace BK350 := Aside0.mk (blk_drew BK350.out)
     replace BK351 := Aside0.mk (blk_drew BK351.out)
     replace HB := Aside0.mk (below_drew1 HB.out)
     refine start_ (n := 6) (S := fun w' => w'.cell? ⟨gb350, 0, none⟩ = some (.slice A0_0 l0_0.length c0_0) ∧ w'.cell? ⟨gb350, 1, none⟩ = some (.slice A0_1 l0_1.length c0_1) ∧ w'.cell? ⟨gb350, 2, none⟩ = some (.int .i64 a0_2)) (ds := []) #[false, false, false, false, false, false] (by kernel_rfl) rfl rfl ⟨(blk_cell BK350.out 0).trans rfl, (blk_cell BK350.out 1).trans rfl, (blk_cell BK350.out 2).trans rfl⟩ (fun hHeld => ?_)
     generalize wc.drew = w41 at BK350 BK351 HB hHeld ⊢
     refine pure_ (i := 2) (N := some 17) (v := ?_) (a' := ?_) #[false, false, true, false, false, false] rfl rfl (by kernel_rfl) (fun _ _ _ h => h) (Or.inl ⟨by rfl, ?_⟩) ?_ ?_
     rotate_left
     ·intro w'
      go_simp
      with_reducible rfl
     rotate_left
     ·simp only [Act.put, sA, s0, sS, i64_w, i32_w]
      rfl
     refine take_ (i := 1) (N := some 16) (v := ?_) (a' := ?_) #[false, true, true, false, false, false] rfl rfl (by kernel_rfl) (fun _ _ _ h => h) (Or.inl ⟨by rfl, ?_⟩) hHeld ?_ ?_
     rotate_left
     ·rintro w' ⟨s0, s1, s2⟩
      go_simp
      with_reducible rfl
     rotate_left
     ·simp only [Act.put, sA, s0, sS, i64_w, i32_w]
      rfl
     refine join_ (σ := Value × Value × Value × Value × Nat) 1 #[true, true, true, true, true, false] (fun s_ => [(15, .agg #[s_.1, s_.2.1, .int .i64 t360]), (18, .agg #[s_.2.2.1, s_.2.2.2.1, .int .i64 t367]), (5, .pointer (some ⟨s_.2.2.2.2, 0, none⟩))]) (fun s_ w' => (w'.cell? ⟨gb350, 0, none⟩ = some (.slice A0_0 l0_0.length c0_0) ∧ w'.cell? ⟨gb350, 1, none⟩ = some (.slice A0_1 l0_1.length c0_1) ∧ w'.cell? ⟨gb350, 2, none⟩ = some (.int .i64 a0_2)) ∧ (Kd.R (Kd.int .i64) 3 w' w.heap.size (fun k_ => some k_ ≠ (s_.2.1 : Value).ownBlock ∧ some k_ ≠ (s_.2.2.1 : Value).ownBlock ∧ some k_ ≠ (s_.2.2.2.1 : Value).ownBlock) s_.1 t354) ∧ (Kd.R (Kd.int .i64) 3 w' w.heap.size (fun k_ => some k_ ≠ (s_.1 : Value).ownBlock ∧ some k_ ≠ (s_.2.2.1 : Value).ownBlock ∧ some k_ ≠ (s_.2.2.2.1 : Value).ownBlock) s_.2.1 t357) ∧ (Kd.R (Kd.int .i64) 3 w' w.heap.size (fun k_ => some k_ ≠ (s_.1 : Value).ownBlock ∧ some k_ ≠ (s_.2.1 : Value).ownBlock ∧ some k_ ≠ (s_.2.2.2.1 : Value).ownBlock) s_.2.2.1 t361) ∧ (Kd.R (Kd.int .i64) 3 w' w.heap.size (fun k_ => some k_ ≠ (s_.1 : Value).ownBlock ∧ some k_ ≠ (s_.2.1 : Value).ownBlock ∧ some k_ ≠ (s_.2.2.1 : Value).ownBlock) s_.2.2.2.1 t364) ∧ (w'.heap[gb350]? = some (.cells #[.slice A0_0 l0_0.length c0_0, .slice A0_1 l0_1.length c0_1, .int .i64 a0_2] 25 (0, 0))) ∧ (w'.heap[gb351]? = some (.cells #[.slice none 0 0, .slice none 0 0, .int .i64 0] 25 (0, 0))) ∧ (w'.heap[s_.2.2.2.2]? = some (.cells #[.slice none 0 0, .slice none 0 0, .int .i64 0] 25 (0, 0))) ∧ (w.heap.size ≤ s_.2.2.2.2) ∧ (w.heap.size ≤ s_.2.2.2.2) ∧ (gb350 ≠ s_.2.2.2.2) ∧ (s_.2.2.2.2 ≠ gb350) ∧ (gb351 ≠ s_.2.2.2.2) ∧ (s_.2.2.2.2 ≠ gb351) ∧ (Below w.heap.size w w')) ?_ ?_
     rotate_left
     ·intro hCont
      refine two_ (i := 0) (j := 4) (Ni := some 15) (Nj := some 5) #[true, true, true, false, false, false] #[false, true, true, false, true, false] rfl rfl rfl rfl (by kernel_rfl) (by decide) (by decide) (fun K hK => ?_) (fun K hK => ?_)
      ·skip
       refine goes_ Try.func37 (by kernel_rfl) rfl #[] (by rfl) rfl rfl (by (try simp only [mA, mC, mN]); first | done | rfl | (simp only [ld, lt]; rfl)) ?_
       with_reducible refine (spec_FrmZero.calls  t354 t357 t360 _ A18.out).mono ?_
       rintro e w42 ⟨v355, v358, rfl, ho0, ho1, hb⟩
       refine ⟨_, rfl, ?_⟩
       have HO356 := Aside0.mk (Kd.R_lower ho0 (below_size (by exact jB HB.out)))
       have HO359 := Aside0.mk (Kd.R_lower ho1 (below_size (by exact jB HB.out)))
       replace BK350 := Aside0.mk (bb BK350.out hb)
       replace BK351 := Aside0.mk (bb BK351.out hb)
       replace HB := Aside0.mk (below_step (by exact jB HB.out) hb)
       (try clear hb)
       (try clear hb2)
       (try clear hk)
       (try clear hi)
       (try clear ho0)
       (try clear ho1)
       obtain ⟨Ao43, co43, eo43⟩ := Kd.R_slice HO356.out
       (first | subst eo43 | (injection eo43 with f1_ f2_ f3_; have f4_ := f1_.symm; have f5_ := f3_.symm; clear f1_ f2_ f3_; subst f4_; subst f5_))
       obtain ⟨Ao44, co44, eo44⟩ := Kd.R_slice HO359.out
       (first | subst eo44 | (injection eo44 with f1_ f2_ f3_; have f4_ := f1_.symm; have f5_ := f3_.symm; clear f1_ f2_ f3_; subst f4_; subst f5_))
       refine hK.out _ _ ⟨(blk_cell BK350.out 0).trans rfl, (blk_cell BK350.out 1).trans rfl, (blk_cell BK350.out 2).trans rfl⟩ (fun hHeld => ?_)
       clear hK K
       refine norm_ (a' := ?_) ?_ ?_
       rotate_left
       ·show Act.put _ (some 15) _ = _
        simp only [Act.put, sA, s0, sS, i64_w, i32_w]
        rfl
       refine two_ (i := 3) (j := 4) (Ni := some 18) (Nj := some 5) #[true, true, true, true, false, false] #[true, true, true, false, true, false] rfl rfl rfl rfl (by kernel_rfl) (by decide) (by decide) (fun K hK => ?_) (fun K hK => ?_)
       ·skip
        refine goes_ Try.func30 (by kernel_rfl) rfl #[.agg #[.slice Ao43 t354.length co43, .slice Ao44 t357.length co44, .int .i64 t360], .agg #[.slice A0_0 l0_0.length c0_0, .slice A0_1 l0_1.length c0_1, .int .i64 a0_2], .int .i64 a1] (by rfl) rfl rfl (by (try simp only [mA, mC, mN]); first | done | rfl | (simp only [ld, lt]; rfl)) ?_
        with_reducible refine (spec_l1Sum.calls kj2 _ _ t354 _ _ t357 t360 _ _ l0_0 _ _ l0_1 a0_2 a1 t361 t364 t367 _ ?side1 ?side2 ?side3 ?side4 ?side5 ?side6 ?side7 ?side8 A19.out).mono ?_
        (case side1 => exact lC <| (Kd.R_reads' HO356.out).2.2)
        (case side2 => exact (Kd.R_reads' HO356.out).2.1)
        (case side3 => exact lC <| (Kd.R_reads' HO359.out).2.2)
        (case side4 => exact (Kd.R_reads' HO359.out).2.1)
        (case side5 => exact lC <| (Kd.C_below HR0_0.out HB.out))
        (case side6 => exact HC0_0.out)
        (case side7 => exact lC <| (Kd.C_below HR0_1.out HB.out))
        (case side8 => exact HC0_1.out)
        rintro e w45 ⟨v362, v365, rfl, ho0, ho1, hb⟩
        refine ⟨_, rfl, ?_⟩
        have HO363 := Aside0.mk (Kd.R_lower (Kd.R_new' (Kd.R_new' ho0 (rl HO356.out)) (rl HO359.out)) (below_size (by exact jB HB.out)))
        have HO366 := Aside0.mk (Kd.R_lower (Kd.R_new' (Kd.R_new' ho1 (rl HO356.out)) (rl HO359.out)) (below_size (by exact jB HB.out)))
        replace HO356 := Aside0.mk (o2 HO356.out hb ho0 ho1)
        replace HO359 := Aside0.mk (o2 HO359.out hb ho0 ho1)
        replace BK350 := Aside0.mk (bb BK350.out hb)
        replace BK351 := Aside0.mk (bb BK351.out hb)
        replace HB := Aside0.mk (below_step (by exact jB HB.out) hb)
        (try clear hb)
        (try clear hb2)
        (try clear hk)
        (try clear hi)
        (try clear ho0)
        (try clear ho1)
        refine hK.out _ _ ⟨(blk_cell BK350.out 0).trans rfl, (blk_cell BK350.out 1).trans rfl, (blk_cell BK350.out 2).trans rfl⟩ (fun hHeld => ?_)
        clear hK K
        refine norm_ (a' := ?_) ?_ ?_
        rotate_left
        ·show Act.put _ (some 18) _ = _
         simp only [Act.put, sA, s0, sS, i64_w, i32_w]
         rfl
        refine one_ (i := 4) (N := some 5) #[true, true, true, true, true, false] rfl rfl (by kernel_rfl) (by decide) (fun K hK => ?_)
        refine box_step ?hg (N := 5) ?hd (cs := #[.slice none 0 0, .slice none 0 0, .int .i64 0]) (t := 25) ?hr ?_; (case hd => rfl); (case hg => rfl); (case hr => first | (go_simp; done) | (go_simp; rfl))
        intro gb368 hg w46 hbox hb
        replace HO356 := Aside0.mk (rb HO356.out hb)
        replace HO359 := Aside0.mk (rb HO359.out hb)
        replace HO363 := Aside0.mk (rb HO363.out hb)
        replace HO366 := Aside0.mk (rb HO366.out hb)
        have BK368 := Aside0.mk (hbox)
        have GW368 := Aside0.mk ((by rw [hg]; exact (below_size (by exact jB HB.out)) : w.heap.size ≤ gb368))
        have IGW368 : Nonempty _ := ⟨GW368.out⟩
        have GE368 := Aside0.mk ((by rw [hg]; exact (below_size (by exact jB HB.out)) : w.heap.size ≤ gb368))
        have IGE368 : Nonempty _ := ⟨GE368.out⟩
        replace HB := Aside0.mk (below_step (by exact jB HB.out) hb)
        have NB350_368 := Aside0.mk ((neL hg (lK BK350.out) : gb350 ≠ gb368))
        have INB350_368 : Nonempty _ := ⟨NB350_368.out⟩
        have NB368_350 := Aside0.mk ((neG hg (lK BK350.out) : gb368 ≠ gb350))
        have INB368_350 : Nonempty _ := ⟨NB368_350.out⟩
        replace BK350 := Aside0.mk (bb BK350.out hb)
        have NB351_368 := Aside0.mk ((neL hg (lK BK351.out) : gb351 ≠ gb368))
        have INB351_368 : Nonempty _ := ⟨NB351_368.out⟩
        have NB368_351 := Aside0.mk ((neG hg (lK BK351.out) : gb368 ≠ gb351))
        have INB368_351 : Nonempty _ := ⟨NB368_351.out⟩
        replace BK351 := Aside0.mk (bb BK351.out hb)
        clear hb hbox hg
        refine hK.out _ _ ⟨(blk_cell BK350.out 0).trans rfl, (blk_cell BK350.out 1).trans rfl, (blk_cell BK350.out 2).trans rfl⟩ (fun hHeld => ?_)
        clear hK K
        refine norm_ (a' := ?_) ?_ ?_
        rotate_left
        ·show Act.put _ (some 5) _ = _
         simp only [Act.put, sA, s0, sS, i64_w, i32_w]
         rfl
        exact norm_ (by simp only [putAll, Act.put, List.setIfInBounds_toArray, List.set_cons_zero, List.set_cons_succ]) (hCont (.slice Ao43 t354.length co43, .slice Ao44 t357.length co44, v362, v365, gb368) _ ⟨hHeld, (by exact lR <| Kd.R_mono HO356.out (fun _ hk => ⟨hk.1.1, ⟨hk.1.2, hk.2⟩⟩)), (by exact lR <| Kd.R_mono HO359.out (fun _ hk => ⟨hk.1.1, ⟨hk.1.2, hk.2⟩⟩)), (by exact lR <| Kd.R_mono HO363.out (fun _ hk => ⟨hk.1.2, ⟨hk.2, hk.1.1⟩⟩)), (by exact lR <| Kd.R_mono HO366.out (fun _ hk => ⟨hk.1.2, ⟨hk.2, hk.1.1⟩⟩)), (by exact lK BK350.out), (by exact lK BK351.out), (by exact lK BK368.out), GW368.out, GE368.out, NB350_368.out, NB368_350.out, NB351_368.out, NB368_351.out, (by exact jB HB.out)⟩)
       ·skip
        refine box_step ?hg (N := 5) ?hd (cs := #[.slice none 0 0, .slice none 0 0, .int .i64 0]) (t := 25) ?hr ?_; (case hd => rfl); (case hg => rfl); (case hr => first | (go_simp; done) | (go_simp; rfl))
        intro gb368 hg w43 hbox hb
        replace HO356 := Aside0.mk (rb HO356.out hb)
        replace HO359 := Aside0.mk (rb HO359.out hb)
        have BK368 := Aside0.mk (hbox)
        have GW368 := Aside0.mk ((by rw [hg]; exact (below_size (by exact jB HB.out)) : w.heap.size ≤ gb368))
        have IGW368 : Nonempty _ := ⟨GW368.out⟩
        have GE368 := Aside0.mk ((by rw [hg]; exact (below_size (by exact jB HB.out)) : w.heap.size ≤ gb368))
        have IGE368 : Nonempty _ := ⟨GE368.out⟩
        replace HB := Aside0.mk (below_step (by exact jB HB.out) hb)
        have NB350_368 := Aside0.mk ((neL hg (lK BK350.out) : gb350 ≠ gb368))
        have INB350_368 : Nonempty _ := ⟨NB350_368.out⟩
        have NB368_350 := Aside0.mk ((neG hg (lK BK350.out) : gb368 ≠ gb350))
        have INB368_350 : Nonempty _ := ⟨NB368_350.out⟩
        replace BK350 := Aside0.mk (bb BK350.out hb)
        have NB351_368 := Aside0.mk ((neL hg (lK BK351.out) : gb351 ≠ gb368))
        have INB351_368 : Nonempty _ := ⟨NB351_368.out⟩
        have NB368_351 := Aside0.mk ((neG hg (lK BK351.out) : gb368 ≠ gb351))
        have INB368_351 : Nonempty _ := ⟨NB368_351.out⟩
        replace BK351 := Aside0.mk (bb BK351.out hb)
        clear hb hbox hg
        obtain ⟨Ao44, co44, eo44⟩ := Kd.R_slice HO356.out
        (first | subst eo44 | (injection eo44 with f1_ f2_ f3_; have f4_ := f1_.symm; have f5_ := f3_.symm; clear f1_ f2_ f3_; subst f4_; subst f5_))
        obtain ⟨Ao45, co45, eo45⟩ := Kd.R_slice HO359.out
        (first | subst eo45 | (injection eo45 with f1_ f2_ f3_; have f4_ := f1_.symm; have f5_ := f3_.symm; clear f1_ f2_ f3_; subst f4_; subst f5_))
        refine hK.out _ _ ⟨(blk_cell BK350.out 0).trans rfl, (blk_cell BK350.out 1).trans rfl, (blk_cell BK350.out 2).trans rfl⟩ (fun hHeld => ?_)
        clear hK K
        refine norm_ (a' := ?_) ?_ ?_
        rotate_left
        ·show Act.put _ (some 5) _ = _
         simp only [Act.put, sA, s0, sS, i64_w, i32_w]
         rfl
        refine one_ (i := 3) (N := some 18) #[true, true, true, true, true, false] rfl rfl (by kernel_rfl) (by decide) (fun K hK => ?_)
        refine goes_ Try.func30 (by kernel_rfl) rfl #[.agg #[.slice Ao44 t354.length co44, .slice Ao45 t357.length co45, .int .i64 t360], .agg #[.slice A0_0 l0_0.length c0_0, .slice A0_1 l0_1.length c0_1, .int .i64 a0_2], .int .i64 a1] (by rfl) rfl rfl (by (try simp only [mA, mC, mN]); first | done | rfl | (simp only [ld, lt]; rfl)) ?_
        with_reducible refine (spec_l1Sum.calls kj2 _ _ t354 _ _ t357 t360 _ _ l0_0 _ _ l0_1 a0_2 a1 t361 t364 t367 _ ?side1 ?side2 ?side3 ?side4 ?side5 ?side6 ?side7 ?side8 A19.out).mono ?_
        (case side1 => exact lC <| (Kd.R_reads' HO356.out).2.2)
        (case side2 => exact (Kd.R_reads' HO356.out).2.1)
        (case side3 => exact lC <| (Kd.R_reads' HO359.out).2.2)
        (case side4 => exact (Kd.R_reads' HO359.out).2.1)
        (case side5 => exact lC <| (Kd.C_below HR0_0.out HB.out))
        (case side6 => exact HC0_0.out)
        (case side7 => exact lC <| (Kd.C_below HR0_1.out HB.out))
        (case side8 => exact HC0_1.out)
        rintro e w46 ⟨v362, v365, rfl, ho0, ho1, hb⟩
        refine ⟨_, rfl, ?_⟩
        have HO363 := Aside0.mk (Kd.R_lower (Kd.R_new' (Kd.R_new' ho0 (rl HO356.out)) (rl HO359.out)) (below_size (by exact jB HB.out)))
        have HO366 := Aside0.mk (Kd.R_lower (Kd.R_new' (Kd.R_new' ho1 (rl HO356.out)) (rl HO359.out)) (below_size (by exact jB HB.out)))
        replace HO356 := Aside0.mk (o2 HO356.out hb ho0 ho1)
        replace HO359 := Aside0.mk (o2 HO359.out hb ho0 ho1)
        replace BK350 := Aside0.mk (bb BK350.out hb)
        replace BK351 := Aside0.mk (bb BK351.out hb)
        replace BK368 := Aside0.mk (bb BK368.out hb)
        replace HB := Aside0.mk (below_step (by exact jB HB.out) hb)
        (try clear hb)
        (try clear hb2)
        (try clear hk)
        (try clear hi)
        (try clear ho0)
        (try clear ho1)
        refine hK.out _ _ ⟨(blk_cell BK350.out 0).trans rfl, (blk_cell BK350.out 1).trans rfl, (blk_cell BK350.out 2).trans rfl⟩ (fun hHeld => ?_)
        clear hK K
        refine norm_ (a' := ?_) ?_ ?_
        rotate_left
        ·show Act.put _ (some 18) _ = _
         simp only [Act.put, sA, s0, sS, i64_w, i32_w]
         rfl
        exact norm_ (by simp only [putAll, Act.put, List.setIfInBounds_toArray, List.set_cons_zero, List.set_cons_succ]) (hCont (.slice Ao44 t354.length co44, .slice Ao45 t357.length co45, v362, v365, gb368) _ ⟨hHeld, (by exact lR <| Kd.R_mono HO356.out (fun _ hk => ⟨hk.1.1, ⟨hk.1.2, hk.2⟩⟩)), (by exact lR <| Kd.R_mono HO359.out (fun _ hk => ⟨hk.1.1, ⟨hk.1.2, hk.2⟩⟩)), (by exact lR <| Kd.R_mono HO363.out (fun _ hk => ⟨hk.1.2, ⟨hk.2, hk.1.1⟩⟩)), (by exact lR <| Kd.R_mono HO366.out (fun _ hk => ⟨hk.1.2, ⟨hk.2, hk.1.1⟩⟩)), (by exact lK BK350.out), (by exact lK BK351.out), (by exact lK BK368.out), GW368.out, GE368.out, NB350_368.out, NB368_350.out, NB351_368.out, NB368_351.out, (by exact jB HB.out)⟩)
      ·skip
       refine box_step ?hg (N := 5) ?hd (cs := #[.slice none 0 0, .slice none 0 0, .int .i64 0]) (t := 25) ?hr ?_; (case hd => rfl); (case hg => rfl); (case hr => first | (go_simp; done) | (go_simp; rfl))
       intro gb368 hg w42 hbox hb
       have BK368 := Aside0.mk (hbox)
       have GW368 := Aside0.mk ((by rw [hg]; exact (below_size (by exact jB HB.out)) : w.heap.size ≤ gb368))
       have IGW368 : Nonempty _ := ⟨GW368.out⟩
       have GE368 := Aside0.mk ((by rw [hg]; exact (below_size (by exact jB HB.out)) : w.heap.size ≤ gb368))
       have IGE368 : Nonempty _ := ⟨GE368.out⟩
       replace HB := Aside0.mk (below_step (by exact jB HB.out) hb)
       have NB350_368 := Aside0.mk ((neL hg (lK BK350.out) : gb350 ≠ gb368))
       have INB350_368 : Nonempty _ := ⟨NB350_368.out⟩
       have NB368_350 := Aside0.mk ((neG hg (lK BK350.out) : gb368 ≠ gb350))
       have INB368_350 : Nonempty _ := ⟨NB368_350.out⟩
       replace BK350 := Aside0.mk (bb BK350.out hb)
       have NB351_368 := Aside0.mk ((neL hg (lK BK351.out) : gb351 ≠ gb368))
       have INB351_368 : Nonempty _ := ⟨NB351_368.out⟩
       have NB368_351 := Aside0.mk ((neG hg (lK BK351.out) : gb368 ≠ gb351))
       have INB368_351 : Nonempty _ := ⟨NB368_351.out⟩
       replace BK351 := Aside0.mk (bb BK351.out hb)
       clear hb hbox hg
       refine hK.out _ _ ⟨(blk_cell BK350.out 0).trans rfl, (blk_cell BK350.out 1).trans rfl, (blk_cell BK350.out 2).trans rfl⟩ (fun hHeld => ?_)
       clear hK K
       refine norm_ (a' := ?_) ?_ ?_
       rotate_left
       ·show Act.put _ (some 5) _ = _
        simp only [Act.put, sA, s0, sS, i64_w, i32_w]
        rfl
       refine one_ (i := 0) (N := some 15) #[true, true, true, false, true, false] rfl rfl (by kernel_rfl) (by decide) (fun K hK => ?_)
       refine goes_ Try.func37 (by kernel_rfl) rfl #[] (by rfl) rfl rfl (by (try simp only [mA, mC, mN]); first | done | rfl | (simp only [ld, lt]; rfl)) ?_
       with_reducible refine (spec_FrmZero.calls  t354 t357 t360 _ A18.out).mono ?_
       rintro e w43 ⟨v355, v358, rfl, ho0, ho1, hb⟩
       refine ⟨_, rfl, ?_⟩
       have HO356 := Aside0.mk (Kd.R_lower ho0 (below_size (by exact jB HB.out)))
       have HO359 := Aside0.mk (Kd.R_lower ho1 (below_size (by exact jB HB.out)))
       replace BK350 := Aside0.mk (bb BK350.out hb)
       replace BK351 := Aside0.mk (bb BK351.out hb)
       replace BK368 := Aside0.mk (bb BK368.out hb)
       replace HB := Aside0.mk (below_step (by exact jB HB.out) hb)
       (try clear hb)
       (try clear hb2)
       (try clear hk)
       (try clear hi)
       (try clear ho0)
       (try clear ho1)
       obtain ⟨Ao44, co44, eo44⟩ := Kd.R_slice HO356.out
       (first | subst eo44 | (injection eo44 with f1_ f2_ f3_; have f4_ := f1_.symm; have f5_ := f3_.symm; clear f1_ f2_ f3_; subst f4_; subst f5_))
       obtain ⟨Ao45, co45, eo45⟩ := Kd.R_slice HO359.out
       (first | subst eo45 | (injection eo45 with f1_ f2_ f3_; have f4_ := f1_.symm; have f5_ := f3_.symm; clear f1_ f2_ f3_; subst f4_; subst f5_))
       refine hK.out _ _ ⟨(blk_cell BK350.out 0).trans rfl, (blk_cell BK350.out 1).trans rfl, (blk_cell BK350.out 2).trans rfl⟩ (fun hHeld => ?_)
       clear hK K
       refine norm_ (a' := ?_) ?_ ?_
       rotate_left
       ·show Act.put _ (some 15) _ = _
        simp only [Act.put, sA, s0, sS, i64_w, i32_w]
        rfl
       refine one_ (i := 3) (N := some 18) #[true, true, true, true, true, false] rfl rfl (by kernel_rfl) (by decide) (fun K hK => ?_)
       refine goes_ Try.func30 (by kernel_rfl) rfl #[.agg #[.slice Ao44 t354.length co44, .slice Ao45 t357.length co45, .int .i64 t360], .agg #[.slice A0_0 l0_0.length c0_0, .slice A0_1 l0_1.length c0_1, .int .i64 a0_2], .int .i64 a1] (by rfl) rfl rfl (by (try simp only [mA, mC, mN]); first | done | rfl | (simp only [ld, lt]; rfl)) ?_
       with_reducible refine (spec_l1Sum.calls kj2 _ _ t354 _ _ t357 t360 _ _ l0_0 _ _ l0_1 a0_2 a1 t361 t364 t367 _ ?side1 ?side2 ?side3 ?side4 ?side5 ?side6 ?side7 ?side8 A19.out).mono ?_
       (case side1 => exact lC <| (Kd.R_reads' HO356.out).2.2)
       (case side2 => exact (Kd.R_reads' HO356.out).2.1)
       (case side3 => exact lC <| (Kd.R_reads' HO359.out).2.2)
       (case side4 => exact (Kd.R_reads' HO359.out).2.1)
       (case side5 => exact lC <| (Kd.C_below HR0_0.out HB.out))
       (case side6 => exact HC0_0.out)
       (case side7 => exact lC <| (Kd.C_below HR0_1.out HB.out))
       (case side8 => exact HC0_1.out)
       rintro e w46 ⟨v362, v365, rfl, ho0, ho1, hb⟩
       refine ⟨_, rfl, ?_⟩
       have HO363 := Aside0.mk (Kd.R_lower (Kd.R_new' (Kd.R_new' ho0 (rl HO356.out)) (rl HO359.out)) (below_size (by exact jB HB.out)))
       have HO366 := Aside0.mk (Kd.R_lower (Kd.R_new' (Kd.R_new' ho1 (rl HO356.out)) (rl HO359.out)) (below_size (by exact jB HB.out)))
       replace HO356 := Aside0.mk (o2 HO356.out hb ho0 ho1)
       replace HO359 := Aside0.mk (o2 HO359.out hb ho0 ho1)
       replace BK350 := Aside0.mk (bb BK350.out hb)
       replace BK351 := Aside0.mk (bb BK351.out hb)
       replace BK368 := Aside0.mk (bb BK368.out hb)
       replace HB := Aside0.mk (below_step (by exact jB HB.out) hb)
       (try clear hb)
       (try clear hb2)
       (try clear hk)
       (try clear hi)
       (try clear ho0)
       (try clear ho1)
       refine hK.out _ _ ⟨(blk_cell BK350.out 0).trans rfl, (blk_cell BK350.out 1).trans rfl, (blk_cell BK350.out 2).trans rfl⟩ (fun hHeld => ?_)
       clear hK K
       refine norm_ (a' := ?_) ?_ ?_
       rotate_left
       ·show Act.put _ (some 18) _ = _
        simp only [Act.put, sA, s0, sS, i64_w, i32_w]
        rfl
       exact norm_ (by simp only [putAll, Act.put, List.setIfInBounds_toArray, List.set_cons_zero, List.set_cons_succ]) (hCont (.slice Ao44 t354.length co44, .slice Ao45 t357.length co45, v362, v365, gb368) _ ⟨hHeld, (by exact lR <| Kd.R_mono HO356.out (fun _ hk => ⟨hk.1.1, ⟨hk.1.2, hk.2⟩⟩)), (by exact lR <| Kd.R_mono HO359.out (fun _ hk => ⟨hk.1.1, ⟨hk.1.2, hk.2⟩⟩)), (by exact lR <| Kd.R_mono HO363.out (fun _ hk => ⟨hk.1.2, ⟨hk.2, hk.1.1⟩⟩)), (by exact lR <| Kd.R_mono HO366.out (fun _ hk => ⟨hk.1.2, ⟨hk.2, hk.1.1⟩⟩)), (by exact lK BK350.out), (by exact lK BK351.out), (by exact lK BK368.out), GW368.out, GE368.out, NB350_368.out, NB368_350.out, NB351_368.out, NB368_351.out, (by exact jB HB.out)⟩)
     rintro ⟨v355, v358, v362, v365, gb368⟩ w47 ⟨hS_, h0_, h1_, h2_, h3_, h4_, h5_, h6_, h7_, h8_, h9_, h10_, h11_, h12_, h13_⟩
     have HO356 : Aside0 (Kd.R (Kd.int .i64) 3 w47 w.heap.size (fun k_ => some k_ ≠ (v358 : Value).ownBlock ∧ some k_ ≠ (v362 : Value).ownBlock ∧ some k_ ≠ (v365 : Value).ownBlock) v355 t354) := ⟨h0_⟩
     have HO359 : Aside0 (Kd.R (Kd.int .i64) 3 w47 w.heap.size (fun k_ => some k_ ≠ (v355 : Value).ownBlock ∧ some k_ ≠ (v362 : Value).ownBlock ∧ some k_ ≠ (v365 : Value).ownBlock) v358 t357) := ⟨h1_⟩
     have HO363 : Aside0 (Kd.R (Kd.int .i64) 3 w47 w.heap.size (fun k_ => some k_ ≠ (v355 : Value).ownBlock ∧ some k_ ≠ (v358 : Value).ownBlock ∧ some k_ ≠ (v365 : Value).ownBlock) v362 t361) := ⟨h2_⟩
     have HO366 : Aside0 (Kd.R (Kd.int .i64) 3 w47 w.heap.size (fun k_ => some k_ ≠ (v355 : Value).ownBlock ∧ some k_ ≠ (v358 : Value).ownBlock ∧ some k_ ≠ (v362 : Value).ownBlock) v365 t364) := ⟨h3_⟩
     replace BK350 : Aside0 (w47.heap[gb350]? = some (.cells #[.slice A0_0 l0_0.length c0_0, .slice A0_1 l0_1.length c0_1, .int .i64 a0_2] 25 (0, 0))) := ⟨h4_⟩
     replace BK351 : Aside0 (w47.heap[gb351]? = some (.cells #[.slice none 0 0, .slice none 0 0, .int .i64 0] 25 (0, 0))) := ⟨h5_⟩
     have BK368 : Aside0 (w47.heap[gb368]? = some (.cells #[.slice none 0 0, .slice none 0 0, .int .i64 0] 25 (0, 0))) := ⟨h6_⟩
     have GW368 : Aside0 (w.heap.size ≤ gb368) := ⟨h7_⟩
     have IGW368 : Nonempty _ := ⟨GW368.out⟩
     have GE368 : Aside0 (w.heap.size ≤ gb368) := ⟨h8_⟩
     have IGE368 : Nonempty _ := ⟨GE368.out⟩
     have NB350_368 : Aside0 (gb350 ≠ gb368) := ⟨h9_⟩
     have INB350_368 : Nonempty _ := ⟨NB350_368.out⟩
     have NB368_350 : Aside0 (gb368 ≠ gb350) := ⟨h10_⟩
     have INB368_350 : Nonempty _ := ⟨NB368_350.out⟩
     have NB351_368 : Aside0 (gb351 ≠ gb368) := ⟨h11_⟩
     have INB351_368 : Nonempty _ := ⟨NB351_368.out⟩
     have NB368_351 : Aside0 (gb368 ≠ gb351) := ⟨h12_⟩
     have INB368_351 : Nonempty _ := ⟨NB368_351.out⟩
     replace HB : Aside0 (Below w.heap.size w w47) := ⟨h13_⟩
     clear h0_ h1_ h2_ h3_ h4_ h5_ h6_ h7_ h8_ h9_ h10_ h11_ h12_ h13_
     have hHeld : w47.cell? ⟨gb350, 0, none⟩ = some (.slice A0_0 l0_0.length c0_0) ∧ w47.cell? ⟨gb350, 1, none⟩ = some (.slice A0_1 l0_1.length c0_1) ∧ w47.cell? ⟨gb350, 2, none⟩ = some (.int .i64 a0_2) := hS_
     obtain ⟨Ao48, co48, eo48⟩ := Kd.R_slice HO363.out
     (first | subst eo48 | (injection eo48 with f1_ f2_ f3_; have f4_ := f1_.symm; have f5_ := f3_.symm; clear f1_ f2_ f3_; subst f4_; subst f5_))
     obtain ⟨Ao50, co50, eo50⟩ := Kd.R_slice HO366.out
     (first | subst eo50 | (injection eo50 with f1_ f2_ f3_; have f4_ := f1_.symm; have f5_ := f3_.symm; clear f1_ f2_ f3_; subst f4_; subst f5_))
     refine norm_ (a' := ?_) ?_ ?_
     rotate_left
     ·simp only [putAll, Act.put, List.setIfInBounds_toArray, List.set_cons_zero, List.set_cons_succ]
      rfl
     refine one_ (i := 5) (N := none) #[true, true, true, true, true, true] rfl rfl (by kernel_rfl) (by decide) (fun K hK => ?_)
     have hs49 : w47.cell? ⟨gb368, 0, none⟩ = some (.slice none 0 0) := (blk_cell BK368.out 0).trans rfl
     have hfs49 := blk_frozen BK368.out 0
     have hns49_0 := NB350_368.out
     have hns49_1 := NB351_368.out
     have hms49_0 := NB368_350.out
     have hms49_1 := NB368_351.out
     have hs51 : w47.cell? ⟨gb368, 1, none⟩ = some (.slice none 0 0) := (blk_cell BK368.out 1).trans rfl
     have hfs51 := blk_frozen BK368.out 1
     have hns51_0 := NB350_368.out
     have hns51_1 := NB351_368.out
     have hms51_0 := NB368_350.out
     have hms51_1 := NB368_351.out
     have hs52 : w47.cell? ⟨gb368, 2, none⟩ = some (.int .i64 0) := (blk_cell BK368.out 2).trans rfl
     have hfs52 := blk_frozen BK368.out 2
     have hns52_0 := NB350_368.out
     have hns52_1 := NB351_368.out
     have hms52_0 := NB368_350.out
     have hms52_1 := NB368_351.out
     refine skip_ (w1 := ?_) (by rfl) rfl ?_ ?_
     rotate_left
     ·go_simp
      rfl
     refine hK.out _ _ ⟨((cell_far (p := ⟨gb368, _, none⟩) NB350_368.out _).trans (((cell_far (p := ⟨gb368, _, none⟩) NB350_368.out _).trans (((cell_far (p := ⟨gb368, _, none⟩) NB350_368.out _).trans (hHeld.1)))))), ((cell_far (p := ⟨gb368, _, none⟩) NB350_368.out _).trans (((cell_far (p := ⟨gb368, _, none⟩) NB350_368.out _).trans (((cell_far (p := ⟨gb368, _, none⟩) NB350_368.out _).trans (hHeld.2.1)))))), ((cell_far (p := ⟨gb368, _, none⟩) NB350_368.out _).trans (((cell_far (p := ⟨gb368, _, none⟩) NB350_368.out _).trans (((cell_far (p := ⟨gb368, _, none⟩) NB350_368.out _).trans (hHeld.2.2))))))⟩ (fun hHeld => ?_)
     clear hK K
     refine done_ (by kernel_rfl) ?_
     have hnb53 := NB368_350.out
     have hnc53 := NB350_368.out
     have hnb54 := NB368_351.out
     have hnc54 := NB351_368.out
     obtain ⟨hcz55_0, hcz55_1, hcz55_2, hfz55_0, hfz55_1, hfz55_2⟩ := cf3 BK368.out
     try go_wp2_with (first | ((with_reducible refine gate_callee (f := 17) rfl ?_); refine goesL_ (some 20) rfl rfl Try.func17 (by kernel_rfl) rfl #[.agg #[.slice Ao48 t361.length co48, .slice Ao50 t364.length co50, .int .i64 t367]] rfl (by (try simp only [mA, mC, mN]); first | done | rfl | (simp only [ld, lt]; rfl)) ?_; (with_reducible refine (spec_FrmOk.calls kj2 _ _ t361 _ _ t364 t367 false _ ?side1 ?side2 ?side3 ?side4 A20.out).mono ?_); (case side1 => refine (Kd.R_reads' (e := 3) (base := w.heap.size) (ok := fun k_ => (some k_ ≠ (v355 : Value).ownBlock ∧ (some k_ ≠ (v358 : Value).ownBlock ∧ some k_ ≠ (.slice Ao50 t364.length co50 : Value).ownBlock))) (n := t361.length) (c := co48) ?_).2.2; exact (by (with_reducible repeat (first | apply ra | apply rn | apply re)); exact (R3 HO363.out BK368.out))); (case side2 => exact (Kd.R_reads' HO363.out).2.1); (case side3 => refine (Kd.R_reads' (e := 3) (base := w.heap.size) (ok := fun k_ => (some k_ ≠ (v355 : Value).ownBlock ∧ (some k_ ≠ (v358 : Value).ownBlock ∧ some k_ ≠ (.slice Ao48 t361.length co48 : Value).ownBlock))) (n := t364.length) (c := co50) ?_).2.2; exact (by (with_reducible repeat (first | apply ra | apply rn | apply re)); exact (R3 HO366.out BK368.out))); (case side4 => exact (Kd.R_reads' HO366.out).2.1); rintro e w56 ⟨rfl, hb⟩; refine ⟨_, rfl, ?_⟩; replace HO356 := Aside0.mk (Kd.R_below (by (with_reducible repeat (first | apply ra | apply rn | apply re)); exact (R3 HO356.out BK368.out)) hb); replace HO359 := Aside0.mk (Kd.R_below (by (with_reducible repeat (first | apply ra | apply rn | apply re)); exact (R3 HO359.out BK368.out)) hb); replace HO363 := Aside0.mk (Kd.R_below (by (with_reducible repeat (first | apply ra | apply rn | apply re)); exact (R3 HO363.out BK368.out)) hb); replace HO366 := Aside0.mk (Kd.R_below (by (with_reducible repeat (first | apply ra | apply rn | apply re)); exact (R3 HO366.out BK368.out)) hb); replace BK350 := Aside0.mk (blk_below (g := gb350) (o := .cells #[.slice A0_0 l0_0.length c0_0, .slice A0_1 l0_1.length c0_1, .int .i64 a0_2] 25 (0, 0)) (by (with_reducible repeat first | refine kN ?_ _ | refine kD ?_ | refine kA ?_ _); refine blk_far ?_ NB350_368.out _; (with_reducible repeat first | refine kN ?_ _ | refine kD ?_ | refine kA ?_ _); refine blk_far ?_ NB350_368.out _; (with_reducible repeat first | refine kN ?_ _ | refine kD ?_ | refine kA ?_ _); refine blk_far ?_ NB350_368.out _; exact lK BK350.out) hb); replace BK351 := Aside0.mk (blk_below (g := gb351) (o := .cells #[.slice none 0 0, .slice none 0 0, .int .i64 0] 25 (0, 0)) (by (with_reducible repeat first | refine kN ?_ _ | refine kD ?_ | refine kA ?_ _); refine blk_far ?_ NB351_368.out _; (with_reducible repeat first | refine kN ?_ _ | refine kD ?_ | refine kA ?_ _); refine blk_far ?_ NB351_368.out _; (with_reducible repeat first | refine kN ?_ _ | refine kD ?_ | refine kA ?_ _); refine blk_far ?_ NB351_368.out _; exact lK BK351.out) hb); replace BK368 := Aside0.mk (blk_below (g := gb368) (o := .cells #[.slice Ao48 t361.length co48, .slice Ao50 t364.length co50, .int .i64 t367] 25 (0, 0)) (by (with_reducible repeat first | refine kN ?_ _ | refine kD ?_ | refine kA ?_ _); refine blk_put (cs := #[.slice Ao48 t361.length co48, .slice Ao50 t364.length co50, .int .i64 0]) ?_ 2 _ rfl; (with_reducible repeat first | refine kN ?_ _ | refine kD ?_ | refine kA ?_ _); refine blk_put (cs := #[.slice Ao48 t361.length co48, .slice none 0 0, .int .i64 0]) ?_ 1 _ rfl; (with_reducible repeat first | refine kN ?_ _ | refine kD ?_ | refine kA ?_ _); refine blk_put (cs := #[.slice none 0 0, .slice none 0 0, .int .i64 0]) ?_ 0 _ rfl; exact lK BK368.out) hb); replace HB := Aside0.mk (below_step (by exact jB HB.out) hb); (try clear hb); (try clear hb2); (try clear hk); (try clear hi); have hnb57 := NB351_350.out; have hnc57 := NB350_351.out; obtain ⟨hcz58_0, hcz58_1, hcz58_2, hfz58_0, hfz58_1, hfz58_2⟩ := cf3 BK351.out))
     refine bodyPost_ret (results_cell_row rfl _ _ gb351 25 #[.slice none 0 0, .slice none 0 0, .int .i64 0] (0, 0) _ rfl (by (with_reducible repeat first | refine kN ?_ _ | refine kD ?_ | refine kA ?_ _); refine blk_put (cs := #[.slice none 0 0, .slice none 0 0, .int .i64 0]) ?_ 2 _ rfl; (with_reducible repeat first | refine kN ?_ _ | refine kD ?_ | refine kA ?_ _); refine blk_put (cs := #[.slice none 0 0, .slice none 0 0, .int .i64 0]) ?_ 1 _ rfl; (with_reducible repeat first | refine kN ?_ _ | refine kD ?_ | refine kA ?_ _); refine blk_put (cs := #[.slice none 0 0, .slice none 0 0, .int .i64 0]) ?_ 0 _ rfl; exact lK BK351.out) Try.underlying25 rfl (by kernel_rfl)) rfl ?_
     exact ⟨_, _, by first | rfl | (simp [errW_none, errW_some] <;> rfl) | (simp [*, errW_none, errW_some] <;> rfl), by first | exact Kd.R_nil _ _ _ _ _ | exact Kd.N_nil _ _ _ _ _ | exact Kd.V_nil _ _ _ _ _ | exact Kd.Q_nil _ _ _ _ _ | exact Kd.S_nil _ _ _ _ _, by first | exact Kd.R_nil _ _ _ _ _ | exact Kd.N_nil _ _ _ _ _ | exact Kd.V_nil _ _ _ _ _ | exact Kd.Q_nil _ _ _ _ _ | exact Kd.S_nil _ _ _ _ _, by exact jB HB.out⟩

end Go.Proofs.Ytopbdoilpdpkmaa.QFnFrmTimes

-- shorter
