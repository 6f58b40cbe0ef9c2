/- Plain functions, and that the Go code computes them: written by a program of this session over the seat's translation; the conditions stand in each theorem. -/
import Derived.Test.YtgalnmgkcdmnkaaQFnActSkipx0
import Derived.Test.YtgalnmgkcdmnkaaQFnActSkipx2
import Derived.Test.YtgalnmgkcdmnkaaQFnActSkipx10
namespace Go.Proofs.Ytgalnmgkcdmnkaa.QFnActSkip
open Go.RowKit Go.Proofs.YtgalnmgkcdmnkaaW.PrintWords Go.Proofs.YtgalnmgkcdmnkaaW.PrintLast Go.Proofs.YtgalnmgkcdmnkaaW.PrintMore Go.Proofs.Ytgalnmgkcdmnkaa.HWords
open Value (ownBlock)
attribute [local go_sem] max2_int min2_int max_two min_two max_three min_three max_four min_four   -- for this text's walks alone
set_option linter.unusedVariables false
set_option linter.unusedSimpArgs false

/-! ### spec_ActRun: function 14 -/
mutual
def spec_ActRun.j0 : Nat → List (S45) → List Int → List Int → Bool → Option (Int × List Int × List Int)
 | 0, _, _, _, _ => none
 | k + 1, x0, x1, x2, x24 => if x24 = true then (some (0, ([] : List Int), (([] : List Int)))) else ((some (([] : List Int) : List Int)).bind fun y652 => (if y652.length + x1.length < 17592186044416 then (spec_ActRun.l0 k x0 x1 x2 (y652 ++ x1) (([] : List Int)) 0) else (none)))
def spec_ActRun.l0 : Nat → List (S45) → List Int → List Int → List Int → List Int → Int → Option (Int × List Int × List Int)
 | 0, _, _, _, _, _, _ => none
 | k + 1, x0, x1, x2, x8, x9, x10 => if x10 < (x0.length : Int) then (if 0 ≤ x10 then (if ((rd_T45 x0 x10).f0) = 1 then ((spec_l1At.f k ((rd_T45 x0 x10).f3.f0) ((rd_T45 x0 x10).f3.f1) ((rd_T45 x0 x10).f3.f2) x8 x2).bind fun t670 => (if t670 < 0 then (spec_ActRun.l0 k x0 x1 x2 x8 x9 (wrap64 ((wrap64 (x10 + ((rd_T45 x0 x10).f2))) + 1))) else (spec_ActRun.l0 k x0 x1 x2 x8 x9 (wrap64 (x10 + 1))))) else (if ((rd_T45 x0 x10).f0) = 2 then (if 0 ≤ ((rd_T45 x0 x10).f1) then (if ((rd_T45 x0 x10).f1) < (x8.length : Int) then ((spec_l1At.f k ((rd_T45 x0 x10).f3.f0) ((rd_T45 x0 x10).f3.f1) ((rd_T45 x0 x10).f3.f2) x8 x2).bind fun t672 => (spec_ActRun.l0 k x0 x1 x2 (x8.set (((rd_T45 x0 x10).f1) : Int).toNat (wrap64 ((rd x8 ((rd_T45 x0 x10).f1)) + t672))) x9 (wrap64 (x10 + 1)))) else (none)) else (none)) else (if ((rd_T45 x0 x10).f0) = 3 then ((spec_l1At.f k ((rd_T45 x0 x10).f3.f0) ((rd_T45 x0 x10).f3.f1) ((rd_T45 x0 x10).f3.f2) x8 x2).bind fun t674 => (if x9.length < 17592186044416 then (spec_ActRun.l0 k x0 x1 x2 x8 (x9 ++ [t674]) (wrap64 (x10 + 1))) else (none))) else ((some (([] : List Int) : List Int)).bind fun y678 => (if y678.length + x1.length < 17592186044416 then (some (2, ([] : List Int), (y678 ++ x1))) else (none)))))) else (none)) else ((spec_l2End.f k x1 x8 x9).bind fun bt661 => (some (bt661.1, bt661.2.1, bt661.2.2)))
end
def spec_ActRun.f (k : Nat) (l0 : List (S45)) (l1 : List Int) (l2 : List Int) : Option (Int × List Int × List Int) := (spec_ActOk.f k l0).bind fun t646 => (if t646 = true then ((spec_ValOk.f k l1).bind fun t647 => (if t647 = true then ((spec_ArgOk.f k l2).bind fun t648 => (spec_ActRun.j0 k l0 l1 l2 (!t648))) else (spec_ActRun.j0 k l0 l1 l2 true))) else (spec_ActRun.j0 k l0 l1 l2 true))
theorem spec_ActRun.mono_l : ∀ k, (∀ y0 y1 y2 y3, LeO (spec_ActRun.j0 k y0 y1 y2 y3) (spec_ActRun.j0 (k + 1) y0 y1 y2 y3)) ∧ (∀ y0 y1 y2 y3 y4 y5, LeO (spec_ActRun.l0 k y0 y1 y2 y3 y4 y5) (spec_ActRun.l0 (k + 1) y0 y1 y2 y3 y4 y5))
 | 0 => ⟨fun _ _ _ _ r h => by simp [spec_ActRun.j0] at h, fun _ _ _ _ _ _ r h => by simp [spec_ActRun.l0] at h⟩
 | k + 1 => by
  obtain ⟨ih0, ih1⟩ := spec_ActRun.mono_l k
  refine ⟨?_, ?_⟩
  ·intro y0 y1 y2 y3
   unfold spec_ActRun.j0
   repeat' first
   | (with_reducible exact ih0 _ _ _ _)
   | (with_reducible exact ih1 _ _ _ _ _ _)
   | (with_reducible exact spec_ActOk.mono _ _)
   | (with_reducible exact spec_ArgOk.mono _ _)
   | (with_reducible exact spec_ValOk.mono _ _)
   | (with_reducible exact spec_l1At.mono _ _ _ _ _ _)
   | (with_reducible exact spec_l2End.mono _ _ _ _)
   | (with_reducible exact LeO.refl _)
   | (with_reducible exact LeO.none _)
   | (with_reducible refine LeO.ite ?_ ?_)
   | (with_reducible refine LeO.bind ?_ (fun _ => ?_))
   | exact LeO.none _
   | refine LeO.ite ?_ ?_
   | refine LeO.bind ?_ (fun _ => ?_)
  ·intro y0 y1 y2 y3 y4 y5
   unfold spec_ActRun.l0
   repeat' first
   | (with_reducible exact ih0 _ _ _ _)
   | (with_reducible exact ih1 _ _ _ _ _ _)
   | (with_reducible exact spec_ActOk.mono _ _)
   | (with_reducible exact spec_ArgOk.mono _ _)
   | (with_reducible exact spec_ValOk.mono _ _)
   | (with_reducible exact spec_l1At.mono _ _ _ _ _ _)
   | (with_reducible exact spec_l2End.mono _ _ _ _)
   | (with_reducible exact LeO.refl _)
   | (with_reducible exact LeO.none _)
   | (with_reducible refine LeO.ite ?_ ?_)
   | (with_reducible refine LeO.bind ?_ (fun _ => ?_))
   | exact LeO.none _
   | refine LeO.ite ?_ ?_
   | refine LeO.bind ?_ (fun _ => ?_)
theorem spec_ActRun.mono : ∀ a0 a1 a2 k, LeO (spec_ActRun.f k a0 a1 a2) (spec_ActRun.f (k + 1) a0 a1 a2) := by
 intro a0 a1 a2 k
 obtain ⟨ih0, ih1⟩ := spec_ActRun.mono_l k
 unfold spec_ActRun.f
 repeat' first
   | (with_reducible exact ih0 _ _ _ _)
   | (with_reducible exact ih1 _ _ _ _ _ _)
   | (with_reducible exact spec_ActOk.mono _ _)
   | (with_reducible exact spec_ArgOk.mono _ _)
   | (with_reducible exact spec_ValOk.mono _ _)
   | (with_reducible exact spec_l1At.mono _ _ _ _ _ _)
   | (with_reducible exact spec_l2End.mono _ _ _ _)
   | (with_reducible exact LeO.refl _)
   | (with_reducible exact LeO.none _)
   | (with_reducible refine LeO.ite ?_ ?_)
   | (with_reducible refine LeO.bind ?_ (fun _ => ?_))
   | exact LeO.none _
   | refine LeO.ite ?_ ?_
   | refine LeO.bind ?_ (fun _ => ?_)
def spec_ActRun.T15 : Bool × List (List Nat × List Nat) := (true, [([], []), ([], []), ([1], [1]), ([], []), ([], []), ([4], [4]), ([3, 5], [3, 5]), ([6], [6]), ([], []), ([8], [8]), ([], []), ([], []), ([9, 10, 11], [9, 10, 11]), ([7, 12], [7, 12]), ([0, 2, 0, 1, 2, 3, 4, 5, 6, 7, 8, 9, 10, 11, 12, 13], [0, 2]), ([14, 13, 12, 0, 1, 2, 3, 4, 5, 6, 7, 8, 9, 10, 11, 12, 13], [13, 14])])
def spec_ActRun.B15 : List Nat := [0, 0, 2, 0, 0, 16, 56, 120, 0, 256, 0, 0, 3840, 8184, 16383, 32767]
theorem spec_ActRun.tab15 : rtab .any (opsOf Try.f14 15) = spec_ActRun.T15 := by kernel_rfl
theorem spec_ActRun.bits15 : waitsOk spec_ActRun.T15.2 spec_ActRun.B15 = true := by kernel_rfl
set_option maxHeartbeats 8000000 in
set_option maxRecDepth 100000 in
theorem spec_ActRun.calls (k : Nat) (A0 : Option Addr) (c0 : Nat) (l0 : List (S45)) (A1 : Option Addr) (c1 : Nat) (l1 : List Int) (A2 : Option Addr) (c2 : Nat) (l2 : List Int) (r1 : Int) (r2 : List Int) (r3 : List Int) (w : World) (hr0 : Kd.C k45 w A0 l0.length l0) (hc0 : l0.length ≤ c0) (hr1 : Kd.C (Kd.int .i64) w A1 l1.length l1) (hc1 : l1.length ≤ c1) (hr2 : Kd.C (Kd.int .i64) w A2 l2.length l2) (hc2 : l2.length ≤ c2) (h : spec_ActRun.f k l0 l1 l2 = some (r1, r2, r3)) :
  Calls Try.prog 14 #[.slice A0 l0.length c0, .slice A1 l1.length c1, .slice A2 l2.length c2] w fun e w' => ∃ v1_ v2_ : Value, e = .returned (.tuple #[.agg #[.int .i64 r1, v1_], v2_]) ∧ Kd.R (Kd.int .i64) 3 w' w.heap.size (fun k_ => some k_ ≠ (v2_ : Value).ownBlock) v1_ r2 ∧ Kd.R (Kd.int .i64) 3 w' w.heap.size (fun k_ => some k_ ≠ (v1_ : Value).ownBlock) v2_ r3 ∧ Below w.heap.size w w' := by
 have hu37 := Try.underlying37
 have hu45 := Try.underlying45
 have hu43 := Try.underlying43
 have HR0 := Aside0.mk hr0
 have HC0 := Aside0.mk hc0
 clear hr0 hc0
 have HR1 := Aside0.mk hr1
 have HC1 := Aside0.mk hc1
 clear hr1 hc1
 have HR2 := Aside0.mk hr2
 have HC2 := Aside0.mk hc2
 clear hr2 hc2
 have HB := Aside0.mk (Below.refl w.heap.size w)
 have H : ((spec_ActOk.f k l0).bind fun t646 => (if t646 = true then ((spec_ValOk.f k l1).bind fun t647 => (if t647 = true then ((spec_ArgOk.f k l2).bind fun t648 => (spec_ActRun.j0 k l0 l1 l2 (!t648))) else (spec_ActRun.j0 k l0 l1 l2 true))) else (spec_ActRun.j0 k l0 l1 l2 true))) = some (r1, r2, r3) := h
 clear h
 have HC4 := Aside0.mk H
 clear H
 go_enter Try.func14, Try.ntmps14
 go_upto_region 1 with (first | ((with_reducible refine gate_dst (N := 6) rfl ?_); refine bx 6 #[.int .i64 0, .slice none 0 0] 37 ?_; intro gb645 hg w5 hbox hb; have BK645 := Aside0.mk (hbox); have GW645 := Aside0.mk ((gz hg HB.out)); have IGW645 : Nonempty _ := ⟨GW645.out⟩; have GE645 := Aside0.mk ((gz hg HB.out)); have IGE645 : Nonempty _ := ⟨GE645.out⟩; replace HB := Aside0.mk (bj HB.out hb); clear hb hbox hg))
 (try simp only [Act.put, sA, s0, sS])
 go_cut [24] (fun v24 wc => ∃ (kq : Nat) (x24_3 : Bool), v24 = .bool x24_3 ∧ Aside0 (spec_ActRun.j0 kq l0 l1 l2 x24_3 = some (r1, r2, r3)) ∧ Aside0 (kq ≤ k) ∧ Aside0 (wc.heap[gb645]? = some (.cells #[.int .i64 0, (.slice none 0 0)] 37 (0, 0))) ∧ Aside0 (Below w.heap.size w wc))
 case first =>
  have H := HC4.out
  clear HC4
  obtain ⟨t646, A6, H⟩ := bS H
  try dsimp only at H
  by_cases c7 : t646 = true
  ·subst c7
   have H1 : ((spec_ValOk.f k l1).bind fun t647 => (if t647 = true then ((spec_ArgOk.f k l2).bind fun t648 => (spec_ActRun.j0 k l0 l1 l2 (!t648))) else (spec_ActRun.j0 k l0 l1 l2 true))) = some (r1, r2, r3) := by rw [if_pos rfl] at H; exact H
   clear H
   have H := H1
   clear H1
   obtain ⟨t647, A8, H⟩ := bS H
   try dsimp only at H
   by_cases c9 : t647 = true
   ·subst c9
    have H1 : ((spec_ArgOk.f k l2).bind fun t648 => (spec_ActRun.j0 k l0 l1 l2 (!t648))) = some (r1, r2, r3) := by rw [if_pos rfl] at H; exact H
    clear H
    have H := H1
    clear H1
    obtain ⟨t648, A10, H⟩ := bS H
    try dsimp only at H
    have H' := Aside0.mk H
    clear H
    go_wp2_with (first | ((with_reducible refine gate_callee (f := 40) rfl ?_); refine gL (some 13) Try.func40 #[.slice A0 l0.length c0] ?_; (with_reducible refine (spec_ActOk.calls k _ _ l0 true _ ?side1 ?side2 A6.out).mono ?_); (case side1 => exact lC <| (Kd.C_below HR0.out HB.out)); (case side2 => exact HC0.out); rintro e w11 ⟨rfl, hb⟩; refine ⟨_, rfl, ?_⟩; replace BK645 := Aside0.mk (bb BK645.out hb); replace HB := Aside0.mk (bj HB.out hb); (try clear hb)) | (go_at_call 41; (with_reducible refine (spec_ValOk.calls k _ _ l1 true _ ?side1 ?side2 A8.out).mono ?_); (case side1 => exact lC <| (Kd.C_below HR1.out HB.out)); (case side2 => exact HC1.out); rintro e w' ⟨rfl, ⟨nd, rfl⟩⟩) | (go_at_call 42; (with_reducible refine (spec_ArgOk.calls k _ _ l2 t648 _ ?side1 ?side2 A10.out).mono ?_); (case side1 => repeat (first | exact (Kd.C_below HR2.out (by exact jB HB.out)) | (with_reducible refine Kd.C_alloc ?_ _) | (with_reducible refine Kd.C_drewN ?_ _) | (with_reducible refine Kd.C_drew ?_))); (case side2 => exact HC2.out); rintro e w' ⟨rfl, ⟨nd, rfl⟩⟩))
    go_meet
    case rel => exact ⟨_, (!t648), (by first | rfl | (simp; done) | (simp [*]; done)), H', ⟨by first | omega | exact Nat.le_refl _⟩, ⟨by exact lK <| BK645.out⟩, ⟨by exact jB HB.out⟩⟩
   ·replace c9 := Bool.eq_false_iff.mpr c9
    subst c9
    have H1 : (spec_ActRun.j0 k l0 l1 l2 true) = some (r1, r2, r3) := by rw [if_neg (show ¬ (false = true) by decide)] at H; exact H
    clear H
    have H := H1
    clear H1
    have H' := Aside0.mk H
    clear H
    go_wp2_with (first | ((with_reducible refine gate_callee (f := 40) rfl ?_); refine gL (some 13) Try.func40 #[.slice A0 l0.length c0] ?_; (with_reducible refine (spec_ActOk.calls k _ _ l0 true _ ?side1 ?side2 A6.out).mono ?_); (case side1 => exact lC <| (Kd.C_below HR0.out HB.out)); (case side2 => exact HC0.out); rintro e w12 ⟨rfl, hb⟩; refine ⟨_, rfl, ?_⟩; replace BK645 := Aside0.mk (bb BK645.out hb); replace HB := Aside0.mk (bj HB.out hb); (try clear hb)) | (go_at_call 41; (with_reducible refine (spec_ValOk.calls k _ _ l1 false _ ?side1 ?side2 A8.out).mono ?_); (case side1 => exact lC <| (Kd.C_below HR1.out HB.out)); (case side2 => exact HC1.out); rintro e w' ⟨rfl, ⟨nd, rfl⟩⟩))
    go_meet
    case rel => exact ⟨_, (true), (by first | rfl | (simp; done) | (simp [*]; done)), H', ⟨by first | omega | exact Nat.le_refl _⟩, ⟨by exact lK <| BK645.out⟩, ⟨by exact jB HB.out⟩⟩
  ·replace c7 := Bool.eq_false_iff.mpr c7
   subst c7
   have H1 : (spec_ActRun.j0 k l0 l1 l2 true) = some (r1, r2, r3) := by rw [if_neg (show ¬ (false = true) by decide)] at H; exact H
   clear H
   have H := H1
   clear H1
   have H' := Aside0.mk H
   clear H
   go_wp2_with (first | ((with_reducible refine gate_callee (f := 40) rfl ?_); refine gL (some 13) Try.func40 #[.slice A0 l0.length c0] ?_; (with_reducible refine (spec_ActOk.calls k _ _ l0 false _ ?side1 ?side2 A6.out).mono ?_); (case side1 => exact lC <| (Kd.C_below HR0.out HB.out)); (case side2 => exact HC0.out); rintro e w13 ⟨rfl, hb⟩; refine ⟨_, rfl, ?_⟩; replace BK645 := Aside0.mk (bb BK645.out hb); replace HB := Aside0.mk (bj HB.out hb); (try clear hb)))
   go_meet
   case rel => exact ⟨_, (true), (by first | rfl | (simp; done) | (simp [*]; done)), H', ⟨by first | omega | exact Nat.le_refl _⟩, ⟨by exact lK <| BK645.out⟩, ⟨by exact jB HB.out⟩⟩
 case rest =>
  clear HC4
  try clear c1
  try clear c2
  try clear p2
  try clear c4
  try clear c7
  try clear c9
  obtain ⟨kq, x24_3, rfl, HA, HJ3, BK645, HB⟩ := hcut
  cases kq with
  | zero => exact absurd HA.out (by simp [spec_ActRun.j0])
  | succ kj3 =>
   have H := HA.out
   clear HA
   simp only [spec_ActRun.j0] at H
   by_cases c14 : x24_3 = true
   ·subst c14
    have H1 : (some (0, ([] : List Int), (([] : List Int)))) = some (r1, r2, r3) := by rw [if_pos rfl] at H; exact H
    clear H
    have H := H1
    clear H1
    obtain ⟨y649, hy649⟩ : ∃ y_ : List Int, y_ = (([] : List Int)) := ⟨_, rfl⟩
    replace H : (some (0, ([] : List Int), y649)) = some (r1, r2, r3) := by first | (rw [hy649]; exact H) | exact H
    have Ny649 := Aside0.mk hy649
    clear hy649
    simp only [Option.some.injEq, Prod.mk.injEq] at H
    obtain ⟨rfl, rfl, rfl⟩ := H
    go_wp2_with (first | ((with_reducible refine gate_dst (N := 26) rfl ?_); refine Kd.R_lit (Kd.int .i64) _ 3 ?hg (N := 26) ?hd (xs := ([] : List Int)) (inner := []) (ok := fun _ => True) (okp := fun _ => True) ?hr ?hp (fun _ hk => hk) trivial (Below.refl _ _) (Nat.le_refl _) (by simp) ?_; (case hd => rfl); (case hg => rfl); (case hr => first | (go_simp; done) | (go_simp; rfl)); (case hp => exact (Reps.none _ _)); intro v650 w15 ho16 hb hg_ hnew_; clear hg_ hnew_; (first | rw [← Ny649.out] at ho16 | (simp only [Int.reduceToNat] at ho16; rw [← Ny649.out] at ho16)); have HO651 := Aside0.mk (Kd.R_lower ho16 (below_size (by exact jB HB.out))); replace BK645 := Aside0.mk (bb BK645.out hb); replace HB := Aside0.mk (bj HB.out hb); clear hb ho16; obtain ⟨hcz17_0, hcz17_1, hfz17_0, hfz17_1⟩ := cf2 BK645.out))
    refine bodyPost_ret (results_ct rfl _ _ gb645 37 #[.int .i64 0, .slice none 0 0] (0, 0) _ rfl (by exact p2 (lK BK645.out)) Try.underlying37 rfl (by kernel_rfl)) rfl ?_
    exact ⟨_, _, by first | rfl | (simp [errW_none, errW_some] <;> rfl) | (simp [*, errW_none, errW_some] <;> rfl), by first | exact Kd.R_nil _ _ _ _ _ | exact Kd.N_nil _ _ _ _ _ | exact Kd.V_nil _ _ _ _ _ | exact Kd.Q_nil _ _ _ _ _ | exact Kd.S_nil _ _ _ _ _, by exact lR <| Kd.R_mono (Kd.R_far (p := ⟨gb645, 1, none⟩) (Kd.R_far (p := ⟨gb645, 0, none⟩) (Kd.R_types HO651.out BK645.out (by decide)) (fun _ hk => by first | exact hk.2 | exact fun e_ => hk.2 (e_.trans (ob _ _ _ _))) (.int .i64 0)) (fun _ hk => by first | exact hk.2 | exact fun e_ => hk.2 (e_.trans (ob _ _ _ _))) (.slice none 0 0)) (fun _ hk => (by simp [Value.ownBlock])), by exact jB HB.out⟩
   ·replace c14 := Bool.eq_false_iff.mpr c14
    subst c14
    have H1 : ((some (([] : List Int) : List Int)).bind fun y652 => (if y652.length + l1.length < 17592186044416 then (spec_ActRun.l0 kj3 l0 l1 l2 (y652 ++ l1) (([] : List Int)) 0) else (none))) = some (r1, r2, r3) := by rw [if_neg (show ¬ (false = true) by decide)] at H; exact H
    clear H
    have H := H1
    clear H1
    obtain ⟨y652, hy652⟩ : ∃ y_ : List Int, y_ = (([] : List Int)) := ⟨_, rfl⟩
    replace H : (if y652.length + l1.length < 17592186044416 then (spec_ActRun.l0 kj3 l0 l1 l2 (y652 ++ l1) (([] : List Int)) 0) else (none)) = some (r1, r2, r3) := by first | (rw [hy652]; exact H) | exact H
    have Ny652 := Aside0.mk hy652
    clear hy652
    by_cases c18 : y652.length + l1.length < 17592186044416
    ·rw [if_pos c18] at H
     have LMc18 := Aside0.mk c18
     clear c18
     obtain ⟨y655, hy655⟩ : ∃ y_ : List Int, y_ = (y652 ++ l1) := ⟨_, rfl⟩
     replace H : (spec_ActRun.l0 kj3 l0 l1 l2 y655 (([] : List Int)) 0) = some (r1, r2, r3) := by first | (rw [hy655]; exact H) | exact H
     have Ny655 := Aside0.mk hy655
     clear hy655
     obtain ⟨y658, hy658⟩ : ∃ y_ : List Int, y_ = (([] : List Int)) := ⟨_, rfl⟩
     replace H : (spec_ActRun.l0 kj3 l0 l1 l2 y655 y658 0) = some (r1, r2, r3) := by first | (rw [hy658]; exact H) | exact H
     have Ny658 := Aside0.mk hy658
     clear hy658
     have H' := Aside0.mk H
     clear H
     go_wp2_with (first | ((with_reducible refine gate_dst (N := 27) rfl ?_); refine Kd.R_lit (Kd.int .i64) _ 3 ?hg (N := 27) ?hd (xs := ([] : List Int)) (inner := []) (ok := fun _ => True) (okp := fun _ => True) ?hr ?hp (fun _ hk => hk) trivial (Below.refl _ _) (Nat.le_refl _) (by simp) ?_; (case hd => rfl); (case hg => rfl); (case hr => first | (go_simp; done) | (go_simp; rfl)); (case hp => exact (Reps.none _ _)); intro v653 w19 ho20 hb hg_ hnew_; clear hg_ hnew_; (first | rw [← Ny652.out] at ho20 | (simp only [Int.reduceToNat] at ho20; rw [← Ny652.out] at ho20)); have HO654 := Aside0.mk (Kd.R_lower ho20 (below_size (by exact jB HB.out))); replace BK645 := Aside0.mk (bb BK645.out hb); replace HB := Aside0.mk (bj HB.out hb); clear hb ho20) | ((with_reducible refine gate_builtin (b := .append) (xs := #[.tmp 27, .tmp 28]) rfl ?_); at_builtin; refine Kd.R_append_rows (Kd.int .i64) (w0 := w) w.heap.size rfl (.tmp 27) (.tmp 28) 24 3 (.int .i64 0) 8 rfl Try.underlying24 info3 rfl (by decide) (by omega) v653 y652 l1 _ _ _ (fun _ => True) (fun _ => False) rfl rfl ?aO ?aR (fun _ _ h => h) (fun _ h => h.elim) ?aF ?aB ?aS ?aL ?_; (case aR => exact lC <| (Kd.C_below HR1.out HB.out)); (case aB => exact (by exact jB HB.out)); (case aF => exact (fun _ _ => trivial)); (case aO => exact (by exact lR HO654.out)); (case aS => exact (below_size (by exact jB HB.out))); (case aL => have := LMc18.out; omega); intro v656 w21 ho hb hg hat; rw [← Ny655.out] at ho; replace BK645 := Aside0.mk (blk_grown (g := gb645) (o := .cells #[.int .i64 0, .slice none 0 0] 37 (0, 0)) (by exact lK BK645.out) hg (Kd.R_ne HO654.out BK645.out (by decide))); replace HB := Aside0.mk (hb); have HO657 := Aside0.mk (ho); clear HO654 ho hb hg hat) | ((with_reducible refine gate_dst (N := 30) rfl ?_); refine Kd.R_lit (Kd.int .i64) _ 3 ?hg (N := 30) ?hd (xs := ([] : List Int)) (inner := []) (ok := fun _ => True) (okp := fun _ => True) ?hr ?hp (fun _ hk => hk) trivial (Below.refl _ _) (Nat.le_refl _) (by simp) ?_; (case hd => rfl); (case hg => rfl); (case hr => first | (go_simp; done) | (go_simp; rfl)); (case hp => exact (Reps.none _ _)); intro v659 w22 ho23 hb hg_ hnew_; clear hg_ hnew_; (first | rw [← Ny658.out] at ho23 | (simp only [Int.reduceToNat] at ho23; rw [← Ny658.out] at ho23)); have HO660 := Aside0.mk (Kd.R_lower (Kd.R_new' ho23 (rl HO657.out)) (below_size (by exact jB HB.out))); replace HO657 := Aside0.mk (Kd.R_elder' (by exact lR HO657.out) (Kd.R_base ho23) hb); replace BK645 := Aside0.mk (bb BK645.out hb); replace HB := Aside0.mk (bj HB.out hb); clear hb ho23))
     go_loopg [9, 10] kj3 (fun kq v9 v10 w' => ∃ (x8_2 : List Int) (x9_2 : List Int) (x10_2 : Int) (x646000_2 : Int), v10 = .int .i64 x10_2 ∧ Aside0 (spec_ActRun.l0 kq l0 l1 l2 x8_2 x9_2 x10_2 = some (r1, r2, r3)) ∧ Aside0 (kq ≤ kj3) ∧ Aside0 (Kd.R (Kd.int .i64) 3 w' w.heap.size (fun k_ => some k_ ≠ v9.ownBlock) v656 x8_2) ∧ Aside0 (Kd.R (Kd.int .i64) 3 w' w.heap.size (fun k_ => some k_ ≠ v656.ownBlock) v9 x9_2) ∧ Aside0 (w'.heap[gb645]? = some (.cells #[.int .i64 x646000_2, (.slice none 0 0)] 37 (0, 0))) ∧ Aside0 (Below w.heap.size w w'))
     case atStart => exact ⟨(y655), (y658), (0), (0), (by first | rfl | (simp; done) | (simp [*]; done)), H', ⟨Nat.le_refl _⟩, ⟨by exact lR <| Kd.R_mono HO657.out (fun _ hk => hk.2)⟩, ⟨by exact lR <| Kd.R_mono HO660.out (fun _ hk => hk.2)⟩, ⟨by exact lK <| BK645.out⟩, ⟨by exact jB HB.out⟩⟩
     case round =>
      clear H'
      try clear c1
      try clear c2
      try clear p2
      try clear c4
      try clear c7
      try clear c9
      try clear c14
      try clear c18
      try clear hcz17_0
      try clear hcz17_1
      try clear hfz17_0
      try clear hfz17_1
      try clear p2
      obtain ⟨x8_2, x9_2, x10_2, x646000_2, rfl, HA, HK2, HO_8, HO_9, BK645, HB⟩ := hrel
      cases gk with
      | zero => exact absurd HA.out (by simp [spec_ActRun.l0])
      | succ k2 =>
       have H := HA.out
       clear HA
       simp only [spec_ActRun.l0] at H
       by_cases c24 : x10_2 < (l0.length : Int)
       ·rw [if_pos c24] at H
        have c24b0 := decide_eq_true c24
        clear c24
        by_cases c25 : 0 ≤ x10_2
        ·rw [if_pos c25] at H
         have c25b0 := decide_eq_true c25
         clear c25
         by_cases c26 : ((rd_T45 l0 x10_2).f0) = 1
         ·rw [if_pos c26] at H
          have c26b0 := beq_iff_eq.mpr c26
          have c26b1 := bne_eq_false_iff_eq.mpr c26
          clear c26
          obtain ⟨t670, A27, H⟩ := bS H
          try dsimp only at H
          by_cases c28 : t670 < 0
          ·rw [if_pos c28] at H
           have c28b0 := decide_eq_true c28
           clear c28
           have H' := Aside0.mk H
           clear H
           have p668 : 0 ≤ (x10_2 : Int) := of_decide_eq_true (by first | (with_reducible assumption) | assumption)
           have q668 : x10_2 < (l0.length : Int) := of_decide_eq_true (by first | (with_reducible assumption) | assumption)
           obtain ⟨ad668, A668_3, c668_3, A668_4, c668_4, e668, hx668_0, hx668_1, hx668_2, hx668_3, hx668_4, hx668_5, hl668_3, hi668_3, hl668_4, hi668_4⟩ := at_T45 HR0.out x10_2 p668 q668
           cases e668
           replace hx668_0 := cl HB.out hx668_0
           replace hx668_1 := cl HB.out hx668_1
           replace hx668_2 := cl HB.out hx668_2
           replace hx668_3 := cl HB.out hx668_3
           replace hx668_4 := cl HB.out hx668_4
           replace hx668_5 := cl HB.out hx668_5
           have HR668_3 := Aside0.mk hi668_3
           have HC668_3 := Aside0.mk hl668_3
           clear hi668_3 hl668_3
           have HR668_4 := Aside0.mk hi668_4
           have HC668_4 := Aside0.mk hl668_4
           clear hi668_4 hl668_4
           replace p668 := eq_true p668
           replace q668 := eq_true q668
           go_wp2_with (first | ((with_reducible refine gate_dst (N := 11) rfl ?_); refine bx 11 #[.int .i64 0, .int .i64 0, .int .i64 0, .slice none 0 0, .slice none 0 0, .int .i64 0] 45 ?_; intro gb669 hg w29 hbox hb; replace HO_8 := Aside0.mk (rb HO_8.out hb); replace HO_9 := Aside0.mk (rb HO_9.out hb); have BK669 := Aside0.mk (hbox); have GW669 := Aside0.mk ((gz hg HB.out)); have IGW669 : Nonempty _ := ⟨GW669.out⟩; have GE669 := Aside0.mk ((gz hg HB.out)); have IGE669 : Nonempty _ := ⟨GE669.out⟩; replace HB := Aside0.mk (bj HB.out hb); have NB645_669 := Aside0.mk ((neL hg (lK BK645.out) : gb645 ≠ gb669)); have NB669_645 := Aside0.mk ((neG hg (lK BK645.out) : gb669 ≠ gb645)); replace BK645 := Aside0.mk (bb BK645.out hb); clear hb hbox hg; have hnb30 := NB669_645.out; have hnc30 := NB645_669.out; obtain ⟨hcz31_0, hcz31_1, hcz31_2, hcz31_3, hcz31_4, hcz31_5, hfz31_0, hfz31_1, hfz31_2, hfz31_3, hfz31_4, hfz31_5⟩ := cf6 BK669.out; obtain ⟨Ao32, co32, eo32⟩ := Kd.R_slice HO_8.out; subst eo32) | ((with_reducible refine gate_callee (f := 43) rfl ?_); refine gL (some 53) Try.func43 #[.agg #[.slice A668_3 ((rd_T45 l0 x10_2).f3.f0).length c668_3, .slice A668_4 ((rd_T45 l0 x10_2).f3.f1).length c668_4, .int .i64 ((rd_T45 l0 x10_2).f3.f2)], .slice Ao32 x8_2.length co32, .slice A2 l2.length c2] ?_; (with_reducible refine (spec_l1At.calls k2 _ _ ((rd_T45 l0 x10_2).f3.f0) _ _ ((rd_T45 l0 x10_2).f3.f1) ((rd_T45 l0 x10_2).f3.f2) _ _ x8_2 _ _ l2 t670 _ ?side1 ?side2 ?side3 ?side4 ?side5 ?side6 ?side7 ?side8 A27.out).mono ?_); (case side1 => exact Kd.C_below HR668_3.out (by exact jB HB.out)); (case side2 => exact HC668_3.out); (case side3 => exact Kd.C_below HR668_4.out (by exact jB HB.out)); (case side4 => exact HC668_4.out); (case side5 => refine (Kd.R_reads' (e := 3) (base := w.heap.size) (ok := fun k_ => some k_ ≠ (u9 : Value).ownBlock) (n := x8_2.length) (c := co32) ?_).2.2; exact (qp (R6 HO_8.out BK669.out))); (case side6 => exact (Kd.R_reads' HO_8.out).2.1); (case side7 => exact Kd.C_below HR2.out (by exact jB HB.out)); (case side8 => exact HC2.out); rintro e w33 ⟨rfl, hb⟩; refine ⟨_, rfl, ?_⟩; replace HO_8 := Aside0.mk (Kd.R_below (qp (R6 HO_8.out BK669.out)) hb); replace HO_9 := Aside0.mk (Kd.R_below (qp (R6 HO_9.out BK669.out)) hb); replace BK645 := Aside0.mk (blk_below (f6 (lK BK645.out) NB645_669.out) hb); replace BK669 := Aside0.mk (blk_below (g := gb669) (o := .cells #[.int .i64 ((rd_T45 l0 x10_2).f0), .int .i64 ((rd_T45 l0 x10_2).f1), .int .i64 ((rd_T45 l0 x10_2).f2), .slice A668_3 ((rd_T45 l0 x10_2).f3.f0).length c668_3, .slice A668_4 ((rd_T45 l0 x10_2).f3.f1).length c668_4, .int .i64 ((rd_T45 l0 x10_2).f3.f2)] 45 (0, 0)) (by exact p6 (lK BK669.out)) hb); replace HB := Aside0.mk (bj HB.out hb); (try clear hb); obtain ⟨hcz34_0, hcz34_1, hcz34_2, hcz34_3, hcz34_4, hcz34_5, hfz34_0, hfz34_1, hfz34_2, hfz34_3, hfz34_4, hfz34_5⟩ := cf6 BK669.out))
           go_roundg k2
           case measure => have := HJ3.out; have := HK2.out; omega
           case rel => exact ⟨(x8_2), (x9_2), (wrap64 ((wrap64 (x10_2 + ((rd_T45 l0 x10_2).f2))) + 1)), (x646000_2), (by first | rfl | (simp; done) | (simp [*]; done)), H', ⟨by have := HJ3.out; have := HK2.out; omega⟩, ⟨by exact lR <| HO_8.out⟩, ⟨by exact lR <| HO_9.out⟩, ⟨by exact lK <| BK645.out⟩, ⟨by exact jB HB.out⟩⟩
          ·rw [if_neg c28] at H
           have c28b0 := decide_eq_false c28
           clear c28
           have H' := Aside0.mk H
           clear H
           have p668 : 0 ≤ (x10_2 : Int) := of_decide_eq_true (by first | (with_reducible assumption) | assumption)
           have q668 : x10_2 < (l0.length : Int) := of_decide_eq_true (by first | (with_reducible assumption) | assumption)
           obtain ⟨ad668, A668_3, c668_3, A668_4, c668_4, e668, hx668_0, hx668_1, hx668_2, hx668_3, hx668_4, hx668_5, hl668_3, hi668_3, hl668_4, hi668_4⟩ := at_T45 HR0.out x10_2 p668 q668
           cases e668
           replace hx668_0 := cl HB.out hx668_0
           replace hx668_1 := cl HB.out hx668_1
           replace hx668_2 := cl HB.out hx668_2
           replace hx668_3 := cl HB.out hx668_3
           replace hx668_4 := cl HB.out hx668_4
           replace hx668_5 := cl HB.out hx668_5
           have HR668_3 := Aside0.mk hi668_3
           have HC668_3 := Aside0.mk hl668_3
           clear hi668_3 hl668_3
           have HR668_4 := Aside0.mk hi668_4
           have HC668_4 := Aside0.mk hl668_4
           clear hi668_4 hl668_4
           replace p668 := eq_true p668
           replace q668 := eq_true q668
           go_wp2_with (first | ((with_reducible refine gate_dst (N := 11) rfl ?_); refine bx 11 #[.int .i64 0, .int .i64 0, .int .i64 0, .slice none 0 0, .slice none 0 0, .int .i64 0] 45 ?_; intro gb669 hg w35 hbox hb; replace HO_8 := Aside0.mk (rb HO_8.out hb); replace HO_9 := Aside0.mk (rb HO_9.out hb); have BK669 := Aside0.mk (hbox); have GW669 := Aside0.mk ((gz hg HB.out)); have IGW669 : Nonempty _ := ⟨GW669.out⟩; have GE669 := Aside0.mk ((gz hg HB.out)); have IGE669 : Nonempty _ := ⟨GE669.out⟩; replace HB := Aside0.mk (bj HB.out hb); have NB645_669 := Aside0.mk ((neL hg (lK BK645.out) : gb645 ≠ gb669)); have NB669_645 := Aside0.mk ((neG hg (lK BK645.out) : gb669 ≠ gb645)); replace BK645 := Aside0.mk (bb BK645.out hb); clear hb hbox hg; have hnb36 := NB669_645.out; have hnc36 := NB645_669.out; obtain ⟨hcz37_0, hcz37_1, hcz37_2, hcz37_3, hcz37_4, hcz37_5, hfz37_0, hfz37_1, hfz37_2, hfz37_3, hfz37_4, hfz37_5⟩ := cf6 BK669.out; obtain ⟨Ao38, co38, eo38⟩ := Kd.R_slice HO_8.out; subst eo38) | ((with_reducible refine gate_callee (f := 43) rfl ?_); refine gL (some 53) Try.func43 #[.agg #[.slice A668_3 ((rd_T45 l0 x10_2).f3.f0).length c668_3, .slice A668_4 ((rd_T45 l0 x10_2).f3.f1).length c668_4, .int .i64 ((rd_T45 l0 x10_2).f3.f2)], .slice Ao38 x8_2.length co38, .slice A2 l2.length c2] ?_; (with_reducible refine (spec_l1At.calls k2 _ _ ((rd_T45 l0 x10_2).f3.f0) _ _ ((rd_T45 l0 x10_2).f3.f1) ((rd_T45 l0 x10_2).f3.f2) _ _ x8_2 _ _ l2 t670 _ ?side1 ?side2 ?side3 ?side4 ?side5 ?side6 ?side7 ?side8 A27.out).mono ?_); (case side1 => exact Kd.C_below HR668_3.out (by exact jB HB.out)); (case side2 => exact HC668_3.out); (case side3 => exact Kd.C_below HR668_4.out (by exact jB HB.out)); (case side4 => exact HC668_4.out); (case side5 => refine (Kd.R_reads' (e := 3) (base := w.heap.size) (ok := fun k_ => some k_ ≠ (u9 : Value).ownBlock) (n := x8_2.length) (c := co38) ?_).2.2; exact (qp (R6 HO_8.out BK669.out))); (case side6 => exact (Kd.R_reads' HO_8.out).2.1); (case side7 => exact Kd.C_below HR2.out (by exact jB HB.out)); (case side8 => exact HC2.out); rintro e w39 ⟨rfl, hb⟩; refine ⟨_, rfl, ?_⟩; replace HO_8 := Aside0.mk (Kd.R_below (qp (R6 HO_8.out BK669.out)) hb); replace HO_9 := Aside0.mk (Kd.R_below (qp (R6 HO_9.out BK669.out)) hb); replace BK645 := Aside0.mk (blk_below (f6 (lK BK645.out) NB645_669.out) hb); replace BK669 := Aside0.mk (blk_below (g := gb669) (o := .cells #[.int .i64 ((rd_T45 l0 x10_2).f0), .int .i64 ((rd_T45 l0 x10_2).f1), .int .i64 ((rd_T45 l0 x10_2).f2), .slice A668_3 ((rd_T45 l0 x10_2).f3.f0).length c668_3, .slice A668_4 ((rd_T45 l0 x10_2).f3.f1).length c668_4, .int .i64 ((rd_T45 l0 x10_2).f3.f2)] 45 (0, 0)) (by exact p6 (lK BK669.out)) hb); replace HB := Aside0.mk (bj HB.out hb); (try clear hb)))
           go_roundg k2
           case measure => have := HJ3.out; have := HK2.out; omega
           case rel => exact ⟨(x8_2), (x9_2), (wrap64 (x10_2 + 1)), (x646000_2), (by first | rfl | (simp; done) | (simp [*]; done)), H', ⟨by have := HJ3.out; have := HK2.out; omega⟩, ⟨by exact lR <| HO_8.out⟩, ⟨by exact lR <| HO_9.out⟩, ⟨by exact lK <| BK645.out⟩, ⟨by exact jB HB.out⟩⟩
         ·rw [if_neg c26] at H
          have c26b0 := beq_eq_false_iff_ne.mpr c26
          have c26b1 := bne_iff_ne.mpr c26
          by_cases c40 : ((rd_T45 l0 x10_2).f0) = 2
          ·rw [if_pos c40] at H
           have c40b0 := beq_iff_eq.mpr c40
           have c40b1 := bne_eq_false_iff_eq.mpr c40
           clear c40
           by_cases c41 : 0 ≤ ((rd_T45 l0 x10_2).f1)
           ·rw [if_pos c41] at H
            have c41b0 := decide_eq_true c41
            clear c41
            by_cases c42 : ((rd_T45 l0 x10_2).f1) < (x8_2.length : Int)
            ·rw [if_pos c42] at H
             have c42b0 := decide_eq_true c42
             clear c42
             obtain ⟨t672, A43, H⟩ := bS H
             try dsimp only at H
             obtain ⟨y673, hy673⟩ : ∃ y_ : List Int, y_ = (x8_2.set (((rd_T45 l0 x10_2).f1) : Int).toNat (wrap64 ((rd x8_2 ((rd_T45 l0 x10_2).f1)) + t672))) := ⟨_, rfl⟩
             replace H : (spec_ActRun.l0 k2 l0 l1 l2 y673 x9_2 (wrap64 (x10_2 + 1))) = some (r1, r2, r3) := by first | (rw [hy673]; exact H) | exact H
             have Ny673 := Aside0.mk hy673
             clear hy673
             have H' := Aside0.mk H
             clear H
             have p668 : 0 ≤ (x10_2 : Int) := of_decide_eq_true (by first | (with_reducible assumption) | assumption)
             have q668 : x10_2 < (l0.length : Int) := of_decide_eq_true (by first | (with_reducible assumption) | assumption)
             obtain ⟨ad668, A668_3, c668_3, A668_4, c668_4, e668, hx668_0, hx668_1, hx668_2, hx668_3, hx668_4, hx668_5, hl668_3, hi668_3, hl668_4, hi668_4⟩ := at_T45 HR0.out x10_2 p668 q668
             cases e668
             replace hx668_0 := cl HB.out hx668_0
             replace hx668_1 := cl HB.out hx668_1
             replace hx668_2 := cl HB.out hx668_2
             replace hx668_3 := cl HB.out hx668_3
             replace hx668_4 := cl HB.out hx668_4
             replace hx668_5 := cl HB.out hx668_5
             have HR668_3 := Aside0.mk hi668_3
             have HC668_3 := Aside0.mk hl668_3
             clear hi668_3 hl668_3
             have HR668_4 := Aside0.mk hi668_4
             have HC668_4 := Aside0.mk hl668_4
             clear hi668_4 hl668_4
             replace p668 := eq_true p668
             replace q668 := eq_true q668
             try go_wp2_with (first | ((with_reducible refine gate_dst (N := 11) rfl ?_); refine bx 11 #[.int .i64 0, .int .i64 0, .int .i64 0, .slice none 0 0, .slice none 0 0, .int .i64 0] 45 ?_; intro gb669 hg w45 hbox hb; replace HO_8 := Aside0.mk (rb HO_8.out hb); replace HO_9 := Aside0.mk (rb HO_9.out hb); have BK669 := Aside0.mk (hbox); have GW669 := Aside0.mk ((gz hg HB.out)); have IGW669 : Nonempty _ := ⟨GW669.out⟩; have GE669 := Aside0.mk ((gz hg HB.out)); have IGE669 : Nonempty _ := ⟨GE669.out⟩; replace HB := Aside0.mk (bj HB.out hb); have NB645_669 := Aside0.mk ((neL hg (lK BK645.out) : gb645 ≠ gb669)); have NB669_645 := Aside0.mk ((neG hg (lK BK645.out) : gb669 ≠ gb645)); replace BK645 := Aside0.mk (bb BK645.out hb); clear hb hbox hg; have hnb46 := NB669_645.out; have hnc46 := NB645_669.out; obtain ⟨hcz47_0, hcz47_1, hcz47_2, hcz47_3, hcz47_4, hcz47_5, hfz47_0, hfz47_1, hfz47_2, hfz47_3, hfz47_4, hfz47_5⟩ := cf6 BK669.out))
             have n0_ := Aside0.mk (Kd.R_mono (ok' := (fun k_ => some k_ ≠ (u9 : Value).ownBlock)) (R6 (w := w45) (x := (.int .i64 ((rd_T45 l0 x10_2).f0))) (y := (.int .i64 ((rd_T45 l0 x10_2).f1))) (z := (.int .i64 ((rd_T45 l0 x10_2).f2))) (u := (.slice A668_3 ((rd_T45 l0 x10_2).f3.f0).length c668_3)) (v := (.slice A668_4 ((rd_T45 l0 x10_2).f3.f1).length c668_4)) (t := (.int .i64 ((rd_T45 l0 x10_2).f3.f2))) (lR HO_8.out) (lK BK669.out)) (fun _ hk => hk))
             have n1_ := Aside0.mk (Kd.R_mono (ok' := (fun k_ => some k_ ≠ v656.ownBlock)) (R6 (w := w45) (x := (.int .i64 ((rd_T45 l0 x10_2).f0))) (y := (.int .i64 ((rd_T45 l0 x10_2).f1))) (z := (.int .i64 ((rd_T45 l0 x10_2).f2))) (u := (.slice A668_3 ((rd_T45 l0 x10_2).f3.f0).length c668_3)) (v := (.slice A668_4 ((rd_T45 l0 x10_2).f3.f1).length c668_4)) (t := (.int .i64 ((rd_T45 l0 x10_2).f3.f2))) (lR HO_9.out) (lK BK669.out)) (fun _ hk => hk))
             have n2_ := Aside0.mk (f6 (w := w45) (x := (.int .i64 ((rd_T45 l0 x10_2).f0))) (y := (.int .i64 ((rd_T45 l0 x10_2).f1))) (z := (.int .i64 ((rd_T45 l0 x10_2).f2))) (u := (.slice A668_3 ((rd_T45 l0 x10_2).f3.f0).length c668_3)) (v := (.slice A668_4 ((rd_T45 l0 x10_2).f3.f1).length c668_4)) (t := (.int .i64 ((rd_T45 l0 x10_2).f3.f2))) (lK BK645.out) NB645_669.out)
             have n3_ := Aside0.mk (p6 (w := w45) (x := (.int .i64 ((rd_T45 l0 x10_2).f0))) (y := (.int .i64 ((rd_T45 l0 x10_2).f1))) (z := (.int .i64 ((rd_T45 l0 x10_2).f2))) (u := (.slice A668_3 ((rd_T45 l0 x10_2).f3.f0).length c668_3)) (v := (.slice A668_4 ((rd_T45 l0 x10_2).f3.f1).length c668_4)) (t := (.int .i64 ((rd_T45 l0 x10_2).f3.f2))) (lK BK669.out))
             have n4_ : Aside0 (Below w.heap.size w ((((((w45.setCell ⟨gb669, 0, none⟩ (.int .i64 ((rd_T45 l0 x10_2).f0))).setCell ⟨gb669, 1, none⟩ (.int .i64 ((rd_T45 l0 x10_2).f1))).setCell ⟨gb669, 2, none⟩ (.int .i64 ((rd_T45 l0 x10_2).f2))).setCell ⟨gb669, 3, none⟩ (.slice A668_3 ((rd_T45 l0 x10_2).f3.f0).length c668_3)).setCell ⟨gb669, 4, none⟩ (.slice A668_4 ((rd_T45 l0 x10_2).f3.f1).length c668_4)).setCell ⟨gb669, 5, none⟩ (.int .i64 ((rd_T45 l0 x10_2).f3.f2)))) := ⟨by exact jB HB.out⟩
             (try clear HO_8)
             (try clear HO_9)
             (try clear BK645)
             (try clear BK669)
             (try clear HB)
             generalize ((((((w45.setCell ⟨gb669, 0, none⟩ (.int .i64 ((rd_T45 l0 x10_2).f0))).setCell ⟨gb669, 1, none⟩ (.int .i64 ((rd_T45 l0 x10_2).f1))).setCell ⟨gb669, 2, none⟩ (.int .i64 ((rd_T45 l0 x10_2).f2))).setCell ⟨gb669, 3, none⟩ (.slice A668_3 ((rd_T45 l0 x10_2).f3.f0).length c668_3)).setCell ⟨gb669, 4, none⟩ (.slice A668_4 ((rd_T45 l0 x10_2).f3.f1).length c668_4)).setCell ⟨gb669, 5, none⟩ (.int .i64 ((rd_T45 l0 x10_2).f3.f2))) = w48 at n0_ n1_ n2_ n3_ n4_ ⊢
             have HO_8 := n0_
             have HO_9 := n1_
             have BK645 := n2_
             have BK669 := n3_
             have HB := n4_
             clear n0_ n1_ n2_ n3_ n4_
             replace HO_8 := Aside0.mk (Kd.R_drew HO_8.out)
             replace HO_9 := Aside0.mk (Kd.R_drew HO_9.out)
             replace BK645 := Aside0.mk (blk_drew BK645.out)
             replace BK669 := Aside0.mk (blk_drew BK669.out)
             replace HB := Aside0.mk (below_drew1 HB.out)
             obtain ⟨Ao50, co50, eo50⟩ := Kd.R_slice HO_8.out
             (first | subst eo50 | (injection eo50 with f1_ f2_ f3_; have f4_ := f1_.symm; have f5_ := f3_.symm; clear f1_ f2_ f3_; subst f4_; subst f5_))
             have p671 : 0 ≤ (((rd_T45 l0 x10_2).f1) : Int) := of_decide_eq_true (by first | (with_reducible assumption) | assumption)
             have q671 : ((rd_T45 l0 x10_2).f1) < (x8_2.length : Int) := of_decide_eq_true (by first | (with_reducible assumption) | assumption)
             obtain ⟨ad671, e671, hx671_0⟩ := Kd.at_int (Kd.R_reads' HO_8.out).2.2 ((rd_T45 l0 x10_2).f1) p671 q671
             cases e671
             replace p671 := eq_true p671
             replace q671 := eq_true q671
             refine start_ (n := 16) (S := fun w' => w'.cell? ⟨gb669, 0, none⟩ = some (.int .i64 ((rd_T45 l0 x10_2).f0)) ∧ w'.cell? ⟨gb669, 1, none⟩ = some (.int .i64 ((rd_T45 l0 x10_2).f1)) ∧ w'.cell? ⟨gb669, 2, none⟩ = some (.int .i64 ((rd_T45 l0 x10_2).f2)) ∧ w'.cell? ⟨gb669, 3, none⟩ = some (.slice A668_3 ((rd_T45 l0 x10_2).f3.f0).length c668_3) ∧ w'.cell? ⟨gb669, 4, none⟩ = some (.slice A668_4 ((rd_T45 l0 x10_2).f3.f1).length c668_4) ∧ w'.cell? ⟨gb669, 5, none⟩ = some (.int .i64 ((rd_T45 l0 x10_2).f3.f2)) ∧ w'.cell? (ad671.add (((rd_T45 l0 x10_2).f1)).toNat) = some (.int .i64 (rd x8_2 ((rd_T45 l0 x10_2).f1)))) (ds := [15]) #[false, false, false, false, false, false, false, false, false, false, false, false, false, false, false, false] (by kernel_rfl) rfl rfl ⟨(blk_cell BK669.out 0).trans rfl, (blk_cell BK669.out 1).trans rfl, (blk_cell BK669.out 2).trans rfl, (blk_cell BK669.out 3).trans rfl, (blk_cell BK669.out 4).trans rfl, (blk_cell BK669.out 5).trans rfl, hx671_0⟩ (fun hHeld => ?_); refine with_tabW spec_ActRun.tab15 spec_ActRun.bits15 (fun HT_ HW_ => ?_)
             generalize w48.drew = w49 at HO_8 HO_9 BK645 BK669 HB hx671_0 hHeld ⊢
             refine pure_ (i := 0) (N := some 61) (v := ?_) (a' := ?_) #[true, false, false, false, false, false, false, false, false, false, false, false, false, false, false, false] rfl rfl (any_of HT_.out (by kernel_rfl)) (fun _ _ _ h => h) (Or.inl ⟨by rfl, ?_⟩) ?_ ?_
             rotate_left
             ·intro w'
              go_simp
              with_reducible rfl
             rotate_left
             ·simp only [Act.put, sA, s0, sS, i64_w, i32_w]
              rfl
             refine pure_ (i := 1) (N := some 62) (v := ?_) (a' := ?_) #[true, true, false, false, false, false, false, false, false, false, false, false, false, false, false, false] rfl rfl (any_of HT_.out (by kernel_rfl)) (fun _ _ _ h => h) (Or.inl ⟨by rfl, ?_⟩) ?_ ?_
             rotate_left
             ·intro w'
              go_simp
              with_reducible rfl
             rotate_left
             ·simp only [Act.put, sA, s0, sS, i64_w, i32_w]
              rfl
             refine pure_ (i := 3) (N := some 64) (v := ?_) (a' := ?_) #[true, true, false, true, false, false, false, false, false, false, false, false, false, false, false, false] rfl rfl (any_of HT_.out (by kernel_rfl)) (fun _ _ _ h => h) (Or.inl ⟨by rfl, ?_⟩) ?_ ?_
             rotate_left
             ·intro w'
              go_simp
              with_reducible rfl
             rotate_left
             ·simp only [Act.put, sA, s0, sS, i64_w, i32_w]
              rfl
             refine pure_ (i := 4) (N := some 65) (v := ?_) (a' := ?_) #[true, true, false, true, true, false, false, false, false, false, false, false, false, false, false, false] rfl rfl (any_of HT_.out (by kernel_rfl)) (fun _ _ _ h => h) (Or.inl ⟨by rfl, ?_⟩) ?_ ?_
             rotate_left
             ·intro w'
              go_simp
              with_reducible rfl
             rotate_left
             ·simp only [Act.put, sA, s0, sS, i64_w, i32_w]
              rfl
             refine pure_ (i := 8) (N := some 69) (v := ?_) (a' := ?_) #[true, true, false, true, true, false, false, false, true, false, false, false, false, false, false, false] rfl rfl (any_of HT_.out (by kernel_rfl)) (fun _ _ _ h => h) (Or.inl ⟨by rfl, ?_⟩) ?_ ?_
             rotate_left
             ·intro w'
              go_simp
              with_reducible rfl
             rotate_left
             ·simp only [Act.put, sA, s0, sS, i64_w, i32_w]
              rfl
             refine pure_ (i := 10) (N := some 71) (v := ?_) (a' := ?_) #[true, true, false, true, true, false, false, false, true, false, true, false, false, false, false, false] rfl rfl (any_of HT_.out (by kernel_rfl)) (fun _ _ _ h => h) (Or.inl ⟨by rfl, ?_⟩) ?_ ?_
             rotate_left
             ·intro w'
              go_simp
              with_reducible rfl
             rotate_left
             ·simp only [Act.put, sA, s0, sS, i64_w, i32_w]
              rfl
             refine pure_ (i := 11) (N := some 72) (v := ?_) (a' := ?_) #[true, true, false, true, true, false, false, false, true, false, true, true, false, false, false, false] rfl rfl (any_of HT_.out (by kernel_rfl)) (fun _ _ _ h => h) (Or.inl ⟨by rfl, ?_⟩) ?_ ?_
             rotate_left
             ·intro w'
              go_simp
              with_reducible rfl
             rotate_left
             ·simp only [Act.put, sA, s0, sS, i64_w, i32_w]
              rfl
             refine take_ (i := 2) (N := some 63) (v := ?_) (a' := ?_) #[true, true, true, true, true, false, false, false, true, false, true, true, false, false, false, false] rfl rfl (take_ofW HT_.out HW_.out (by kernel_rfl)) (fun _ _ _ h => h) (Or.inl ⟨by rfl, ?_⟩) hHeld ?_ ?_
             rotate_left
             ·rintro w' ⟨s0, s1, s2, s3, s4, s5, s6⟩
              go_simp
              with_reducible rfl
             rotate_left
             ·simp only [Act.put, sA, s0, sS, i64_w, i32_w]
              rfl
             refine take_ (i := 5) (N := some 66) (v := ?_) (a' := ?_) #[true, true, true, true, true, true, false, false, true, false, true, true, false, false, false, false] rfl rfl (take_ofW HT_.out HW_.out (by kernel_rfl)) (fun _ _ _ h => h) (Or.inl ⟨by rfl, ?_⟩) hHeld ?_ ?_
             rotate_left
             ·rintro w' ⟨s0, s1, s2, s3, s4, s5, s6⟩
              go_simp
              with_reducible rfl
             rotate_left
             ·simp only [Act.put, sA, s0, sS, i64_w, i32_w]
              rfl
             refine pure_ (i := 6) (N := some 67) (v := ?_) (a' := ?_) #[true, true, true, true, true, true, true, false, true, false, true, true, false, false, false, false] rfl rfl (any_of HT_.out (by kernel_rfl)) (fun _ _ _ h => h) (Or.inl ⟨by rfl, ?_⟩) ?_ ?_
             rotate_left
             ·intro w'
              go_simp
              with_reducible rfl
             rotate_left
             ·simp only [Act.put, sA, s0, sS, i64_w, i32_w]
              rfl
             refine take_ (i := 7) (N := some 68) (v := ?_) (a' := ?_) #[true, true, true, true, true, true, true, true, true, false, true, true, false, false, false, false] rfl rfl (take_ofW HT_.out HW_.out (by kernel_rfl)) (fun _ _ _ h => h) (Or.inl ⟨by rfl, ?_⟩) hHeld ?_ ?_
             rotate_left
             ·rintro w' ⟨s0, s1, s2, s3, s4, s5, s6⟩
              go_simp
              with_reducible rfl
             rotate_left
             ·simp only [Act.put, sA, s0, sS, i64_w, i32_w]
              rfl
             refine take_ (i := 9) (N := some 70) (v := ?_) (a' := ?_) #[true, true, true, true, true, true, true, true, true, true, true, true, false, false, false, false] rfl rfl (take_ofW HT_.out HW_.out (by kernel_rfl)) (fun _ _ _ h => h) (Or.inl ⟨by rfl, ?_⟩) hHeld ?_ ?_
             rotate_left
             ·rintro w' ⟨s0, s1, s2, s3, s4, s5, s6⟩
              go_simp
              with_reducible rfl
             rotate_left
             ·simp only [Act.put, sA, s0, sS, i64_w, i32_w]
              rfl
             refine one_ (i := 12) (N := some 73) #[true, true, true, true, true, true, true, true, true, true, true, true, true, false, false, false] rfl rfl (one_of HT_.out (by kernel_rfl)) (by decide) (fun K hK => ?_)
             refine goes_ Try.func43 (by kernel_rfl) rfl #[.agg #[.slice A668_3 ((rd_T45 l0 x10_2).f3.f0).length c668_3, .slice A668_4 ((rd_T45 l0 x10_2).f3.f1).length c668_4, .int .i64 ((rd_T45 l0 x10_2).f3.f2)], .slice (some ad671) x8_2.length co50, .slice A2 l2.length c2] (by rfl) rfl rfl (by (try simp only [mA, mC, mN]); first | done | rfl | (simp only [ld, lt]; rfl)) ?_
             with_reducible refine (spec_l1At.calls k2 _ _ ((rd_T45 l0 x10_2).f3.f0) _ _ ((rd_T45 l0 x10_2).f3.f1) ((rd_T45 l0 x10_2).f3.f2) _ _ x8_2 _ _ l2 t672 _ ?side1 ?side2 ?side3 ?side4 ?side5 ?side6 ?side7 ?side8 A43.out).mono ?_
             (case side1 => exact lC <| (Kd.C_below HR668_3.out HB.out))
             (case side2 => exact HC668_3.out)
             (case side3 => exact lC <| (Kd.C_below HR668_4.out HB.out))
             (case side4 => exact HC668_4.out)
             (case side5 => exact lC <| (Kd.R_reads' HO_8.out).2.2)
             (case side6 => exact (Kd.R_reads' HO_8.out).2.1)
             (case side7 => exact lC <| (Kd.C_below HR2.out HB.out))
             (case side8 => exact HC2.out)
             rintro e w51 ⟨rfl, hb⟩
             have HS6_ := (hb.cell (World.block_lt_of_cell? _ _ (hHeld.2.2.2.2.2.2))).trans (hHeld.2.2.2.2.2.2)
             refine ⟨_, rfl, ?_⟩
             replace HO_8 := Aside0.mk (rb HO_8.out hb)
             replace HO_9 := Aside0.mk (rb HO_9.out hb)
             replace BK645 := Aside0.mk (bb BK645.out hb)
             replace BK669 := Aside0.mk (bb BK669.out hb)
             replace HB := Aside0.mk (bj HB.out hb)
             (try clear hb)
             (try clear hb2)
             (try clear hk)
             (try clear hi)
             have p44 : 0 ≤ (((rd_T45 l0 x10_2).f1) : Int) := of_decide_eq_true (by first | (with_reducible assumption) | assumption)
             have q44 : (((rd_T45 l0 x10_2).f1) : Int) < ((x8_2.length : Int) : Int) := of_decide_eq_true (by first | (with_reducible assumption) | assumption)
             obtain ⟨go44, co44, eo44, gb44, gl44, cl44, HG44⟩ := Kd.R_form HO_8.out (by omega)
             (first | cases eo44 | (injection eo44 with ea_ en_ ec_; (first | subst ea_ | (injection ea_ with ea_; subst ea_)); subst ec_; clear en_))
             have GB44 := Aside0.mk gb44
             have IGB44 : Nonempty _ := ⟨GB44.out⟩
             have GG44 := Aside0.mk HG44
             clear gb44 gl44 HG44
             (first | simp only [add_plain] at hx671_0 | skip)
             obtain ⟨hx44_0, hf44_0⟩ := Kd.R_celln 0 HO_8.out (((rd_T45 l0 x10_2).f1) : Int) p44 q44
             replace p44 := eq_true p44
             replace q44 := eq_true q44
             have HP52 := Kd.R_putn HO_8.out (((rd_T45 l0 x10_2).f1) : Int) (wrap64 ((rd x8_2 ((rd_T45 l0 x10_2).f1)) + t672))
             rw [← Ny673.out] at HP52
             have HQ52 := Aside0.mk HP52
             clear HP52
             refine hK.out _ _ ⟨(blk_cell BK669.out 0).trans rfl, (blk_cell BK669.out 1).trans rfl, (blk_cell BK669.out 2).trans rfl, (blk_cell BK669.out 3).trans rfl, (blk_cell BK669.out 4).trans rfl, (blk_cell BK669.out 5).trans rfl, HS6_⟩ (fun hHeld => ?_)
             clear hK K
             refine norm_ (a' := ?_) ?_ ?_
             rotate_left
             ·show Act.put _ (some 73) _ = _
              simp only [Act.put, sA, s0, sS, i64_w, i32_w]
              rfl
             refine pure_ (i := 13) (N := some 74) (v := ?_) (a' := ?_) #[true, true, true, true, true, true, true, true, true, true, true, true, true, true, false, false] rfl rfl (any_of HT_.out (by kernel_rfl)) (fun _ _ _ h => h) (Or.inl ⟨by rfl, ?_⟩) ?_ ?_
             rotate_left
             ·intro w'
              go_simp
              with_reducible rfl
             rotate_left
             ·simp only [Act.put, sA, s0, sS, i64_w, i32_w]
              rfl
             refine pure_ (i := 14) (N := some 75) (v := ?_) (a' := ?_) #[true, true, true, true, true, true, true, true, true, true, true, true, true, true, true, false] rfl rfl (any_of HT_.out (by kernel_rfl)) (fun _ _ _ h => h) (Or.inl ⟨by rfl, ?_⟩) ?_ ?_
             rotate_left
             ·intro w'
              go_simp
              with_reducible rfl
             rotate_left
             ·simp only [Act.put, sA, s0, sS, i64_w, i32_w]
              rfl
             refine last_ (i := 15) (N := none) #[true, true, true, true, true, true, true, true, true, true, true, true, true, true, true, true] rfl rfl (one_of HT_.out (by kernel_rfl)) (by decide) (fun K hK => ?_)
             refine skip_ (w1 := ?_) (by rfl) rfl ?_ ?_
             rotate_left
             ·go_simp
              rfl
             refine hK.out _ _ ?_
             clear hK K
             refine done_ (done_of HT_.out (by kernel_rfl)) ?_
             try go_wp2
             go_roundg k2
             case measure => have := HJ3.out; have := HK2.out; omega
             case rel => exact ⟨(y673), (x9_2), (wrap64 (x10_2 + 1)), (x646000_2), (by first | rfl | (simp; done) | (simp [*]; done)), H', ⟨by have := HJ3.out; have := HK2.out; omega⟩, ⟨by exact lR <| HQ52.out⟩, ⟨by exact lR <| Kd.R_mono (Kd.R_far (p := ⟨go44, (((rd_T45 l0 x10_2).f1) : Int).toNat, none⟩) (Kd.R_mono HO_9.out (fun k_ hk => (⟨hk, fun e_ => hk (by rw [e_]; rfl)⟩ : _ ∧ k_ ≠ go44))) (fun _ hk => hk.2) (.int .i64 (wrap64 ((rd x8_2 ((rd_T45 l0 x10_2).f1)) + t672)))) (fun _ hk => hk.1)⟩, ⟨by (with_reducible repeat first | refine kN ?_ _ | refine kD ?_ | refine kA ?_ _); refine blk_far ?_ (by have h_ := Kd.R_ne HO_8.out BK645.out (by decide); intro e_; exact h_ (by rw [e_]; rfl)) _; exact lK <| BK645.out⟩, ⟨by exact jB HB.out⟩⟩
            ·rw [if_neg c42] at H
             exact absurd H (by simp)
           ·rw [if_neg c41] at H
            exact absurd H (by simp)
          ·rw [if_neg c40] at H
           have c40b0 := beq_eq_false_iff_ne.mpr c40
           have c40b1 := bne_iff_ne.mpr c40
           by_cases c53 : ((rd_T45 l0 x10_2).f0) = 3
           ·rw [if_pos c53] at H
            have c53b0 := beq_iff_eq.mpr c53
            have c53b1 := bne_eq_false_iff_eq.mpr c53
            clear c53
            obtain ⟨t674, A54, H⟩ := bS H
            try dsimp only at H
            by_cases c55 : x9_2.length < 17592186044416
            ·rw [if_pos c55] at H
             have LMc55 := Aside0.mk c55
             clear c55
             obtain ⟨y675, hy675⟩ : ∃ y_ : List Int, y_ = (x9_2 ++ [t674]) := ⟨_, rfl⟩
             replace H : (spec_ActRun.l0 k2 l0 l1 l2 x8_2 y675 (wrap64 (x10_2 + 1))) = some (r1, r2, r3) := by first | (rw [hy675]; exact H) | exact H
             have Ny675 := Aside0.mk hy675
             clear hy675
             have H' := Aside0.mk H
             clear H
             have p668 : 0 ≤ (x10_2 : Int) := of_decide_eq_true (by first | (with_reducible assumption) | assumption)
             have q668 : x10_2 < (l0.length : Int) := of_decide_eq_true (by first | (with_reducible assumption) | assumption)
             obtain ⟨ad668, A668_3, c668_3, A668_4, c668_4, e668, hx668_0, hx668_1, hx668_2, hx668_3, hx668_4, hx668_5, hl668_3, hi668_3, hl668_4, hi668_4⟩ := at_T45 HR0.out x10_2 p668 q668
             cases e668
             replace hx668_0 := cl HB.out hx668_0
             replace hx668_1 := cl HB.out hx668_1
             replace hx668_2 := cl HB.out hx668_2
             replace hx668_3 := cl HB.out hx668_3
             replace hx668_4 := cl HB.out hx668_4
             replace hx668_5 := cl HB.out hx668_5
             have HR668_3 := Aside0.mk hi668_3
             have HC668_3 := Aside0.mk hl668_3
             clear hi668_3 hl668_3
             have HR668_4 := Aside0.mk hi668_4
             have HC668_4 := Aside0.mk hl668_4
             clear hi668_4 hl668_4
             replace p668 := eq_true p668
             replace q668 := eq_true q668
             go_wp2_with (first | ((with_reducible refine gate_dst (N := 11) rfl ?_); refine bx 11 #[.int .i64 0, .int .i64 0, .int .i64 0, .slice none 0 0, .slice none 0 0, .int .i64 0] 45 ?_; intro gb669 hg w56 hbox hb; replace HO_8 := Aside0.mk (rb HO_8.out hb); replace HO_9 := Aside0.mk (rb HO_9.out hb); have BK669 := Aside0.mk (hbox); have GW669 := Aside0.mk ((gz hg HB.out)); have IGW669 : Nonempty _ := ⟨GW669.out⟩; have GE669 := Aside0.mk ((gz hg HB.out)); have IGE669 : Nonempty _ := ⟨GE669.out⟩; replace HB := Aside0.mk (bj HB.out hb); have NB645_669 := Aside0.mk ((neL hg (lK BK645.out) : gb645 ≠ gb669)); have NB669_645 := Aside0.mk ((neG hg (lK BK645.out) : gb669 ≠ gb645)); replace BK645 := Aside0.mk (bb BK645.out hb); clear hb hbox hg; have hnb57 := NB669_645.out; have hnc57 := NB645_669.out; obtain ⟨hcz58_0, hcz58_1, hcz58_2, hcz58_3, hcz58_4, hcz58_5, hfz58_0, hfz58_1, hfz58_2, hfz58_3, hfz58_4, hfz58_5⟩ := cf6 BK669.out; obtain ⟨Ao59, co59, eo59⟩ := Kd.R_slice HO_8.out; subst eo59) | ((with_reducible refine gate_callee (f := 43) rfl ?_); refine gL (some 83) Try.func43 #[.agg #[.slice A668_3 ((rd_T45 l0 x10_2).f3.f0).length c668_3, .slice A668_4 ((rd_T45 l0 x10_2).f3.f1).length c668_4, .int .i64 ((rd_T45 l0 x10_2).f3.f2)], .slice Ao59 x8_2.length co59, .slice A2 l2.length c2] ?_; (with_reducible refine (spec_l1At.calls k2 _ _ ((rd_T45 l0 x10_2).f3.f0) _ _ ((rd_T45 l0 x10_2).f3.f1) ((rd_T45 l0 x10_2).f3.f2) _ _ x8_2 _ _ l2 t674 _ ?side1 ?side2 ?side3 ?side4 ?side5 ?side6 ?side7 ?side8 A54.out).mono ?_); (case side1 => exact Kd.C_below HR668_3.out (by exact jB HB.out)); (case side2 => exact HC668_3.out); (case side3 => exact Kd.C_below HR668_4.out (by exact jB HB.out)); (case side4 => exact HC668_4.out); (case side5 => refine (Kd.R_reads' (e := 3) (base := w.heap.size) (ok := fun k_ => some k_ ≠ (u9 : Value).ownBlock) (n := x8_2.length) (c := co59) ?_).2.2; exact (qp (R6 HO_8.out BK669.out))); (case side6 => exact (Kd.R_reads' HO_8.out).2.1); (case side7 => exact Kd.C_below HR2.out (by exact jB HB.out)); (case side8 => exact HC2.out); rintro e w60 ⟨rfl, hb⟩; refine ⟨_, rfl, ?_⟩; replace HO_8 := Aside0.mk (Kd.R_below (qp (R6 HO_8.out BK669.out)) hb); replace HO_9 := Aside0.mk (Kd.R_below (qp (R6 HO_9.out BK669.out)) hb); replace BK645 := Aside0.mk (blk_below (f6 (lK BK645.out) NB645_669.out) hb); replace BK669 := Aside0.mk (blk_below (g := gb669) (o := .cells #[.int .i64 ((rd_T45 l0 x10_2).f0), .int .i64 ((rd_T45 l0 x10_2).f1), .int .i64 ((rd_T45 l0 x10_2).f2), .slice A668_3 ((rd_T45 l0 x10_2).f3.f0).length c668_3, .slice A668_4 ((rd_T45 l0 x10_2).f3.f1).length c668_4, .int .i64 ((rd_T45 l0 x10_2).f3.f2)] 45 (0, 0)) (by exact p6 (lK BK669.out)) hb); replace HB := Aside0.mk (bj HB.out hb); (try clear hb)) | ((with_reducible refine gate_builtin (b := .append) (xs := #[.tmp 78, .tmp 84]) rfl ?_); at_builtin; refine Kd.R_append (Kd.int .i64) (w0 := w) w.heap.size rfl (.tmp 78) (.tmp 84) 24 3 (.int .i64 0) 8 rfl Try.underlying24 info3 rfl (by decide) (by omega) u9 x9_2 t674 [.int .i64 t674] (fun k_ => some k_ ≠ ownBlock (.slice Ao59 x8_2.length co59)) (fun _ => False) rfl rfl ?aP (fun _ hk => hk.elim) ?aF ?aO ?aB ?aS ?aL ?_; (case aP => exact rfl); (case aB => exact (by exact jB HB.out)); (case aF => exact (fun k_ hk => Kd.fresh' (rl HO_8.out) k_ hk)); (case aO => exact (by exact lR HO_9.out)); (case aS => exact (below_size (by exact jB HB.out))); (case aL => have := LMc55.out; omega); intro v676 w61 ho hb hg hat; rw [← Ny675.out] at ho; replace HO_8 := Aside0.mk (Kd.R_after (ok := (fun _ => True)) (by exact lR <| Kd.R_mono HO_8.out (fun _ hk => ⟨trivial, hk⟩)) hg hat); replace BK645 := Aside0.mk (blk_grown (g := gb645) (o := .cells #[.int .i64 x646000_2, .slice none 0 0] 37 (0, 0)) (by exact lK BK645.out) hg (Kd.R_ne HO_9.out BK645.out (by decide))); replace BK669 := Aside0.mk (blk_grown (g := gb669) (o := .cells #[.int .i64 ((rd_T45 l0 x10_2).f0), .int .i64 ((rd_T45 l0 x10_2).f1), .int .i64 ((rd_T45 l0 x10_2).f2), .slice A668_3 ((rd_T45 l0 x10_2).f3.f0).length c668_3, .slice A668_4 ((rd_T45 l0 x10_2).f3.f1).length c668_4, .int .i64 ((rd_T45 l0 x10_2).f3.f2)] 45 (0, 0)) (by exact lK BK669.out) hg (Kd.R_ne HO_9.out BK669.out (by decide))); replace HB := Aside0.mk (hb); have HO677 := Aside0.mk (ho); clear HO_9 ho hb hg hat))
             go_roundg k2
             case measure => have := HJ3.out; have := HK2.out; omega
             case rel => exact ⟨(x8_2), (y675), (wrap64 (x10_2 + 1)), (x646000_2), (by first | rfl | (simp; done) | (simp [*]; done)), H', ⟨by have := HJ3.out; have := HK2.out; omega⟩, ⟨by exact lR <| Kd.R_mono HO_8.out (fun _ hk => hk.2)⟩, ⟨by exact lR <| HO677.out⟩, ⟨by exact lK <| BK645.out⟩, ⟨by exact jB HB.out⟩⟩
            ·rw [if_neg c55] at H
             exact absurd H (by simp)
           ·rw [if_neg c53] at H
            have c53b0 := beq_eq_false_iff_ne.mpr c53
            have c53b1 := bne_iff_ne.mpr c53
            obtain ⟨y678, hy678⟩ : ∃ y_ : List Int, y_ = (([] : List Int)) := ⟨_, rfl⟩
            replace H : (if y678.length + l1.length < 17592186044416 then (some (2, ([] : List Int), (y678 ++ l1))) else (none)) = some (r1, r2, r3) := by first | (rw [hy678]; exact H) | exact H
            have Ny678 := Aside0.mk hy678
            clear hy678
            by_cases c62 : y678.length + l1.length < 17592186044416
            ·rw [if_pos c62] at H
             have LMc62 := Aside0.mk c62
             clear c62
             obtain ⟨y681, hy681⟩ : ∃ y_ : List Int, y_ = (y678 ++ l1) := ⟨_, rfl⟩
             replace H : (some (2, ([] : List Int), y681)) = some (r1, r2, r3) := by first | (rw [hy681]; exact H) | exact H
             have Ny681 := Aside0.mk hy681
             clear hy681
             simp only [Option.some.injEq, Prod.mk.injEq] at H
             obtain ⟨rfl, rfl, rfl⟩ := H
             have p668 : 0 ≤ (x10_2 : Int) := of_decide_eq_true (by first | (with_reducible assumption) | assumption)
             have q668 : x10_2 < (l0.length : Int) := of_decide_eq_true (by first | (with_reducible assumption) | assumption)
             obtain ⟨ad668, A668_3, c668_3, A668_4, c668_4, e668, hx668_0, hx668_1, hx668_2, hx668_3, hx668_4, hx668_5, hl668_3, hi668_3, hl668_4, hi668_4⟩ := at_T45 HR0.out x10_2 p668 q668
             cases e668
             replace hx668_0 := cl HB.out hx668_0
             replace hx668_1 := cl HB.out hx668_1
             replace hx668_2 := cl HB.out hx668_2
             replace hx668_3 := cl HB.out hx668_3
             replace hx668_4 := cl HB.out hx668_4
             replace hx668_5 := cl HB.out hx668_5
             have HR668_3 := Aside0.mk hi668_3
             have HC668_3 := Aside0.mk hl668_3
             clear hi668_3 hl668_3
             have HR668_4 := Aside0.mk hi668_4
             have HC668_4 := Aside0.mk hl668_4
             clear hi668_4 hl668_4
             replace p668 := eq_true p668
             replace q668 := eq_true q668
             go_wp2_with (first | ((with_reducible refine gate_dst (N := 11) rfl ?_); refine bx 11 #[.int .i64 0, .int .i64 0, .int .i64 0, .slice none 0 0, .slice none 0 0, .int .i64 0] 45 ?_; intro gb669 hg w63 hbox hb; replace HO_8 := Aside0.mk (rb HO_8.out hb); replace HO_9 := Aside0.mk (rb HO_9.out hb); have BK669 := Aside0.mk (hbox); have GW669 := Aside0.mk ((gz hg HB.out)); have IGW669 : Nonempty _ := ⟨GW669.out⟩; have GE669 := Aside0.mk ((gz hg HB.out)); have IGE669 : Nonempty _ := ⟨GE669.out⟩; replace HB := Aside0.mk (bj HB.out hb); have NB645_669 := Aside0.mk ((neL hg (lK BK645.out) : gb645 ≠ gb669)); have NB669_645 := Aside0.mk ((neG hg (lK BK645.out) : gb669 ≠ gb645)); replace BK645 := Aside0.mk (bb BK645.out hb); clear hb hbox hg; have hnb64 := NB669_645.out; have hnc64 := NB645_669.out; obtain ⟨hcz65_0, hcz65_1, hcz65_2, hcz65_3, hcz65_4, hcz65_5, hfz65_0, hfz65_1, hfz65_2, hfz65_3, hfz65_4, hfz65_5⟩ := cf6 BK669.out) | ((with_reducible refine gate_dst (N := 44) rfl ?_); refine Kd.R_lit (Kd.int .i64) _ 3 ?hg (N := 44) ?hd (xs := ([] : List Int)) (inner := []) (ok := fun _ => True) (okp := fun _ => True) ?hr ?hp (fun _ hk => hk) trivial (Below.refl _ _) (Nat.le_refl _) (by simp) ?_; (case hd => rfl); (case hg => rfl); (case hr => first | (go_simp; done) | (go_simp; rfl)); (case hp => exact (Reps.none _ _)); intro v679 w66 ho67 hb hg_ hnew_; clear hg_ hnew_; (first | rw [← Ny678.out] at ho67 | (simp only [Int.reduceToNat] at ho67; rw [← Ny678.out] at ho67)); have HO680 := Aside0.mk (Kd.R_lower (Kd.R_new' (Kd.R_new' ho67 (Kd.R_lt (qp (R6 HO_8.out BK669.out)))) (Kd.R_lt (qp (R6 HO_9.out BK669.out)))) (below_size (by exact jB HB.out))); replace HO_8 := Aside0.mk (Kd.R_elder' (qp (R6 HO_8.out BK669.out)) (Kd.R_base ho67) hb); replace HO_9 := Aside0.mk (Kd.R_elder' (qp (R6 HO_9.out BK669.out)) (Kd.R_base ho67) hb); replace BK645 := Aside0.mk (blk_below (f6 (lK BK645.out) NB645_669.out) hb); replace BK669 := Aside0.mk (blk_below (g := gb669) (o := .cells #[.int .i64 ((rd_T45 l0 x10_2).f0), .int .i64 ((rd_T45 l0 x10_2).f1), .int .i64 ((rd_T45 l0 x10_2).f2), .slice A668_3 ((rd_T45 l0 x10_2).f3.f0).length c668_3, .slice A668_4 ((rd_T45 l0 x10_2).f3.f1).length c668_4, .int .i64 ((rd_T45 l0 x10_2).f3.f2)] 45 (0, 0)) (by exact p6 (lK BK669.out)) hb); replace HB := Aside0.mk (bj HB.out hb); clear hb ho67) | ((with_reducible refine gate_builtin (b := .append) (xs := #[.tmp 44, .tmp 45]) rfl ?_); at_builtin; refine Kd.R_append_rows (Kd.int .i64) (w0 := w) w.heap.size rfl (.tmp 44) (.tmp 45) 24 3 (.int .i64 0) 8 rfl Try.underlying24 info3 rfl (by decide) (by omega) v679 y678 l1 _ _ _ (fun k_ => some k_ ≠ v656.ownBlock ∧ some k_ ≠ (u9 : Value).ownBlock) (fun _ => False) rfl rfl ?aO ?aR (fun _ _ h => h) (fun _ h => h.elim) ?aF ?aB ?aS ?aL ?_; (case aR => exact lC <| (Kd.C_below HR1.out HB.out)); (case aB => exact (by exact jB HB.out)); (case aF => exact (fun k_ hk => ⟨Kd.fresh' (rl HO_8.out) k_ hk, Kd.fresh' (rl HO_9.out) k_ hk⟩)); (case aO => exact (by exact lR <| Kd.R_mono HO680.out (fun _ hk => ⟨hk.1.2, hk.2⟩))); (case aS => exact (below_size (by exact jB HB.out))); (case aL => have := LMc62.out; omega); intro v682 w68 ho hb hg hat; rw [← Ny681.out] at ho; replace HO_8 := Aside0.mk (Kd.R_after (ok := (fun k_ => some k_ ≠ (u9 : Value).ownBlock)) (by exact lR HO_8.out) hg hat); replace HO_9 := Aside0.mk (Kd.R_after (ok := (fun k_ => some k_ ≠ v656.ownBlock)) (by exact lR HO_9.out) hg hat); replace BK645 := Aside0.mk (blk_grown (g := gb645) (o := .cells #[.int .i64 x646000_2, .slice none 0 0] 37 (0, 0)) (by exact lK BK645.out) hg (Kd.R_ne HO680.out BK645.out (by decide))); replace BK669 := Aside0.mk (blk_grown (g := gb669) (o := .cells #[.int .i64 ((rd_T45 l0 x10_2).f0), .int .i64 ((rd_T45 l0 x10_2).f1), .int .i64 ((rd_T45 l0 x10_2).f2), .slice A668_3 ((rd_T45 l0 x10_2).f3.f0).length c668_3, .slice A668_4 ((rd_T45 l0 x10_2).f3.f1).length c668_4, .int .i64 ((rd_T45 l0 x10_2).f3.f2)] 45 (0, 0)) (by exact lK BK669.out) hg (Kd.R_ne HO680.out BK669.out (by decide))); replace HB := Aside0.mk (hb); have HO683 := Aside0.mk (ho); clear HO680 ho hb hg hat; obtain ⟨hcz69_0, hcz69_1, hfz69_0, hfz69_1⟩ := cf2 BK645.out))
             refine bodyPost_ret (results_ct rfl _ _ gb645 37 #[.int .i64 2, .slice none 0 0] (0, 0) _ rfl (by exact p2 (lK BK645.out)) Try.underlying37 rfl (by kernel_rfl)) rfl ?_
             exact ⟨_, _, by first | rfl | (simp [errW_none, errW_some] <;> rfl) | (simp [*, errW_none, errW_some] <;> rfl), by first | exact Kd.R_nil _ _ _ _ _ | exact Kd.N_nil _ _ _ _ _ | exact Kd.V_nil _ _ _ _ _ | exact Kd.Q_nil _ _ _ _ _ | exact Kd.S_nil _ _ _ _ _, by exact lR <| Kd.R_mono (Kd.R_far (p := ⟨gb645, 1, none⟩) (Kd.R_far (p := ⟨gb645, 0, none⟩) (Kd.R_types HO683.out BK645.out (by decide)) (fun _ hk => by first | exact hk.2 | exact fun e_ => hk.2 (e_.trans (ob _ _ _ _))) (.int .i64 2)) (fun _ hk => by first | exact hk.2 | exact fun e_ => hk.2 (e_.trans (ob _ _ _ _))) (.slice none 0 0)) (fun _ hk => (by simp [Value.ownBlock])), by exact jB HB.out⟩
            ·rw [if_neg c62] at H
             exact absurd H (by simp)
        ·rw [if_neg c25] at H
         exact absurd H (by simp)
       ·rw [if_neg c24] at H
        have c24b0 := decide_eq_false c24
        clear c24
        obtain ⟨⟨t661, t662, t665⟩, A70, H⟩ := bS H
        try dsimp only at H
        simp only [Option.some.injEq, Prod.mk.injEq] at H
        obtain ⟨rfl, rfl, rfl⟩ := H
        obtain ⟨Ao71, co71, eo71⟩ := Kd.R_slice HO_8.out
        subst eo71
        obtain ⟨Ao72, co72, eo72⟩ := Kd.R_slice HO_9.out
        subst eo72
        go_wp2_with (first | ((with_reducible refine gate_callee (f := 44) rfl ?_); refine gL (some 89) Try.func44 #[.slice A1 l1.length c1, .slice Ao71 x8_2.length co71, .slice Ao72 x9_2.length co72] ?_; (with_reducible refine (spec_l2End.calls k2 _ _ l1 (fun k_ => some k_ = (.slice Ao71 x8_2.length co71 : Value).ownBlock) (.slice Ao71 x8_2.length co71) x8_2 (fun k_ => some k_ = (.slice Ao72 x9_2.length co72 : Value).ownBlock) (.slice Ao72 x9_2.length co72) x9_2 t661 t662 t665 w _ ?side1 ?side2 ?side3 ?side4 ?side5 ?side6 ?side7 A70.out).mono ?_); (case side1 => exact jB HB.out); (case side2 => exact Kd.C_kept_came (Kd.heap_int .i64) HR1.out (by exact jB HB.out) (fun k_ hs_ => Or.elim hs_ (fun e_ => (fun e_ => Kd.R_base HO_8.out k_ e_.symm) e_) (fun e_ => (fun e_ => Kd.R_base HO_9.out k_ e_.symm) e_))); (case side3 => exact HC1.out); (case side4 => exact Kd.R_tight rfl HO_8.out); (case side5 => exact fun k_ e_ => (HO_8.out.1 k_ e_.symm)); (case side6 => exact Kd.R_tight rfl HO_9.out); (case side7 => exact fun k_ e_ => (HO_9.out.1 k_ e_.symm)); rintro e w73 ⟨v663, v666, rfl, ho0, ho1, hb, hkp⟩; refine ⟨_, rfl, ?_⟩; replace BK645 := Aside0.mk (blk_kept (by exact lK BK645.out) hkp (fun hs_ => Or.elim hs_ (fun e_ => (fun e_ => (Kd.R_ne HO_8.out BK645.out (by decide)) e_) e_) (fun e_ => (fun e_ => (Kd.R_ne HO_9.out BK645.out (by decide)) e_) e_))); have HO664 := Aside0.mk (Kd.R_mono (ok' := fun k_ => some k_ ≠ v666.ownBlock) ho0 (fun k_ hk_ => hk_.2)); have HO667 := Aside0.mk (Kd.R_mono (ok' := fun k_ => some k_ ≠ v663.ownBlock) ho1 (fun k_ hk_ => hk_.2)); replace HB := Aside0.mk (hb); clear HO_8 HO_9; (try clear hb); (try clear hkp); (try clear ho0); (try clear ho1); obtain ⟨hcz74_0, hcz74_1, hfz74_0, hfz74_1⟩ := cf2 BK645.out; obtain ⟨Ao75, co75, eo75⟩ := Kd.R_slice HO664.out; subst eo75))
        refine bodyPost_ret (results_ct rfl _ _ gb645 37 #[.int .i64 t661, .slice Ao75 t662.length co75] (0, 0) _ rfl (by exact p2 (lK BK645.out)) Try.underlying37 rfl (by kernel_rfl)) rfl ?_
        exact ⟨_, _, by first | rfl | (simp [errW_none, errW_some] <;> rfl) | (simp [*, errW_none, errW_some] <;> rfl), by exact lR <| Kd.R_mono (Kd.R_far (p := ⟨gb645, 1, none⟩) (Kd.R_far (p := ⟨gb645, 0, none⟩) (Kd.R_types HO664.out BK645.out (by decide)) (fun _ hk => by first | exact hk.2 | exact fun e_ => hk.2 (e_.trans (ob _ _ _ _))) (.int .i64 t661)) (fun _ hk => by first | exact hk.2 | exact fun e_ => hk.2 (e_.trans (ob _ _ _ _))) (.slice Ao75 t662.length co75)) (fun _ hk => by first | exact hk.1 | exact fun e_ => hk.1 (e_.trans (ob _ _ _ _))), by exact lR <| Kd.R_mono (Kd.R_far (p := ⟨gb645, 1, none⟩) (Kd.R_far (p := ⟨gb645, 0, none⟩) (Kd.R_types HO667.out BK645.out (by decide)) (fun _ hk => by first | exact hk.2 | exact fun e_ => hk.2 (e_.trans (ob _ _ _ _))) (.int .i64 t661)) (fun _ hk => by first | exact hk.2 | exact fun e_ => hk.2 (e_.trans (ob _ _ _ _))) (.slice Ao75 t662.length co75)) (fun _ hk => by first | exact hk.1 | exact fun e_ => hk.1 (e_.trans (ob _ _ _ _))), by exact jB HB.out⟩
    ·rw [if_neg c18] at H
     exact absurd H (by simp)

/-! ### laws_coInts: function 16 -/
def laws_coInts.l0 : Nat → List Int → List Int → Int → Option (Bool)
 | 0, _, _, _ => none
 | k + 1, x0, x1, x5 => if x5 < (x0.length : Int) then (if 0 ≤ x5 then (if x5 < (x1.length : Int) then (if (rd x0 x5) = (rd x1 x5) then (laws_coInts.l0 k x0 x1 (wrap64 (x5 + 1))) else (some false)) else (none)) else (none)) else (some true)
def laws_coInts.f (k : Nat) (l0 : List Int) (l1 : List Int) : Option (Bool) := if (l0.length : Int) = (l1.length : Int) then (laws_coInts.l0 k l0 l1 0) else (some false)
theorem laws_coInts.mono_l : ∀ k, (∀ y0 y1 y2, LeO (laws_coInts.l0 k y0 y1 y2) (laws_coInts.l0 (k + 1) y0 y1 y2))
 | 0 => fun _ _ _ r h => by simp [laws_coInts.l0] at h
 | k + 1 => by
  have ih0 := laws_coInts.mono_l k
  ·intro y0 y1 y2
   unfold laws_coInts.l0
   repeat' first
   | (with_reducible exact ih0 _ _ _)
   | (with_reducible exact LeO.refl _)
   | (with_reducible exact LeO.none _)
   | (with_reducible refine LeO.ite ?_ ?_)
   | (with_reducible refine LeO.bind ?_ (fun _ => ?_))
   | exact LeO.none _
   | refine LeO.ite ?_ ?_
   | refine LeO.bind ?_ (fun _ => ?_)
theorem laws_coInts.mono : ∀ a0 a1 k, LeO (laws_coInts.f k a0 a1) (laws_coInts.f (k + 1) a0 a1) := by
 intro a0 a1 k
 have ih0 := laws_coInts.mono_l k
 unfold laws_coInts.f
 repeat' first
   | (with_reducible exact ih0 _ _ _)
   | (with_reducible exact LeO.refl _)
   | (with_reducible exact LeO.none _)
   | (with_reducible refine LeO.ite ?_ ?_)
   | (with_reducible refine LeO.bind ?_ (fun _ => ?_))
   | exact LeO.none _
   | refine LeO.ite ?_ ?_
   | refine LeO.bind ?_ (fun _ => ?_)
set_option maxHeartbeats 8000000 in
set_option maxRecDepth 100000 in
theorem laws_coInts.calls (k : Nat) (A0 : Option Addr) (c0 : Nat) (l0 : List Int) (A1 : Option Addr) (c1 : Nat) (l1 : List Int) (r : Bool) (w : World) (hr0 : Kd.C (Kd.int .i64) w A0 l0.length l0) (hc0 : l0.length ≤ c0) (hr1 : Kd.C (Kd.int .i64) w A1 l1.length l1) (hc1 : l1.length ≤ c1) (h : laws_coInts.f k l0 l1 = some r) :
  Calls Try.prog 16 #[.slice A0 l0.length c0, .slice A1 l1.length c1] w fun e w' => e = .returned (.bool r) ∧ Drawn0 w w' := by
 have HR0 := Aside0.mk hr0
 have HC0 := Aside0.mk hc0
 clear hr0 hc0
 have HR1 := Aside0.mk hr1
 have HC1 := Aside0.mk hc1
 clear hr1 hc1
 have H : (if (l0.length : Int) = (l1.length : Int) then (laws_coInts.l0 k l0 l1 0) else (some false)) = some r := h
 clear h
 by_cases c3 : (l0.length : Int) = (l1.length : Int)
 ·rw [if_pos c3] at H
  have c3b0 := beq_iff_eq.mpr c3
  have c3b1 := bne_eq_false_iff_eq.mpr c3
  have c3b2 : (l0.length == l1.length) = true := by first | simpa using c3 | (simp at c3 ⊢; omega)
  clear c3
  have H' := Aside0.mk H
  clear H
  go_enter Try.func16, Try.ntmps16
  go_wp2
  repeat (go_quiet (fail); try go_wp2)
  go_loopg [5] k (fun kq v5 w' => ∃ (x5_1 : Int), v5 = .int .i64 x5_1 ∧ Aside0 (laws_coInts.l0 kq l0 l1 x5_1 = some r) ∧ Aside0 (kq ≤ k) ∧ Drawn0 w w')
  case atStart => exact ⟨(0), (by first | rfl | (simp; done) | (simp [*]; done)), H', ⟨Nat.le_refl _⟩, by repeat (first | exact Drawn0.refl _ | apply Drawn0.step)⟩
  case round =>
   clear H'
   try clear c1
   try clear p2
   try clear c3
   try clear c3b0
   try clear c3b1
   try clear c3b2
   obtain ⟨x5_1, rfl, HA, HK1, ⟨m1, rfl⟩⟩ := hrel
   cases gk with
   | zero => exact absurd HA.out (by simp [laws_coInts.l0])
   | succ k1 =>
    have H := HA.out
    clear HA
    simp only [laws_coInts.l0] at H
    by_cases c4 : x5_1 < (l0.length : Int)
    ·rw [if_pos c4] at H
     have c4b0 := decide_eq_true c4
     clear c4
     by_cases c5 : 0 ≤ x5_1
     ·rw [if_pos c5] at H
      have c5b0 := decide_eq_true c5
      clear c5
      by_cases c6 : x5_1 < (l1.length : Int)
      ·rw [if_pos c6] at H
       have c6b0 := decide_eq_true c6
       clear c6
       by_cases c7 : (rd l0 x5_1) = (rd l1 x5_1)
       ·rw [if_pos c7] at H
        have c7b0 := beq_iff_eq.mpr c7
        have c7b1 := bne_eq_false_iff_eq.mpr c7
        clear c7
        have H' := Aside0.mk H
        clear H
        have p684 : 0 ≤ (x5_1 : Int) := of_decide_eq_true (by first | (with_reducible assumption) | assumption)
        have q684 : x5_1 < (l0.length : Int) := of_decide_eq_true (by first | (with_reducible assumption) | assumption)
        obtain ⟨ad684, e684, hx684_0⟩ := Kd.at_int HR0.out x5_1 p684 q684
        cases e684
        replace p684 := eq_true p684
        replace q684 := eq_true q684
        have p685 : 0 ≤ (x5_1 : Int) := of_decide_eq_true (by first | (with_reducible assumption) | assumption)
        have q685 : x5_1 < (l1.length : Int) := of_decide_eq_true (by first | (with_reducible assumption) | assumption)
        obtain ⟨ad685, e685, hx685_0⟩ := Kd.at_int HR1.out x5_1 p685 q685
        cases e685
        replace p685 := eq_true p685
        replace q685 := eq_true q685
        go_wp2
        repeat (go_quiet (fail); try go_wp2)
        go_roundg k1
        case measure => have := HK1.out; omega
        case rel => exact ⟨(wrap64 (x5_1 + 1)), (by first | rfl | (simp; done) | (simp [*]; done)), H', ⟨by have := HK1.out; omega⟩, by repeat (first | exact Drawn0.refl _ | apply Drawn0.step)⟩
       ·rw [if_neg c7] at H
        have c7b0 := beq_eq_false_iff_ne.mpr c7
        have c7b1 := bne_iff_ne.mpr c7
        obtain rfl := Option.some.inj H
        have p684 : 0 ≤ (x5_1 : Int) := of_decide_eq_true (by first | (with_reducible assumption) | assumption)
        have q684 : x5_1 < (l0.length : Int) := of_decide_eq_true (by first | (with_reducible assumption) | assumption)
        obtain ⟨ad684, e684, hx684_0⟩ := Kd.at_int HR0.out x5_1 p684 q684
        cases e684
        replace p684 := eq_true p684
        replace q684 := eq_true q684
        have p685 : 0 ≤ (x5_1 : Int) := of_decide_eq_true (by first | (with_reducible assumption) | assumption)
        have q685 : x5_1 < (l1.length : Int) := of_decide_eq_true (by first | (with_reducible assumption) | assumption)
        obtain ⟨ad685, e685, hx685_0⟩ := Kd.at_int HR1.out x5_1 p685 q685
        cases e685
        replace p685 := eq_true p685
        replace q685 := eq_true q685
        go_wp2
        repeat (go_quiet (fail); try go_wp2)
        go_ret
        exact ⟨by first | rfl | (simp; done) | (simp [*]; done), by repeat (first | exact Drawn0.refl _ | apply Drawn0.step)⟩
      ·rw [if_neg c6] at H
       exact absurd H (by simp)
     ·rw [if_neg c5] at H
      exact absurd H (by simp)
    ·rw [if_neg c4] at H
     have c4b0 := decide_eq_false c4
     clear c4
     obtain rfl := Option.some.inj H
     go_wp2
     repeat (go_quiet (fail); try go_wp2)
     go_ret
     exact ⟨by first | rfl | (simp; done) | (simp [*]; done), by repeat (first | exact Drawn0.refl _ | apply Drawn0.step)⟩
 ·rw [if_neg c3] at H
  have c3b0 := beq_eq_false_iff_ne.mpr c3
  have c3b1 := bne_iff_ne.mpr c3
  have c3b2 : (l0.length == l1.length) = false := by first | simpa using c3 | (simp at c3 ⊢; omega)
  obtain rfl := Option.some.inj H
  go_enter Try.func16, Try.ntmps16
  go_wp2
  repeat (go_quiet (fail); try go_wp2)
  go_ret
  exact ⟨by first | rfl | (simp; done) | (simp [*]; done), by repeat (first | exact Drawn0.refl _ | apply Drawn0.step)⟩

end Go.Proofs.Ytgalnmgkcdmnkaa.QFnActSkip

-- shorter
