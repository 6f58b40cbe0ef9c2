/- Plain functions, and that the Go code computes them: written by a program of this session over the seat's translation; the conditions stand in each theorem. -/
import Derived.Test.YtgalnmgkcdmnkaaQFnPlnHomex0
import Derived.Test.YtgalnmgkcdmnkaaQFnPlnHomex1
import Derived.Test.YtgalnmgkcdmnkaaQFnPlnHomex7
import Derived.Test.YtgalnmgkcdmnkaaQFnPlnHomex10
namespace Go.Proofs.Ytgalnmgkcdmnkaa.QFnPlnHome
open Go.RowKit Go.Proofs.YtgalnmgkcdmnkaaW.PrintWords Go.Proofs.YtgalnmgkcdmnkaaW.PrintLast Go.Proofs.YtgalnmgkcdmnkaaW.PrintMore Go.Proofs.Ytgalnmgkcdmnkaa.HWords
open Value (ownBlock)
attribute [local go_sem] max2_int min2_int max_two min_two max_three min_three max_four min_four   -- for this text's walks alone
set_option linter.unusedVariables false
set_option linter.unusedSimpArgs false

/-! ### spec_l21AnyPlan: function 19 -/
def spec_l21AnyPlan.f (k : Nat) (s0_0 : List Int) (s0_1 : Int) (a1 : Int) : Option (Int × (List (List (S45))) × List Int × List Int × Int) := (spec_l21Plan.f k s0_0 s0_1).bind fun bt551 => ((spec_l20Rd_pick.f k s0_0 bt551.2.2.2.2 a1).bind fun bt563 => (if bt563.1 > 0 then (some (bt551.1, bt551.2.1, bt551.2.2.1, bt551.2.2.2.1, bt563.2)) else ((spec_l20Rd_pick.f k s0_0 bt563.2 5).bind fun bt565 => (if bt565.1 = 0 then ((some (([0, 5, (-1)] : List Int) : List Int)).bind fun y567 => ((spec_l20Rd_pick.f k s0_0 bt565.2 3).bind fun bt570 => (if 0 ≤ bt570.1 then (if bt570.1 < (y567.length : Int) then (some (rd y567 bt570.1, bt551.2.1, bt551.2.2.1, bt551.2.2.2.1, bt570.2)) else (none)) else (none)))) else (if bt565.1 = 1 then ((spec_l20AnyActs.f k s0_0 bt565.2 1).bind fun bt573 => (some (bt551.1, bt573.1, bt551.2.2.1, bt551.2.2.2.1, bt573.2))) else (if bt565.1 = 2 then ((some (([(-1), 51, 3, 3] : List Int) : List Int)).bind fun y577 => ((spec_l20Rd_pick.f k s0_0 bt565.2 4).bind fun bt580 => (if 0 ≤ bt580.1 then (if bt580.1 < (y577.length : Int) then ((some (([rd y577 bt580.1, 4, 4] : List Int) : List Int)).bind fun y583 => (if bt551.2.2.1.length + y583.length < 17592186044416 then (some (bt551.1, bt551.2.1, (bt551.2.2.1 ++ y583), bt551.2.2.2.1, bt580.2)) else (none))) else (none)) else (none)))) else (if bt565.1 = 3 then ((some (([1001, (-1000), 1000] : List Int) : List Int)).bind fun y589 => ((spec_l20Rd_pick.f k s0_0 bt565.2 3).bind fun bt592 => (if 0 ≤ bt592.1 then (if bt592.1 < (y589.length : Int) then (if 0 < (bt551.2.2.2.1.length : Int) then (some (bt551.1, bt551.2.1, bt551.2.2.1, (bt551.2.2.2.1.set (0 : Int).toNat (rd y589 bt592.1)), bt592.2)) else (none)) else (none)) else (none)))) else (if 2 ≤ (bt551.2.2.2.1.length : Int) then (some (bt551.1, bt551.2.1, bt551.2.2.1, (bt551.2.2.2.1.take (2 : Int).toNat), bt565.2)) else (none)))))))))
theorem spec_l21AnyPlan.mono : ∀ a0 a1 a2 k, LeO (spec_l21AnyPlan.f k a0 a1 a2) (spec_l21AnyPlan.f (k + 1) a0 a1 a2) := by
 intro a0 a1 a2 k
 unfold spec_l21AnyPlan.f
 repeat' first
   | (with_reducible exact spec_l20AnyActs.mono _ _ _ _)
   | (with_reducible exact spec_l20Rd_pick.mono _ _ _ _)
   | (with_reducible exact spec_l21Plan.mono _ _ _)
   | (with_reducible exact LeO.refl _)
   | (with_reducible exact LeO.none _)
   | (with_reducible refine LeO.ite ?_ ?_)
   | (with_reducible refine LeO.bind ?_ (fun _ => ?_))
   | exact LeO.none _
   | refine LeO.ite ?_ ?_
   | refine LeO.bind ?_ (fun _ => ?_)
def spec_l21AnyPlan.T11 : Bool × List (List Nat × List Nat) := (true, [([], []), ([0], [0]), ([], []), ([], []), ([3], [3]), ([2, 4], [2, 4]), ([5], [5]), ([6], [6]), ([1, 7, 4], [1, 7]), ([0, 1, 2, 3, 4, 5, 6, 7, 8], []), ([9, 8, 8, 0, 1, 2, 3, 4, 5, 6, 7, 8], [8, 9])])
def spec_l21AnyPlan.B11 : List Nat := [0, 1, 0, 0, 8, 28, 60, 124, 255, 511, 1023]
theorem spec_l21AnyPlan.tab11 : rtab .any (opsOf Try.f19 11) = spec_l21AnyPlan.T11 := by kernel_rfl
theorem spec_l21AnyPlan.bits11 : waitsOk spec_l21AnyPlan.T11.2 spec_l21AnyPlan.B11 = true := by kernel_rfl
def spec_l21AnyPlan.T13 : Bool × List (List Nat × List Nat) := (true, [([], []), ([0], [0]), ([], []), ([], []), ([3], [3]), ([2, 4], [2, 4]), ([5], [5]), ([1, 0, 1, 2, 3, 4, 5, 6], [1]), ([7, 6, 4, 0, 1, 2, 3, 4, 5, 6], [6, 7])])
def spec_l21AnyPlan.B13 : List Nat := [0, 1, 0, 0, 8, 28, 60, 127, 255]
theorem spec_l21AnyPlan.tab13 : rtab .any (opsOf Try.f19 13) = spec_l21AnyPlan.T13 := by kernel_rfl
theorem spec_l21AnyPlan.bits13 : waitsOk spec_l21AnyPlan.T13.2 spec_l21AnyPlan.B13 = true := by kernel_rfl
set_option maxHeartbeats 8000000 in
set_option maxRecDepth 100000 in
theorem spec_l21AnyPlan.calls (k : Nat) (g : Nat) (s0_0 : List Int) (s0_1 : Int) (a1 : Int) (r1 : Int) (r2 : List (List (S45))) (r3 : List Int) (r4 : List Int) (r5 : Int) (w0 w : World) (hI : IsS69 w0 w g s0_0 s0_1) (hB : Below w0.heap.size w0 w) (h : spec_l21AnyPlan.f k s0_0 s0_1 a1 = some (r1, r2, r3, r4, r5)) :
  Calls Try.prog 19 #[.pointer (some ⟨g, 0, none⟩), .int .i64 a1] w fun e w' => ∃ v1_ v2_ v3_ : Value, e = .returned (.agg #[.int .i64 r1, v1_, v2_, v3_]) ∧ Kd.N (Kd.slice 45 k45) 33 w' w.heap.size (fun k_ => (w.heap.size ≤ k_) ∧ some k_ ≠ (v2_ : Value).ownBlock ∧ some k_ ≠ (v3_ : Value).ownBlock) v1_ r2 ∧ Kd.R (Kd.int .i64) 3 w' w.heap.size (fun k_ => (w.heap.size ≤ k_) ∧ some k_ ≠ (v3_ : Value).ownBlock) v2_ r3 ∧ Kd.R (Kd.int .i64) 3 w' w.heap.size (fun k_ => (w.heap.size ≤ k_) ∧ some k_ ≠ (v2_ : Value).ownBlock) v3_ r4 ∧ IsS69 w0 w' g s0_0 r5 ∧ Below w0.heap.size w0 w' ∧ KeepBut w w' g none := by
 have hu26 := Try.underlying26
 have HI0 := aM hI
 have IHI0 : Nonempty _ := ⟨IsS69.ge hI⟩
 have HK := aM (KeepBut.refl w g none)
 have HL := aM hB.size
 clear hI
 have HW0 := aM hB.size
 have HB := aM hB
 clear hB
 have H : ((spec_l21Plan.f k s0_0 s0_1).bind fun bt551 => ((spec_l20Rd_pick.f k s0_0 bt551.2.2.2.2 a1).bind fun bt563 => (if bt563.1 > 0 then (some (bt551.1, bt551.2.1, bt551.2.2.1, bt551.2.2.2.1, bt563.2)) else ((spec_l20Rd_pick.f k s0_0 bt563.2 5).bind fun bt565 => (if bt565.1 = 0 then ((some (([0, 5, (-1)] : List Int) : List Int)).bind fun y567 => ((spec_l20Rd_pick.f k s0_0 bt565.2 3).bind fun bt570 => (if 0 ≤ bt570.1 then (if bt570.1 < (y567.length : Int) then (some (rd y567 bt570.1, bt551.2.1, bt551.2.2.1, bt551.2.2.2.1, bt570.2)) else (none)) else (none)))) else (if bt565.1 = 1 then ((spec_l20AnyActs.f k s0_0 bt565.2 1).bind fun bt573 => (some (bt551.1, bt573.1, bt551.2.2.1, bt551.2.2.2.1, bt573.2))) else (if bt565.1 = 2 then ((some (([(-1), 51, 3, 3] : List Int) : List Int)).bind fun y577 => ((spec_l20Rd_pick.f k s0_0 bt565.2 4).bind fun bt580 => (if 0 ≤ bt580.1 then (if bt580.1 < (y577.length : Int) then ((some (([rd y577 bt580.1, 4, 4] : List Int) : List Int)).bind fun y583 => (if bt551.2.2.1.length + y583.length < 17592186044416 then (some (bt551.1, bt551.2.1, (bt551.2.2.1 ++ y583), bt551.2.2.2.1, bt580.2)) else (none))) else (none)) else (none)))) else (if bt565.1 = 3 then ((some (([1001, (-1000), 1000] : List Int) : List Int)).bind fun y589 => ((spec_l20Rd_pick.f k s0_0 bt565.2 3).bind fun bt592 => (if 0 ≤ bt592.1 then (if bt592.1 < (y589.length : Int) then (if 0 < (bt551.2.2.2.1.length : Int) then (some (bt551.1, bt551.2.1, bt551.2.2.1, (bt551.2.2.2.1.set (0 : Int).toNat (rd y589 bt592.1)), bt592.2)) else (none)) else (none)) else (none)))) else (if 2 ≤ (bt551.2.2.2.1.length : Int) then (some (bt551.1, bt551.2.1, bt551.2.2.1, (bt551.2.2.2.1.take (2 : Int).toNat), bt565.2)) else (none)))))))))) = some (r1, r2, r3, r4, r5) := h
 clear h
 obtain ⟨⟨t551, t552, t555, t558, t561⟩, A3, H⟩ := bS H
 try dsimp only at H
 obtain ⟨⟨t563, t564⟩, A4, H⟩ := bS H
 try dsimp only at H
 by_cases c5 : t563 > 0
 ·rw [if_pos c5] at H
  have c5b0 := decide_eq_true c5
  clear c5
  simp only [Option.some.injEq, Prod.mk.injEq] at H
  obtain ⟨rfl, rfl, rfl, rfl, rfl⟩ := H
  go_enter Try.func19, Try.ntmps19
  go_wp2_with (first | ((with_reducible refine gate_dst (N := 4) rfl ?_); refine bx 4 #[.int .i64 0, .slice none 0 0, .slice none 0 0, .slice none 0 0] 26 ?_; intro gb550 hg w6 hbox hb; replace HB := aM (bj HB.out hb); have BK550 := aM (hbox); have GW550 := aM ((gk hg HK.out)); have IGW550 : Nonempty _ := ⟨GW550.out⟩; have GE550 := aM ((Nat.le_trans HW0.out (gk hg HK.out) : w0.heap.size ≤ gb550)); have IGE550 : Nonempty _ := ⟨GE550.out⟩; replace HK := aM (kbl HK.out hb); have NB0_550 := aM ((by rw [hg]; exact Nat.ne_of_lt (IsS69.lt (show IsS69 w0 _ g s0_0 s0_1 from by exact IsS69.j HI0.out)) : g ≠ gb550)); have INB0_550 : Nonempty _ := ⟨NB0_550.out⟩; have NB550_0 := aM ((by rw [hg]; exact Nat.ne_of_gt (IsS69.lt (show IsS69 w0 _ g s0_0 s0_1 from by exact IsS69.j HI0.out)) : gb550 ≠ g)); replace HI0 := aM (IsS69.below (by exact IsS69.j HI0.out) hb); clear hb hbox hg) | ((with_reducible refine gate_callee (f := 46) rfl ?_); refine gL (some 7) Try.func46 #[.pointer (some ⟨g, 0, none⟩)] ?_; (with_reducible refine (spec_l21Plan.calls k g s0_0 s0_1 t551 t552 t555 t558 t561 w0 _ ?side1 ?side2 A3.out).mono ?_); (case side1 => exact IsS69.j HI0.out); (case side2 => exact jB HB.out); rintro e w7 ⟨v553, v556, v559, rfl, ho0, ho1, ho2, hi, hb, hk⟩; refine ⟨_, rfl, ?_⟩; have HO554 := aM (Kd.N_lower (Kd.N_mono (ok' := fun k_ => (w.heap.size ≤ k_) ∧ some k_ ≠ v556.ownBlock ∧ some k_ ≠ v559.ownBlock ∧ k_ ≠ gb550 ∧ k_ ≠ g) ho0 (fun k_ hk_ => ⟨(Nat.le_trans (keep_size (w := w) (g := g) (row := none) (by exact jK HK.out)) hk_.1), hk_.2.1, hk_.2.2, (Kd.freshB (g := gb550) (o := .cells #[.int .i64 0, .slice none 0 0, .slice none 0 0, .slice none 0 0] 26 (0, 0)) (by exact lK BK550.out) k_ hk_.1), (IsS69.fresh (by exact IsS69.j HI0.out) k_ hk_.1)⟩)) (keep_size (w := w) (g := g) (row := none) (by exact jK HK.out))); replace BK550 := aM (kb hk BK550.out NB550_0.out); have HO557 := aM (Kd.R_lower (Kd.R_newM (M := fun k_ => (w.heap.size ≤ k_)) (Kd.R_mono (ok' := fun k_ => some k_ ≠ v559.ownBlock) ho1 (fun _ hk_ => hk_.2)) (keep_size (w := w) (g := g) (row := none) (by exact jK HK.out)) (fun k_ h_ => h_)) (keep_size (w := w) (g := g) (row := none) (by exact jK HK.out))); have HO560 := aM (Kd.R_lower (Kd.R_newM (M := fun k_ => (w.heap.size ≤ k_)) (Kd.R_mono (ok' := fun k_ => some k_ ≠ v556.ownBlock) ho2 (fun _ hk_ => hk_.2)) (keep_size (w := w) (g := g) (row := none) (by exact jK HK.out)) (fun k_ h_ => h_)) (keep_size (w := w) (g := g) (row := none) (by exact jK HK.out))); replace HK := aM (kt HK.out hk); replace HB := aM (hb); replace HI0 := aM (hi); (try clear hb hk hi); (try clear ho0); (try clear ho1); (try clear ho2)) | ((with_reducible refine gate_dst (N := 5) rfl ?_); refine bx 5 #[.int .i64 0, .slice none 0 0, .slice none 0 0, .slice none 0 0] 26 ?_; intro gb562 hg w8 hbox hb; replace HO554 := aM (Kd.N_below (Kd.N_elderB (by exact lN <| HO554.out) gb562 (Nat.le_of_eq hg.symm)) hb); replace HO557 := aM (rb HO557.out hb); replace HO560 := aM (rb HO560.out hb); replace HB := aM (bj HB.out hb); have BK562 := aM (hbox); have GW562 := aM ((gk hg HK.out)); have IGW562 : Nonempty _ := ⟨GW562.out⟩; have GE562 := aM ((Nat.le_trans HW0.out (gk hg HK.out) : w0.heap.size ≤ gb562)); have IGE562 : Nonempty _ := ⟨GE562.out⟩; replace HK := aM (kbl HK.out hb); have NB550_562 := aM ((neL hg (lK BK550.out) : gb550 ≠ gb562)); have NB562_550 := aM ((neG hg (lK BK550.out) : gb562 ≠ gb550)); replace BK550 := aM (bb BK550.out hb); have NB0_562 := aM ((by rw [hg]; exact Nat.ne_of_lt (IsS69.lt (show IsS69 w0 _ g s0_0 t561 from by exact IsS69.j HI0.out)) : g ≠ gb562)); have INB0_562 : Nonempty _ := ⟨NB0_562.out⟩; have NB562_0 := aM ((by rw [hg]; exact Nat.ne_of_gt (IsS69.lt (show IsS69 w0 _ g s0_0 t561 from by exact IsS69.j HI0.out)) : gb562 ≠ g)); replace HI0 := aM (IsS69.below (by exact IsS69.j HI0.out) hb); clear hb hbox hg; have hnb9 := NB562_550.out; have hnc9 := NB550_562.out; have hnb10 := NB562_0.out; have hnc10 := NB0_562.out; have hcz11_0 : w8.cell? ⟨gb562, 0, none⟩ = some (.int .i64 0) := (blk_cell BK562.out 0).trans rfl; have hcz11_1 : w8.cell? ⟨gb562, 1, none⟩ = some (.slice none 0 0) := (blk_cell BK562.out 1).trans rfl; have hcz11_2 : w8.cell? ⟨gb562, 2, none⟩ = some (.slice none 0 0) := (blk_cell BK562.out 2).trans rfl; have hcz11_3 : w8.cell? ⟨gb562, 3, none⟩ = some (.slice none 0 0) := (blk_cell BK562.out 3).trans rfl; have hfz11_0 := blk_frozen BK562.out 0; have hfz11_1 := blk_frozen BK562.out 1; have hfz11_2 := blk_frozen BK562.out 2; have hfz11_3 := blk_frozen BK562.out 3; obtain ⟨Ao12, co12, eo12⟩ := Kd.N_slice HO554.out; subst eo12; obtain ⟨Ao13, co13, eo13⟩ := Kd.R_slice HO557.out; subst eo13; obtain ⟨Ao14, co14, eo14⟩ := Kd.R_slice HO560.out; subst eo14) | ((with_reducible refine gate_callee (f := 20) rfl ?_); refine gL (some 10) Try.func20 #[.pointer (some ⟨g, 0, none⟩), .int .i64 a1] ?_; (with_reducible refine (spec_l20Rd_pick.calls k g s0_0 t561 a1 t563 t564 w0 _ ?side1 ?side2 A4.out).mono ?_); (case side1 => exact IsS69.j HI0.out); (case side2 => exact jB HB.out); rintro e w15 ⟨rfl, hi, hb, hk⟩; refine ⟨_, rfl, ?_⟩; replace BK550 := aM (KeepBut.blk hk (g' := gb550) (o := .cells #[.int .i64 0, .slice none 0 0, .slice none 0 0, .slice none 0 0] 26 (0, 0)) (by exact f4 (lK BK550.out) NB550_562.out) NB550_0.out (by simp)); replace HO554 := aM (Kd.N_mono (Kd.N_keep (Kd.N_mono (ok := fun k_ => ((((w.heap.size ≤ k_)) ∧ (some k_ ≠ ownBlock (.slice Ao13 t555.length co13) ∧ (some k_ ≠ ownBlock (.slice Ao14 t558.length co14) ∧ (k_ ≠ gb550 ∧ k_ ≠ g)))) ∧ k_ ≠ gb562)) (by exact lN <| (Kd.N_mono (Kd.N_far (p := ⟨gb562, 3, none⟩) (Kd.N_far (p := ⟨gb562, 2, none⟩) (Kd.N_far (p := ⟨gb562, 1, none⟩) (Kd.N_far (p := ⟨gb562, 0, none⟩) (Kd.N_mono HO554.out (fun k_ hk => (⟨hk, hk.2⟩ : _ ∧ k_ ≠ gb562))) (fun _ hk => hk.2) (.int .i64 t551)) (fun _ hk => hk.2) (.slice Ao12 t552.length co12)) (fun _ hk => hk.2) (.slice Ao13 t555.length co13)) (fun _ hk => hk.2) (.slice Ao14 t558.length co14)) (fun _ h_ => h_.1))) (fun k_ hk_ => (⟨hk_, hk_.1.2.2.2.2⟩ : _ ∧ k_ ≠ g))) hk (fun _ h => h.2)) (fun _ h => h.1)); replace HO557 := aM (Kd.R_mono (Kd.R_keep (IsS69.apart (show IsS69 w0 _ g s0_0 t561 from by exact IsS69.j HI0.out) (qp (R4 HO557.out BK562.out)) (by decide)) hk (fun _ h => h.2)) (fun _ h => h.1)); replace HO560 := aM (Kd.R_mono (Kd.R_keep (IsS69.apart (show IsS69 w0 _ g s0_0 t561 from by exact IsS69.j HI0.out) (qp (R4 HO560.out BK562.out)) (by decide)) hk (fun _ h => h.2)) (fun _ h => h.1)); replace BK562 := aM (KeepBut.blk hk (g' := gb562) (o := .cells #[.int .i64 t551, .slice Ao12 t552.length co12, .slice Ao13 t555.length co13, .slice Ao14 t558.length co14] 26 (0, 0)) (by exact p4 (lK BK562.out)) NB562_0.out (by simp)); replace HK := aM (kt HK.out hk); replace HB := aM (hb); replace HI0 := aM (hi); (try clear hb hk hi); have hcz16_0 : w15.cell? ⟨gb562, 0, none⟩ = some (.int .i64 t551) := (blk_cell BK562.out 0).trans rfl; have hcz16_1 : w15.cell? ⟨gb562, 1, none⟩ = some (.slice Ao12 t552.length co12) := (blk_cell BK562.out 1).trans rfl; have hcz16_2 : w15.cell? ⟨gb562, 2, none⟩ = some (.slice Ao13 t555.length co13) := (blk_cell BK562.out 2).trans rfl; have hcz16_3 : w15.cell? ⟨gb562, 3, none⟩ = some (.slice Ao14 t558.length co14) := (blk_cell BK562.out 3).trans rfl; have hfz16_0 := blk_frozen BK562.out 0; have hfz16_1 := blk_frozen BK562.out 1; have hfz16_2 := blk_frozen BK562.out 2; have hfz16_3 := blk_frozen BK562.out 3; have hnb17 := NB550_0.out; have hnc17 := NB0_550.out; have hcz18_0 : w15.cell? ⟨gb550, 0, none⟩ = some (.int .i64 0) := (blk_cell BK550.out 0).trans rfl; have hcz18_1 : w15.cell? ⟨gb550, 1, none⟩ = some (.slice none 0 0) := (blk_cell BK550.out 1).trans rfl; have hcz18_2 : w15.cell? ⟨gb550, 2, none⟩ = some (.slice none 0 0) := (blk_cell BK550.out 2).trans rfl; have hcz18_3 : w15.cell? ⟨gb550, 3, none⟩ = some (.slice none 0 0) := (blk_cell BK550.out 3).trans rfl; have hfz18_0 := blk_frozen BK550.out 0; have hfz18_1 := blk_frozen BK550.out 1; have hfz18_2 := blk_frozen BK550.out 2; have hfz18_3 := blk_frozen BK550.out 3))
  refine bodyPost_ret (results_cell_row rfl _ _ gb550 26 #[.int .i64 t551, .slice Ao12 t552.length co12, .slice Ao13 t555.length co13, .slice Ao14 t558.length co14] (0, 0) _ rfl (by exact p4 (lK BK550.out)) Try.underlying26 rfl (by kernel_rfl)) rfl ?_
  exact ⟨_, _, _, er, by exact lN <| Kd.N_mono (Kd.N_far (p := ⟨gb550, 3, none⟩) (Kd.N_far (p := ⟨gb550, 2, none⟩) (Kd.N_far (p := ⟨gb550, 1, none⟩) (Kd.N_far (p := ⟨gb550, 0, none⟩) (Kd.N_mono HO554.out (fun k_ hk => (⟨hk, hk.1.2.2.2.1⟩ : _ ∧ k_ ≠ gb550))) (fun _ hk => by first | exact hk.2 | exact fun e_ => hk.2 (e_.trans (ob _ _ _ _))) (.int .i64 t551)) (fun _ hk => by first | exact hk.2 | exact fun e_ => hk.2 (e_.trans (ob _ _ _ _))) (.slice Ao12 t552.length co12)) (fun _ hk => by first | exact hk.2 | exact fun e_ => hk.2 (e_.trans (ob _ _ _ _))) (.slice Ao13 t555.length co13)) (fun _ hk => by first | exact hk.2 | exact fun e_ => hk.2 (e_.trans (ob _ _ _ _))) (.slice Ao14 t558.length co14)) (fun _ hk => ⟨(by first | exact hk.1.1.1 | exact fun e_ => hk.1.1.1 (e_.trans (ob _ _ _ _))), ⟨(by first | exact hk.1.1.2.1 | exact fun e_ => hk.1.1.2.1 (e_.trans (ob _ _ _ _))), (by first | exact hk.1.1.2.2.1 | exact fun e_ => hk.1.1.2.2.1 (e_.trans (ob _ _ _ _)))⟩⟩), by exact lR <| Kd.R_mono (Kd.R_far (p := ⟨gb550, 3, none⟩) (Kd.R_far (p := ⟨gb550, 2, none⟩) (Kd.R_far (p := ⟨gb550, 1, none⟩) (Kd.R_far (p := ⟨gb550, 0, none⟩) (Kd.R_types HO557.out BK550.out (by decide)) (fun _ hk => by first | exact hk.2 | exact fun e_ => hk.2 (e_.trans (ob _ _ _ _))) (.int .i64 t551)) (fun _ hk => by first | exact hk.2 | exact fun e_ => hk.2 (e_.trans (ob _ _ _ _))) (.slice Ao12 t552.length co12)) (fun _ hk => by first | exact hk.2 | exact fun e_ => hk.2 (e_.trans (ob _ _ _ _))) (.slice Ao13 t555.length co13)) (fun _ hk => by first | exact hk.2 | exact fun e_ => hk.2 (e_.trans (ob _ _ _ _))) (.slice Ao14 t558.length co14)) (fun _ hk => ⟨(by first | exact hk.1.1 | exact fun e_ => hk.1.1 (e_.trans (ob _ _ _ _))), (by first | exact hk.1.2 | exact fun e_ => hk.1.2 (e_.trans (ob _ _ _ _)))⟩), by exact lR <| Kd.R_mono (Kd.R_far (p := ⟨gb550, 3, none⟩) (Kd.R_far (p := ⟨gb550, 2, none⟩) (Kd.R_far (p := ⟨gb550, 1, none⟩) (Kd.R_far (p := ⟨gb550, 0, none⟩) (Kd.R_types HO560.out BK550.out (by decide)) (fun _ hk => by first | exact hk.2 | exact fun e_ => hk.2 (e_.trans (ob _ _ _ _))) (.int .i64 t551)) (fun _ hk => by first | exact hk.2 | exact fun e_ => hk.2 (e_.trans (ob _ _ _ _))) (.slice Ao12 t552.length co12)) (fun _ hk => by first | exact hk.2 | exact fun e_ => hk.2 (e_.trans (ob _ _ _ _))) (.slice Ao13 t555.length co13)) (fun _ hk => by first | exact hk.2 | exact fun e_ => hk.2 (e_.trans (ob _ _ _ _))) (.slice Ao14 t558.length co14)) (fun _ hk => ⟨(by first | exact hk.1.1 | exact fun e_ => hk.1.1 (e_.trans (ob _ _ _ _))), (by first | exact hk.1.2 | exact fun e_ => hk.1.2 (e_.trans (ob _ _ _ _)))⟩), by exact IsS69.j HI0.out, by exact jB HB.out, by exact jK HK.out⟩
 ·rw [if_neg c5] at H
  have c5b0 := decide_eq_false c5
  clear c5
  obtain ⟨⟨t565, t566⟩, A19, H⟩ := bS H
  try dsimp only at H
  by_cases c20 : t565 = 0
  ·rw [if_pos c20] at H
   have c20b0 := beq_iff_eq.mpr c20
   have c20b1 := bne_eq_false_iff_eq.mpr c20
   clear c20
   obtain ⟨y567, hy567⟩ : ∃ y_ : List Int, y_ = (([0, 5, (-1)] : List Int)) := ⟨_, rfl⟩
   try rw [← hy567] at H
   try dsimp only [Option.bind_some] at H
   have Ny567 := aM hy567
   clear hy567
   obtain ⟨⟨t570, t571⟩, A21, H⟩ := bS H
   try dsimp only at H
   by_cases c22 : 0 ≤ t570
   ·rw [if_pos c22] at H
    have c22b0 := decide_eq_true c22
    clear c22
    by_cases c23 : t570 < (y567.length : Int)
    ·rw [if_pos c23] at H
     have c23b0 := decide_eq_true c23
     clear c23
     simp only [Option.some.injEq, Prod.mk.injEq] at H
     obtain ⟨rfl, rfl, rfl, rfl, rfl⟩ := H
     go_enter Try.func19, Try.ntmps19
     go_wp2_with (first | ((with_reducible refine gate_dst (N := 4) rfl ?_); refine bx 4 #[.int .i64 0, .slice none 0 0, .slice none 0 0, .slice none 0 0] 26 ?_; intro gb550 hg w24 hbox hb; replace HB := aM (bj HB.out hb); have BK550 := aM (hbox); have GW550 := aM ((gk hg HK.out)); have IGW550 : Nonempty _ := ⟨GW550.out⟩; have GE550 := aM ((Nat.le_trans HW0.out (gk hg HK.out) : w0.heap.size ≤ gb550)); have IGE550 : Nonempty _ := ⟨GE550.out⟩; replace HK := aM (kbl HK.out hb); have NB0_550 := aM ((by rw [hg]; exact Nat.ne_of_lt (IsS69.lt (show IsS69 w0 _ g s0_0 s0_1 from by exact IsS69.j HI0.out)) : g ≠ gb550)); have INB0_550 : Nonempty _ := ⟨NB0_550.out⟩; have NB550_0 := aM ((by rw [hg]; exact Nat.ne_of_gt (IsS69.lt (show IsS69 w0 _ g s0_0 s0_1 from by exact IsS69.j HI0.out)) : gb550 ≠ g)); replace HI0 := aM (IsS69.below (by exact IsS69.j HI0.out) hb); clear hb hbox hg) | ((with_reducible refine gate_callee (f := 46) rfl ?_); refine gL (some 7) Try.func46 #[.pointer (some ⟨g, 0, none⟩)] ?_; (with_reducible refine (spec_l21Plan.calls k g s0_0 s0_1 t551 t552 t555 t558 t561 w0 _ ?side1 ?side2 A3.out).mono ?_); (case side1 => exact IsS69.j HI0.out); (case side2 => exact jB HB.out); rintro e w25 ⟨v553, v556, v559, rfl, ho0, ho1, ho2, hi, hb, hk⟩; refine ⟨_, rfl, ?_⟩; have HO554 := aM (Kd.N_lower (Kd.N_mono (ok' := fun k_ => (w.heap.size ≤ k_) ∧ some k_ ≠ v556.ownBlock ∧ some k_ ≠ v559.ownBlock ∧ k_ ≠ gb550 ∧ k_ ≠ g) ho0 (fun k_ hk_ => ⟨(Nat.le_trans (keep_size (w := w) (g := g) (row := none) (by exact jK HK.out)) hk_.1), hk_.2.1, hk_.2.2, (Kd.freshB (g := gb550) (o := .cells #[.int .i64 0, .slice none 0 0, .slice none 0 0, .slice none 0 0] 26 (0, 0)) (by exact lK BK550.out) k_ hk_.1), (IsS69.fresh (by exact IsS69.j HI0.out) k_ hk_.1)⟩)) (keep_size (w := w) (g := g) (row := none) (by exact jK HK.out))); replace BK550 := aM (kb hk BK550.out NB550_0.out); have HO557 := aM (Kd.R_lower (Kd.R_newM (M := fun k_ => (w.heap.size ≤ k_)) (Kd.R_mono (ok' := fun k_ => some k_ ≠ v559.ownBlock) ho1 (fun _ hk_ => hk_.2)) (keep_size (w := w) (g := g) (row := none) (by exact jK HK.out)) (fun k_ h_ => h_)) (keep_size (w := w) (g := g) (row := none) (by exact jK HK.out))); have HO560 := aM (Kd.R_lower (Kd.R_newM (M := fun k_ => (w.heap.size ≤ k_)) (Kd.R_mono (ok' := fun k_ => some k_ ≠ v556.ownBlock) ho2 (fun _ hk_ => hk_.2)) (keep_size (w := w) (g := g) (row := none) (by exact jK HK.out)) (fun k_ h_ => h_)) (keep_size (w := w) (g := g) (row := none) (by exact jK HK.out))); replace HK := aM (kt HK.out hk); replace HB := aM (hb); replace HI0 := aM (hi); (try clear hb hk hi); (try clear ho0); (try clear ho1); (try clear ho2)) | ((with_reducible refine gate_dst (N := 5) rfl ?_); refine bx 5 #[.int .i64 0, .slice none 0 0, .slice none 0 0, .slice none 0 0] 26 ?_; intro gb562 hg w26 hbox hb; replace HO554 := aM (Kd.N_below (Kd.N_elderB (by exact lN <| HO554.out) gb562 (Nat.le_of_eq hg.symm)) hb); replace HO557 := aM (rb HO557.out hb); replace HO560 := aM (rb HO560.out hb); replace HB := aM (bj HB.out hb); have BK562 := aM (hbox); have GW562 := aM ((gk hg HK.out)); have IGW562 : Nonempty _ := ⟨GW562.out⟩; have GE562 := aM ((Nat.le_trans HW0.out (gk hg HK.out) : w0.heap.size ≤ gb562)); have IGE562 : Nonempty _ := ⟨GE562.out⟩; replace HK := aM (kbl HK.out hb); have NB550_562 := aM ((neL hg (lK BK550.out) : gb550 ≠ gb562)); have NB562_550 := aM ((neG hg (lK BK550.out) : gb562 ≠ gb550)); replace BK550 := aM (bb BK550.out hb); have NB0_562 := aM ((by rw [hg]; exact Nat.ne_of_lt (IsS69.lt (show IsS69 w0 _ g s0_0 t561 from by exact IsS69.j HI0.out)) : g ≠ gb562)); have INB0_562 : Nonempty _ := ⟨NB0_562.out⟩; have NB562_0 := aM ((by rw [hg]; exact Nat.ne_of_gt (IsS69.lt (show IsS69 w0 _ g s0_0 t561 from by exact IsS69.j HI0.out)) : gb562 ≠ g)); replace HI0 := aM (IsS69.below (by exact IsS69.j HI0.out) hb); clear hb hbox hg; have hnb27 := NB562_550.out; have hnc27 := NB550_562.out; have hnb28 := NB562_0.out; have hnc28 := NB0_562.out; have hcz29_0 : w26.cell? ⟨gb562, 0, none⟩ = some (.int .i64 0) := (blk_cell BK562.out 0).trans rfl; have hcz29_1 : w26.cell? ⟨gb562, 1, none⟩ = some (.slice none 0 0) := (blk_cell BK562.out 1).trans rfl; have hcz29_2 : w26.cell? ⟨gb562, 2, none⟩ = some (.slice none 0 0) := (blk_cell BK562.out 2).trans rfl; have hcz29_3 : w26.cell? ⟨gb562, 3, none⟩ = some (.slice none 0 0) := (blk_cell BK562.out 3).trans rfl; have hfz29_0 := blk_frozen BK562.out 0; have hfz29_1 := blk_frozen BK562.out 1; have hfz29_2 := blk_frozen BK562.out 2; have hfz29_3 := blk_frozen BK562.out 3; obtain ⟨Ao30, co30, eo30⟩ := Kd.N_slice HO554.out; subst eo30; obtain ⟨Ao31, co31, eo31⟩ := Kd.R_slice HO557.out; subst eo31; obtain ⟨Ao32, co32, eo32⟩ := Kd.R_slice HO560.out; subst eo32) | ((with_reducible refine gate_callee (f := 20) rfl ?_); refine gL (some 10) Try.func20 #[.pointer (some ⟨g, 0, none⟩), .int .i64 a1] ?_; (with_reducible refine (spec_l20Rd_pick.calls k g s0_0 t561 a1 t563 t564 w0 _ ?side1 ?side2 A4.out).mono ?_); (case side1 => exact IsS69.j HI0.out); (case side2 => exact jB HB.out); rintro e w33 ⟨rfl, hi, hb, hk⟩; refine ⟨_, rfl, ?_⟩; replace BK550 := aM (KeepBut.blk hk (g' := gb550) (o := .cells #[.int .i64 0, .slice none 0 0, .slice none 0 0, .slice none 0 0] 26 (0, 0)) (by exact f4 (lK BK550.out) NB550_562.out) NB550_0.out (by simp)); replace HO554 := aM (Kd.N_mono (Kd.N_keep (Kd.N_mono (ok := fun k_ => ((((w.heap.size ≤ k_)) ∧ (some k_ ≠ ownBlock (.slice Ao31 t555.length co31) ∧ (some k_ ≠ ownBlock (.slice Ao32 t558.length co32) ∧ (k_ ≠ gb550 ∧ k_ ≠ g)))) ∧ k_ ≠ gb562)) (by exact lN <| (Kd.N_mono (Kd.N_far (p := ⟨gb562, 3, none⟩) (Kd.N_far (p := ⟨gb562, 2, none⟩) (Kd.N_far (p := ⟨gb562, 1, none⟩) (Kd.N_far (p := ⟨gb562, 0, none⟩) (Kd.N_mono HO554.out (fun k_ hk => (⟨hk, hk.2⟩ : _ ∧ k_ ≠ gb562))) (fun _ hk => hk.2) (.int .i64 t551)) (fun _ hk => hk.2) (.slice Ao30 t552.length co30)) (fun _ hk => hk.2) (.slice Ao31 t555.length co31)) (fun _ hk => hk.2) (.slice Ao32 t558.length co32)) (fun _ h_ => h_.1))) (fun k_ hk_ => (⟨hk_, hk_.1.2.2.2.2⟩ : _ ∧ k_ ≠ g))) hk (fun _ h => h.2)) (fun _ h => h.1)); replace HO557 := aM (Kd.R_mono (Kd.R_keep (IsS69.apart (show IsS69 w0 _ g s0_0 t561 from by exact IsS69.j HI0.out) (qp (R4 HO557.out BK562.out)) (by decide)) hk (fun _ h => h.2)) (fun _ h => h.1)); replace HO560 := aM (Kd.R_mono (Kd.R_keep (IsS69.apart (show IsS69 w0 _ g s0_0 t561 from by exact IsS69.j HI0.out) (qp (R4 HO560.out BK562.out)) (by decide)) hk (fun _ h => h.2)) (fun _ h => h.1)); replace BK562 := aM (KeepBut.blk hk (g' := gb562) (o := .cells #[.int .i64 t551, .slice Ao30 t552.length co30, .slice Ao31 t555.length co31, .slice Ao32 t558.length co32] 26 (0, 0)) (by exact p4 (lK BK562.out)) NB562_0.out (by simp)); replace HK := aM (kt HK.out hk); replace HB := aM (hb); replace HI0 := aM (hi); (try clear hb hk hi)) | ((with_reducible refine gate_callee (f := 20) rfl ?_); refine gL (some 14) Try.func20 #[.pointer (some ⟨g, 0, none⟩), .int .i64 5] ?_; (with_reducible refine (spec_l20Rd_pick.calls k g s0_0 t564 5 t565 t566 w0 _ ?side1 ?side2 A19.out).mono ?_); (case side1 => exact IsS69.j HI0.out); (case side2 => exact jB HB.out); rintro e w34 ⟨rfl, hi, hb, hk⟩; refine ⟨_, rfl, ?_⟩; replace BK550 := aM (kb hk BK550.out NB550_0.out); replace HO554 := aM (Kd.N_mono (Kd.N_keep (Kd.N_mono (ok := fun k_ => ((((w.heap.size ≤ k_)) ∧ (some k_ ≠ ownBlock (.slice Ao31 t555.length co31) ∧ (some k_ ≠ ownBlock (.slice Ao32 t558.length co32) ∧ (k_ ≠ gb550 ∧ k_ ≠ g)))) ∧ k_ ≠ gb562)) (by exact lN <| HO554.out) (fun k_ hk_ => (⟨hk_, hk_.1.2.2.2.2⟩ : _ ∧ k_ ≠ g))) hk (fun _ h => h.2)) (fun _ h => h.1)); replace HO557 := aM (IsS69.kp (f1 := t564) (by exact IsS69.j HI0.out) (lR HO557.out) hk); replace HO560 := aM (IsS69.kp (f1 := t564) (by exact IsS69.j HI0.out) (lR HO560.out) hk); replace BK562 := aM (kb hk BK562.out NB562_0.out); replace HK := aM (kt HK.out hk); replace HB := aM (hb); replace HI0 := aM (hi); (try clear hb hk hi)) | ((with_reducible refine gate_dst (N := 21) rfl ?_); refine Kd.R_lit (Kd.int .i64) _ 3 ?hg (N := 21) ?hd (xs := ([0, 5, (-1)] : List Int)) (inner := [.int .i64 0, .int .i64 5, .int .i64 (-1)]) (ok := fun _ => True) (okp := fun _ => True) ?hr ?hp (fun _ hk => hk) trivial (Below.refl _ _) (Nat.le_refl _) (by simp) ?_; (case hd => rfl); (case hg => rfl); (case hr => first | (go_simp; done) | (go_simp; rfl)); (case hp => exact (Reps.one (show Kd.M (Kd.int .i64) _ _ _ 0 [.int .i64 0] from rfl) (Reps.one (show Kd.M (Kd.int .i64) _ _ _ 5 [.int .i64 5] from rfl) (Reps.one (show Kd.M (Kd.int .i64) _ _ _ (-1) [.int .i64 (-1)] from rfl) (Reps.none _ _))))); intro v568 w35 ho36 hb hg_ hnew_; clear hg_ hnew_; (first | rw [← Ny567.out] at ho36 | (simp only [Int.reduceToNat] at ho36; rw [← Ny567.out] at ho36)); replace HO554 := aM (Kd.N_elder' (by exact lN <| HO554.out) (Kd.R_base ho36) hb); have HO569 := aM (Kd.R_lower (Kd.R_new' (Kd.R_new' (Kd.R_newM (M := fun k_ => (w.heap.size ≤ k_)) ho36 (keep_size (w := w) (g := g) (row := none) (by exact jK HK.out)) (fun k_ h_ => h_)) (rl HO557.out)) (rl HO560.out)) (keep_size (w := w) (g := g) (row := none) (by exact jK HK.out))); replace HO557 := aM (Kd.R_elder' (by exact lR HO557.out) (Kd.R_base ho36) hb); replace HO560 := aM (Kd.R_elder' (by exact lR HO560.out) (Kd.R_base ho36) hb); replace HI0 := aM (IsS69.below (by exact IsS69.j HI0.out) hb); replace BK550 := aM (bb BK550.out hb); replace BK562 := aM (bb BK562.out hb); replace HK := aM (kbl HK.out hb); replace HB := aM (bj HB.out hb); clear hb ho36) | ((with_reducible refine gate_callee (f := 20) rfl ?_); refine gL (some 23) Try.func20 #[.pointer (some ⟨g, 0, none⟩), .int .i64 3] ?_; (with_reducible refine (spec_l20Rd_pick.calls k g s0_0 t566 3 t570 t571 w0 _ ?side1 ?side2 A21.out).mono ?_); (case side1 => exact IsS69.j HI0.out); (case side2 => exact jB HB.out); rintro e w37 ⟨rfl, hi, hb, hk⟩; refine ⟨_, rfl, ?_⟩; replace BK550 := aM (kb hk BK550.out NB550_0.out); replace HO554 := aM (Kd.N_mono (Kd.N_keep (Kd.N_mono (ok := fun k_ => (((((w.heap.size ≤ k_)) ∧ (some k_ ≠ ownBlock (.slice Ao31 t555.length co31) ∧ (some k_ ≠ ownBlock (.slice Ao32 t558.length co32) ∧ (k_ ≠ gb550 ∧ k_ ≠ g)))) ∧ k_ ≠ gb562) ∧ some k_ ≠ v568.ownBlock)) (by exact lN <| HO554.out) (fun k_ hk_ => (⟨hk_, hk_.1.1.2.2.2.2⟩ : _ ∧ k_ ≠ g))) hk (fun _ h => h.2)) (fun _ h => h.1)); replace HO557 := aM (IsS69.kp (f1 := t566) (by exact IsS69.j HI0.out) (lR HO557.out) hk); replace HO560 := aM (IsS69.kp (f1 := t566) (by exact IsS69.j HI0.out) (lR HO560.out) hk); replace BK562 := aM (kb hk BK562.out NB562_0.out); replace HO569 := aM (IsS69.kp (f1 := t566) (by exact IsS69.j HI0.out) (lR HO569.out) hk); replace HK := aM (kt HK.out hk); replace HB := aM (hb); replace HI0 := aM (hi); (try clear hb hk hi); obtain ⟨Ao38, co38, eo38⟩ := Kd.R_slice HO569.out; subst eo38; have p572 : 0 ≤ (t570 : Int) := of_decide_eq_true (by first | (with_reducible assumption) | assumption); have q572 : t570 < (y567.length : Int) := of_decide_eq_true (by first | (with_reducible assumption) | assumption); obtain ⟨ad572, e572, hx572_0⟩ := Kd.at_int (Kd.R_reads' HO569.out).2.2 t570 p572 q572; cases e572; replace p572 := eq_true p572; replace q572 := eq_true q572; have hcz39_0 : w37.cell? ⟨gb562, 0, none⟩ = some (.int .i64 t551) := (blk_cell BK562.out 0).trans rfl; have hcz39_1 : w37.cell? ⟨gb562, 1, none⟩ = some (.slice Ao30 t552.length co30) := (blk_cell BK562.out 1).trans rfl; have hcz39_2 : w37.cell? ⟨gb562, 2, none⟩ = some (.slice Ao31 t555.length co31) := (blk_cell BK562.out 2).trans rfl; have hcz39_3 : w37.cell? ⟨gb562, 3, none⟩ = some (.slice Ao32 t558.length co32) := (blk_cell BK562.out 3).trans rfl; have hfz39_0 := blk_frozen BK562.out 0; have hfz39_1 := blk_frozen BK562.out 1; have hfz39_2 := blk_frozen BK562.out 2; have hfz39_3 := blk_frozen BK562.out 3; have hnb40 := NB550_0.out; have hnc40 := NB0_550.out; have hcz41_0 : w37.cell? ⟨gb550, 0, none⟩ = some (.int .i64 0) := (blk_cell BK550.out 0).trans rfl; have hcz41_1 : w37.cell? ⟨gb550, 1, none⟩ = some (.slice none 0 0) := (blk_cell BK550.out 1).trans rfl; have hcz41_2 : w37.cell? ⟨gb550, 2, none⟩ = some (.slice none 0 0) := (blk_cell BK550.out 2).trans rfl; have hcz41_3 : w37.cell? ⟨gb550, 3, none⟩ = some (.slice none 0 0) := (blk_cell BK550.out 3).trans rfl; have hfz41_0 := blk_frozen BK550.out 0; have hfz41_1 := blk_frozen BK550.out 1; have hfz41_2 := blk_frozen BK550.out 2; have hfz41_3 := blk_frozen BK550.out 3))
     refine bodyPost_ret (results_cell_row rfl _ _ gb550 26 #[.int .i64 (rd y567 t570), .slice Ao30 t552.length co30, .slice Ao31 t555.length co31, .slice Ao32 t558.length co32] (0, 0) _ rfl (by (with_reducible repeat first | refine kN ?_ _ | refine kD ?_ | refine kA ?_ _); refine blk_put (cs := #[.int .i64 (rd y567 t570), .slice Ao30 t552.length co30, .slice Ao31 t555.length co31, .slice none 0 0]) ?_ 3 _ rfl; (with_reducible repeat first | refine kN ?_ _ | refine kD ?_ | refine kA ?_ _); refine blk_put (cs := #[.int .i64 (rd y567 t570), .slice Ao30 t552.length co30, .slice none 0 0, .slice none 0 0]) ?_ 2 _ rfl; (with_reducible repeat first | refine kN ?_ _ | refine kD ?_ | refine kA ?_ _); refine blk_put (cs := #[.int .i64 (rd y567 t570), .slice none 0 0, .slice none 0 0, .slice none 0 0]) ?_ 1 _ rfl; (with_reducible repeat first | refine kN ?_ _ | refine kD ?_ | refine kA ?_ _); refine blk_put (cs := #[.int .i64 0, .slice none 0 0, .slice none 0 0, .slice none 0 0]) ?_ 0 _ rfl; (with_reducible repeat first | refine kN ?_ _ | refine kD ?_ | refine kA ?_ _); refine blk_far ?_ NB550_562.out _; exact lK BK550.out) Try.underlying26 rfl (by kernel_rfl)) rfl ?_
     exact ⟨_, _, _, er, by exact lN <| Kd.N_mono (Kd.N_far (p := ⟨gb550, 3, none⟩) (Kd.N_far (p := ⟨gb550, 2, none⟩) (Kd.N_far (p := ⟨gb550, 1, none⟩) (Kd.N_far (p := ⟨gb550, 0, none⟩) (Kd.N_far (p := ⟨gb562, 0, none⟩) (Kd.N_mono (Kd.N_mono HO554.out (fun k_ hk => (⟨hk, hk.1.2⟩ : _ ∧ k_ ≠ gb562))) (fun k_ hk => (⟨hk, hk.1.1.1.2.2.2.1⟩ : _ ∧ k_ ≠ gb550))) (fun _ hk => by first | exact hk.1.2 | exact fun e_ => hk.1.2 (e_.trans (ob _ _ _ _))) (.int .i64 (rd y567 t570))) (fun _ hk => by first | exact hk.2 | exact fun e_ => hk.2 (e_.trans (ob _ _ _ _))) (.int .i64 (rd y567 t570))) (fun _ hk => by first | exact hk.2 | exact fun e_ => hk.2 (e_.trans (ob _ _ _ _))) (.slice Ao30 t552.length co30)) (fun _ hk => by first | exact hk.2 | exact fun e_ => hk.2 (e_.trans (ob _ _ _ _))) (.slice Ao31 t555.length co31)) (fun _ hk => by first | exact hk.2 | exact fun e_ => hk.2 (e_.trans (ob _ _ _ _))) (.slice Ao32 t558.length co32)) (fun _ hk => ⟨(by first | exact hk.1.1.1.1.1 | exact fun e_ => hk.1.1.1.1.1 (e_.trans (ob _ _ _ _))), ⟨(by first | exact hk.1.1.1.1.2.1 | exact fun e_ => hk.1.1.1.1.2.1 (e_.trans (ob _ _ _ _))), (by first | exact hk.1.1.1.1.2.2.1 | exact fun e_ => hk.1.1.1.1.2.2.1 (e_.trans (ob _ _ _ _)))⟩⟩), by exact lR <| Kd.R_mono (Kd.R_far (p := ⟨gb550, 3, none⟩) (Kd.R_far (p := ⟨gb550, 2, none⟩) (Kd.R_far (p := ⟨gb550, 1, none⟩) (Kd.R_far (p := ⟨gb550, 0, none⟩) (Kd.R_far (p := ⟨gb562, 0, none⟩) (Kd.R_types (Kd.R_types HO557.out BK562.out (by decide)) BK550.out (by decide)) (fun _ hk => by first | exact hk.1.2 | exact fun e_ => hk.1.2 (e_.trans (ob _ _ _ _))) (.int .i64 (rd y567 t570))) (fun _ hk => by first | exact hk.2 | exact fun e_ => hk.2 (e_.trans (ob _ _ _ _))) (.int .i64 (rd y567 t570))) (fun _ hk => by first | exact hk.2 | exact fun e_ => hk.2 (e_.trans (ob _ _ _ _))) (.slice Ao30 t552.length co30)) (fun _ hk => by first | exact hk.2 | exact fun e_ => hk.2 (e_.trans (ob _ _ _ _))) (.slice Ao31 t555.length co31)) (fun _ hk => by first | exact hk.2 | exact fun e_ => hk.2 (e_.trans (ob _ _ _ _))) (.slice Ao32 t558.length co32)) (fun _ hk => ⟨(by first | exact hk.1.1.1.1 | exact fun e_ => hk.1.1.1.1 (e_.trans (ob _ _ _ _))), (by first | exact hk.1.1.1.2 | exact fun e_ => hk.1.1.1.2 (e_.trans (ob _ _ _ _)))⟩), by exact lR <| Kd.R_mono (Kd.R_far (p := ⟨gb550, 3, none⟩) (Kd.R_far (p := ⟨gb550, 2, none⟩) (Kd.R_far (p := ⟨gb550, 1, none⟩) (Kd.R_far (p := ⟨gb550, 0, none⟩) (Kd.R_far (p := ⟨gb562, 0, none⟩) (Kd.R_types (Kd.R_types HO560.out BK562.out (by decide)) BK550.out (by decide)) (fun _ hk => by first | exact hk.1.2 | exact fun e_ => hk.1.2 (e_.trans (ob _ _ _ _))) (.int .i64 (rd y567 t570))) (fun _ hk => by first | exact hk.2 | exact fun e_ => hk.2 (e_.trans (ob _ _ _ _))) (.int .i64 (rd y567 t570))) (fun _ hk => by first | exact hk.2 | exact fun e_ => hk.2 (e_.trans (ob _ _ _ _))) (.slice Ao30 t552.length co30)) (fun _ hk => by first | exact hk.2 | exact fun e_ => hk.2 (e_.trans (ob _ _ _ _))) (.slice Ao31 t555.length co31)) (fun _ hk => by first | exact hk.2 | exact fun e_ => hk.2 (e_.trans (ob _ _ _ _))) (.slice Ao32 t558.length co32)) (fun _ hk => ⟨(by first | exact hk.1.1.1.1 | exact fun e_ => hk.1.1.1.1 (e_.trans (ob _ _ _ _))), (by first | exact hk.1.1.1.2 | exact fun e_ => hk.1.1.1.2 (e_.trans (ob _ _ _ _)))⟩), by exact IsS69.j HI0.out, by exact jB HB.out, by exact jK HK.out⟩
    ·rw [if_neg c23] at H
     exact absurd H (by simp)
   ·rw [if_neg c22] at H
    exact absurd H (by simp)
  ·rw [if_neg c20] at H
   have c20b0 := beq_eq_false_iff_ne.mpr c20
   have c20b1 := bne_iff_ne.mpr c20
   by_cases c42 : t565 = 1
   ·rw [if_pos c42] at H
    have c42b0 := beq_iff_eq.mpr c42
    have c42b1 := bne_eq_false_iff_eq.mpr c42
    clear c42
    obtain ⟨⟨t573, t576⟩, A43, H⟩ := bS H
    try dsimp only at H
    simp only [Option.some.injEq, Prod.mk.injEq] at H
    obtain ⟨rfl, rfl, rfl, rfl, rfl⟩ := H
    go_enter Try.func19, Try.ntmps19
    go_wp2_with (first | ((with_reducible refine gate_dst (N := 4) rfl ?_); refine bx 4 #[.int .i64 0, .slice none 0 0, .slice none 0 0, .slice none 0 0] 26 ?_; intro gb550 hg w44 hbox hb; replace HB := aM (bj HB.out hb); have BK550 := aM (hbox); have GW550 := aM ((gk hg HK.out)); have IGW550 : Nonempty _ := ⟨GW550.out⟩; have GE550 := aM ((Nat.le_trans HW0.out (gk hg HK.out) : w0.heap.size ≤ gb550)); have IGE550 : Nonempty _ := ⟨GE550.out⟩; replace HK := aM (kbl HK.out hb); have NB0_550 := aM ((by rw [hg]; exact Nat.ne_of_lt (IsS69.lt (show IsS69 w0 _ g s0_0 s0_1 from by exact IsS69.j HI0.out)) : g ≠ gb550)); have INB0_550 : Nonempty _ := ⟨NB0_550.out⟩; have NB550_0 := aM ((by rw [hg]; exact Nat.ne_of_gt (IsS69.lt (show IsS69 w0 _ g s0_0 s0_1 from by exact IsS69.j HI0.out)) : gb550 ≠ g)); replace HI0 := aM (IsS69.below (by exact IsS69.j HI0.out) hb); clear hb hbox hg) | ((with_reducible refine gate_callee (f := 46) rfl ?_); refine gL (some 7) Try.func46 #[.pointer (some ⟨g, 0, none⟩)] ?_; (with_reducible refine (spec_l21Plan.calls k g s0_0 s0_1 t551 t552 t555 t558 t561 w0 _ ?side1 ?side2 A3.out).mono ?_); (case side1 => exact IsS69.j HI0.out); (case side2 => exact jB HB.out); rintro e w45 ⟨v553, v556, v559, rfl, ho0, ho1, ho2, hi, hb, hk⟩; refine ⟨_, rfl, ?_⟩; have HO554 := aM (Kd.N_lower (Kd.N_mono (ok' := fun k_ => (w.heap.size ≤ k_) ∧ some k_ ≠ v556.ownBlock ∧ some k_ ≠ v559.ownBlock ∧ k_ ≠ gb550 ∧ k_ ≠ g) ho0 (fun k_ hk_ => ⟨(Nat.le_trans (keep_size (w := w) (g := g) (row := none) (by exact jK HK.out)) hk_.1), hk_.2.1, hk_.2.2, (Kd.freshB (g := gb550) (o := .cells #[.int .i64 0, .slice none 0 0, .slice none 0 0, .slice none 0 0] 26 (0, 0)) (by exact lK BK550.out) k_ hk_.1), (IsS69.fresh (by exact IsS69.j HI0.out) k_ hk_.1)⟩)) (keep_size (w := w) (g := g) (row := none) (by exact jK HK.out))); replace BK550 := aM (kb hk BK550.out NB550_0.out); have HO557 := aM (Kd.R_lower (Kd.R_newM (M := fun k_ => (w.heap.size ≤ k_)) (Kd.R_mono (ok' := fun k_ => some k_ ≠ v559.ownBlock) ho1 (fun _ hk_ => hk_.2)) (keep_size (w := w) (g := g) (row := none) (by exact jK HK.out)) (fun k_ h_ => h_)) (keep_size (w := w) (g := g) (row := none) (by exact jK HK.out))); have HO560 := aM (Kd.R_lower (Kd.R_newM (M := fun k_ => (w.heap.size ≤ k_)) (Kd.R_mono (ok' := fun k_ => some k_ ≠ v556.ownBlock) ho2 (fun _ hk_ => hk_.2)) (keep_size (w := w) (g := g) (row := none) (by exact jK HK.out)) (fun k_ h_ => h_)) (keep_size (w := w) (g := g) (row := none) (by exact jK HK.out))); replace HK := aM (kt HK.out hk); replace HB := aM (hb); replace HI0 := aM (hi); (try clear hb hk hi); (try clear ho0); (try clear ho1); (try clear ho2)) | ((with_reducible refine gate_dst (N := 5) rfl ?_); refine bx 5 #[.int .i64 0, .slice none 0 0, .slice none 0 0, .slice none 0 0] 26 ?_; intro gb562 hg w46 hbox hb; replace HO554 := aM (Kd.N_below (Kd.N_elderB (by exact lN <| HO554.out) gb562 (Nat.le_of_eq hg.symm)) hb); replace HO557 := aM (rb HO557.out hb); replace HO560 := aM (rb HO560.out hb); replace HB := aM (bj HB.out hb); have BK562 := aM (hbox); have GW562 := aM ((gk hg HK.out)); have IGW562 : Nonempty _ := ⟨GW562.out⟩; have GE562 := aM ((Nat.le_trans HW0.out (gk hg HK.out) : w0.heap.size ≤ gb562)); have IGE562 : Nonempty _ := ⟨GE562.out⟩; replace HK := aM (kbl HK.out hb); have NB550_562 := aM ((neL hg (lK BK550.out) : gb550 ≠ gb562)); have NB562_550 := aM ((neG hg (lK BK550.out) : gb562 ≠ gb550)); replace BK550 := aM (bb BK550.out hb); have NB0_562 := aM ((by rw [hg]; exact Nat.ne_of_lt (IsS69.lt (show IsS69 w0 _ g s0_0 t561 from by exact IsS69.j HI0.out)) : g ≠ gb562)); have INB0_562 : Nonempty _ := ⟨NB0_562.out⟩; have NB562_0 := aM ((by rw [hg]; exact Nat.ne_of_gt (IsS69.lt (show IsS69 w0 _ g s0_0 t561 from by exact IsS69.j HI0.out)) : gb562 ≠ g)); replace HI0 := aM (IsS69.below (by exact IsS69.j HI0.out) hb); clear hb hbox hg; have hnb47 := NB562_550.out; have hnc47 := NB550_562.out; have hnb48 := NB562_0.out; have hnc48 := NB0_562.out; have hcz49_0 : w46.cell? ⟨gb562, 0, none⟩ = some (.int .i64 0) := (blk_cell BK562.out 0).trans rfl; have hcz49_1 : w46.cell? ⟨gb562, 1, none⟩ = some (.slice none 0 0) := (blk_cell BK562.out 1).trans rfl; have hcz49_2 : w46.cell? ⟨gb562, 2, none⟩ = some (.slice none 0 0) := (blk_cell BK562.out 2).trans rfl; have hcz49_3 : w46.cell? ⟨gb562, 3, none⟩ = some (.slice none 0 0) := (blk_cell BK562.out 3).trans rfl; have hfz49_0 := blk_frozen BK562.out 0; have hfz49_1 := blk_frozen BK562.out 1; have hfz49_2 := blk_frozen BK562.out 2; have hfz49_3 := blk_frozen BK562.out 3; obtain ⟨Ao50, co50, eo50⟩ := Kd.N_slice HO554.out; subst eo50; obtain ⟨Ao51, co51, eo51⟩ := Kd.R_slice HO557.out; subst eo51; obtain ⟨Ao52, co52, eo52⟩ := Kd.R_slice HO560.out; subst eo52) | ((with_reducible refine gate_callee (f := 20) rfl ?_); refine gL (some 10) Try.func20 #[.pointer (some ⟨g, 0, none⟩), .int .i64 a1] ?_; (with_reducible refine (spec_l20Rd_pick.calls k g s0_0 t561 a1 t563 t564 w0 _ ?side1 ?side2 A4.out).mono ?_); (case side1 => exact IsS69.j HI0.out); (case side2 => exact jB HB.out); rintro e w53 ⟨rfl, hi, hb, hk⟩; refine ⟨_, rfl, ?_⟩; replace BK550 := aM (KeepBut.blk hk (g' := gb550) (o := .cells #[.int .i64 0, .slice none 0 0, .slice none 0 0, .slice none 0 0] 26 (0, 0)) (by exact f4 (lK BK550.out) NB550_562.out) NB550_0.out (by simp)); replace HO554 := aM (Kd.N_mono (Kd.N_keep (Kd.N_mono (ok := fun k_ => ((((w.heap.size ≤ k_)) ∧ (some k_ ≠ ownBlock (.slice Ao51 t555.length co51) ∧ (some k_ ≠ ownBlock (.slice Ao52 t558.length co52) ∧ (k_ ≠ gb550 ∧ k_ ≠ g)))) ∧ k_ ≠ gb562)) (by exact lN <| (Kd.N_mono (Kd.N_far (p := ⟨gb562, 3, none⟩) (Kd.N_far (p := ⟨gb562, 2, none⟩) (Kd.N_far (p := ⟨gb562, 1, none⟩) (Kd.N_far (p := ⟨gb562, 0, none⟩) (Kd.N_mono HO554.out (fun k_ hk => (⟨hk, hk.2⟩ : _ ∧ k_ ≠ gb562))) (fun _ hk => hk.2) (.int .i64 t551)) (fun _ hk => hk.2) (.slice Ao50 t552.length co50)) (fun _ hk => hk.2) (.slice Ao51 t555.length co51)) (fun _ hk => hk.2) (.slice Ao52 t558.length co52)) (fun _ h_ => h_.1))) (fun k_ hk_ => (⟨hk_, hk_.1.2.2.2.2⟩ : _ ∧ k_ ≠ g))) hk (fun _ h => h.2)) (fun _ h => h.1)); replace HO557 := aM (Kd.R_mono (Kd.R_keep (IsS69.apart (show IsS69 w0 _ g s0_0 t561 from by exact IsS69.j HI0.out) (qp (R4 HO557.out BK562.out)) (by decide)) hk (fun _ h => h.2)) (fun _ h => h.1)); replace HO560 := aM (Kd.R_mono (Kd.R_keep (IsS69.apart (show IsS69 w0 _ g s0_0 t561 from by exact IsS69.j HI0.out) (qp (R4 HO560.out BK562.out)) (by decide)) hk (fun _ h => h.2)) (fun _ h => h.1)); replace BK562 := aM (KeepBut.blk hk (g' := gb562) (o := .cells #[.int .i64 t551, .slice Ao50 t552.length co50, .slice Ao51 t555.length co51, .slice Ao52 t558.length co52] 26 (0, 0)) (by exact p4 (lK BK562.out)) NB562_0.out (by simp)); replace HK := aM (kt HK.out hk); replace HB := aM (hb); replace HI0 := aM (hi); (try clear hb hk hi)) | ((with_reducible refine gate_callee (f := 20) rfl ?_); refine gL (some 14) Try.func20 #[.pointer (some ⟨g, 0, none⟩), .int .i64 5] ?_; (with_reducible refine (spec_l20Rd_pick.calls k g s0_0 t564 5 t565 t566 w0 _ ?side1 ?side2 A19.out).mono ?_); (case side1 => exact IsS69.j HI0.out); (case side2 => exact jB HB.out); rintro e w54 ⟨rfl, hi, hb, hk⟩; refine ⟨_, rfl, ?_⟩; replace BK550 := aM (kb hk BK550.out NB550_0.out); replace HO554 := aM (Kd.N_mono (Kd.N_keep (Kd.N_mono (ok := fun k_ => ((((w.heap.size ≤ k_)) ∧ (some k_ ≠ ownBlock (.slice Ao51 t555.length co51) ∧ (some k_ ≠ ownBlock (.slice Ao52 t558.length co52) ∧ (k_ ≠ gb550 ∧ k_ ≠ g)))) ∧ k_ ≠ gb562)) (by exact lN <| HO554.out) (fun k_ hk_ => (⟨hk_, hk_.1.2.2.2.2⟩ : _ ∧ k_ ≠ g))) hk (fun _ h => h.2)) (fun _ h => h.1)); replace HO557 := aM (IsS69.kp (f1 := t564) (by exact IsS69.j HI0.out) (lR HO557.out) hk); replace HO560 := aM (IsS69.kp (f1 := t564) (by exact IsS69.j HI0.out) (lR HO560.out) hk); replace BK562 := aM (kb hk BK562.out NB562_0.out); replace HK := aM (kt HK.out hk); replace HB := aM (hb); replace HI0 := aM (hi); (try clear hb hk hi)) | ((with_reducible refine gate_callee (f := 47) rfl ?_); refine gL (some 30) Try.func47 #[.pointer (some ⟨g, 0, none⟩), .int .i64 1] ?_; (with_reducible refine (spec_l20AnyActs.calls k g s0_0 t566 1 t573 t576 w0 _ ?side1 ?side2 A43.out).mono ?_); (case side1 => exact IsS69.j HI0.out); (case side2 => exact jB HB.out); rintro e w55 ⟨v574, rfl, ho0, hi, hb, hk⟩; refine ⟨_, rfl, ?_⟩; have HO575 := aM (Kd.N_lower (Kd.N_mono (ok' := fun k_ => (w.heap.size ≤ k_) ∧ some k_ ≠ ownBlock (.slice Ao50 t552.length co50) ∧ some k_ ≠ ownBlock (.slice Ao51 t555.length co51) ∧ some k_ ≠ ownBlock (.slice Ao52 t558.length co52) ∧ k_ ≠ gb550 ∧ k_ ≠ gb562 ∧ k_ ≠ g) ho0 (fun k_ hk_ => ⟨(Nat.le_trans (keep_size (w := w) (g := g) (row := none) (by exact jK HK.out)) hk_), (Kd.fresh' (Kd.N_lt (by exact lN <| HO554.out)) k_ hk_), (Kd.fresh' (rl HO557.out) k_ hk_), (Kd.fresh' (rl HO560.out) k_ hk_), (Kd.freshB (g := gb550) (o := .cells #[.int .i64 0, .slice none 0 0, .slice none 0 0, .slice none 0 0] 26 (0, 0)) (by exact lK BK550.out) k_ hk_), (Kd.freshB (g := gb562) (o := .cells #[.int .i64 t551, .slice Ao50 t552.length co50, .slice Ao51 t555.length co51, .slice Ao52 t558.length co52] 26 (0, 0)) (by exact lK BK562.out) k_ hk_), (IsS69.fresh (by exact IsS69.j HI0.out) k_ hk_)⟩)) (keep_size (w := w) (g := g) (row := none) (by exact jK HK.out))); replace BK550 := aM (kb hk BK550.out NB550_0.out); replace HO554 := aM (Kd.N_mono (Kd.N_told (Kd.N_oldK (Kd.N_mono (ok := fun k_ => ((((w.heap.size ≤ k_)) ∧ (some k_ ≠ ownBlock (.slice Ao51 t555.length co51) ∧ (some k_ ≠ ownBlock (.slice Ao52 t558.length co52) ∧ (k_ ≠ gb550 ∧ k_ ≠ g)))) ∧ k_ ≠ gb562)) (by exact lN <| HO554.out) (fun k_ hk_ => (⟨hk_, hk_.1.2.2.2.2⟩ : _ ∧ k_ ≠ g))) hk) (Kd.N_base ho0)) (fun _ h_ => h_.1)); replace HO557 := aM (IsS69.kp (f1 := t566) (by exact IsS69.j HI0.out) (lR HO557.out) hk); replace HO560 := aM (IsS69.kp (f1 := t566) (by exact IsS69.j HI0.out) (lR HO560.out) hk); replace BK562 := aM (kb hk BK562.out NB562_0.out); replace HK := aM (kt HK.out hk); replace HB := aM (hb); replace HI0 := aM (hi); (try clear hb hk hi); (try clear ho0); obtain ⟨Ao56, co56, eo56⟩ := Kd.N_slice HO575.out; subst eo56; have hcz57_0 : w55.cell? ⟨gb562, 0, none⟩ = some (.int .i64 t551) := (blk_cell BK562.out 0).trans rfl; have hcz57_1 : w55.cell? ⟨gb562, 1, none⟩ = some (.slice Ao50 t552.length co50) := (blk_cell BK562.out 1).trans rfl; have hcz57_2 : w55.cell? ⟨gb562, 2, none⟩ = some (.slice Ao51 t555.length co51) := (blk_cell BK562.out 2).trans rfl; have hcz57_3 : w55.cell? ⟨gb562, 3, none⟩ = some (.slice Ao52 t558.length co52) := (blk_cell BK562.out 3).trans rfl; have hfz57_0 := blk_frozen BK562.out 0; have hfz57_1 := blk_frozen BK562.out 1; have hfz57_2 := blk_frozen BK562.out 2; have hfz57_3 := blk_frozen BK562.out 3; have hnb58 := NB550_0.out; have hnc58 := NB0_550.out; have hcz59_0 : w55.cell? ⟨gb550, 0, none⟩ = some (.int .i64 0) := (blk_cell BK550.out 0).trans rfl; have hcz59_1 : w55.cell? ⟨gb550, 1, none⟩ = some (.slice none 0 0) := (blk_cell BK550.out 1).trans rfl; have hcz59_2 : w55.cell? ⟨gb550, 2, none⟩ = some (.slice none 0 0) := (blk_cell BK550.out 2).trans rfl; have hcz59_3 : w55.cell? ⟨gb550, 3, none⟩ = some (.slice none 0 0) := (blk_cell BK550.out 3).trans rfl; have hfz59_0 := blk_frozen BK550.out 0; have hfz59_1 := blk_frozen BK550.out 1; have hfz59_2 := blk_frozen BK550.out 2; have hfz59_3 := blk_frozen BK550.out 3))
    refine bodyPost_ret (results_cell_row rfl _ _ gb550 26 #[.int .i64 t551, .slice Ao56 t573.length co56, .slice Ao51 t555.length co51, .slice Ao52 t558.length co52] (0, 0) _ rfl (by (with_reducible repeat first | refine kN ?_ _ | refine kD ?_ | refine kA ?_ _); refine blk_put (cs := #[.int .i64 t551, .slice Ao56 t573.length co56, .slice Ao51 t555.length co51, .slice none 0 0]) ?_ 3 _ rfl; (with_reducible repeat first | refine kN ?_ _ | refine kD ?_ | refine kA ?_ _); refine blk_put (cs := #[.int .i64 t551, .slice Ao56 t573.length co56, .slice none 0 0, .slice none 0 0]) ?_ 2 _ rfl; (with_reducible repeat first | refine kN ?_ _ | refine kD ?_ | refine kA ?_ _); refine blk_put (cs := #[.int .i64 t551, .slice none 0 0, .slice none 0 0, .slice none 0 0]) ?_ 1 _ rfl; (with_reducible repeat first | refine kN ?_ _ | refine kD ?_ | refine kA ?_ _); refine blk_put (cs := #[.int .i64 0, .slice none 0 0, .slice none 0 0, .slice none 0 0]) ?_ 0 _ rfl; (with_reducible repeat first | refine kN ?_ _ | refine kD ?_ | refine kA ?_ _); refine blk_far ?_ NB550_562.out _; exact lK BK550.out) Try.underlying26 rfl (by kernel_rfl)) rfl ?_
    exact ⟨_, _, _, er, by exact lN <| Kd.N_mono (Kd.N_far (p := ⟨gb550, 3, none⟩) (Kd.N_far (p := ⟨gb550, 2, none⟩) (Kd.N_far (p := ⟨gb550, 1, none⟩) (Kd.N_far (p := ⟨gb550, 0, none⟩) (Kd.N_far (p := ⟨gb562, 1, none⟩) (Kd.N_mono (Kd.N_mono HO575.out (fun k_ hk => (⟨hk, hk.2.2.2.2.2.1⟩ : _ ∧ k_ ≠ gb562))) (fun k_ hk => (⟨hk, hk.1.2.2.2.2.1⟩ : _ ∧ k_ ≠ gb550))) (fun _ hk => by first | exact hk.1.2 | exact fun e_ => hk.1.2 (e_.trans (ob _ _ _ _))) (.slice Ao56 t573.length co56)) (fun _ hk => by first | exact hk.2 | exact fun e_ => hk.2 (e_.trans (ob _ _ _ _))) (.int .i64 t551)) (fun _ hk => by first | exact hk.2 | exact fun e_ => hk.2 (e_.trans (ob _ _ _ _))) (.slice Ao56 t573.length co56)) (fun _ hk => by first | exact hk.2 | exact fun e_ => hk.2 (e_.trans (ob _ _ _ _))) (.slice Ao51 t555.length co51)) (fun _ hk => by first | exact hk.2 | exact fun e_ => hk.2 (e_.trans (ob _ _ _ _))) (.slice Ao52 t558.length co52)) (fun _ hk => ⟨(by first | exact hk.1.1.1 | exact fun e_ => hk.1.1.1 (e_.trans (ob _ _ _ _))), ⟨(by first | exact hk.1.1.2.2.1 | exact fun e_ => hk.1.1.2.2.1 (e_.trans (ob _ _ _ _))), (by first | exact hk.1.1.2.2.2.1 | exact fun e_ => hk.1.1.2.2.2.1 (e_.trans (ob _ _ _ _)))⟩⟩), by exact lR <| Kd.R_mono (Kd.R_far (p := ⟨gb550, 3, none⟩) (Kd.R_far (p := ⟨gb550, 2, none⟩) (Kd.R_far (p := ⟨gb550, 1, none⟩) (Kd.R_far (p := ⟨gb550, 0, none⟩) (Kd.R_far (p := ⟨gb562, 1, none⟩) (Kd.R_types (Kd.R_types HO557.out BK562.out (by decide)) BK550.out (by decide)) (fun _ hk => by first | exact hk.1.2 | exact fun e_ => hk.1.2 (e_.trans (ob _ _ _ _))) (.slice Ao56 t573.length co56)) (fun _ hk => by first | exact hk.2 | exact fun e_ => hk.2 (e_.trans (ob _ _ _ _))) (.int .i64 t551)) (fun _ hk => by first | exact hk.2 | exact fun e_ => hk.2 (e_.trans (ob _ _ _ _))) (.slice Ao56 t573.length co56)) (fun _ hk => by first | exact hk.2 | exact fun e_ => hk.2 (e_.trans (ob _ _ _ _))) (.slice Ao51 t555.length co51)) (fun _ hk => by first | exact hk.2 | exact fun e_ => hk.2 (e_.trans (ob _ _ _ _))) (.slice Ao52 t558.length co52)) (fun _ hk => ⟨(by first | exact hk.1.1.1 | exact fun e_ => hk.1.1.1 (e_.trans (ob _ _ _ _))), (by first | exact hk.1.1.2 | exact fun e_ => hk.1.1.2 (e_.trans (ob _ _ _ _)))⟩), by exact lR <| Kd.R_mono (Kd.R_far (p := ⟨gb550, 3, none⟩) (Kd.R_far (p := ⟨gb550, 2, none⟩) (Kd.R_far (p := ⟨gb550, 1, none⟩) (Kd.R_far (p := ⟨gb550, 0, none⟩) (Kd.R_far (p := ⟨gb562, 1, none⟩) (Kd.R_types (Kd.R_types HO560.out BK562.out (by decide)) BK550.out (by decide)) (fun _ hk => by first | exact hk.1.2 | exact fun e_ => hk.1.2 (e_.trans (ob _ _ _ _))) (.slice Ao56 t573.length co56)) (fun _ hk => by first | exact hk.2 | exact fun e_ => hk.2 (e_.trans (ob _ _ _ _))) (.int .i64 t551)) (fun _ hk => by first | exact hk.2 | exact fun e_ => hk.2 (e_.trans (ob _ _ _ _))) (.slice Ao56 t573.length co56)) (fun _ hk => by first | exact hk.2 | exact fun e_ => hk.2 (e_.trans (ob _ _ _ _))) (.slice Ao51 t555.length co51)) (fun _ hk => by first | exact hk.2 | exact fun e_ => hk.2 (e_.trans (ob _ _ _ _))) (.slice Ao52 t558.length co52)) (fun _ hk => ⟨(by first | exact hk.1.1.1 | exact fun e_ => hk.1.1.1 (e_.trans (ob _ _ _ _))), (by first | exact hk.1.1.2 | exact fun e_ => hk.1.1.2 (e_.trans (ob _ _ _ _)))⟩), by exact IsS69.j HI0.out, by exact jB HB.out, by exact jK HK.out⟩
   ·rw [if_neg c42] at H
    have c42b0 := beq_eq_false_iff_ne.mpr c42
    have c42b1 := bne_iff_ne.mpr c42
    by_cases c60 : t565 = 2
    ·rw [if_pos c60] at H
     have c60b0 := beq_iff_eq.mpr c60
     have c60b1 := bne_eq_false_iff_eq.mpr c60
     clear c60
     obtain ⟨y577, hy577⟩ : ∃ y_ : List Int, y_ = (([(-1), 51, 3, 3] : List Int)) := ⟨_, rfl⟩
     try rw [← hy577] at H
     try dsimp only [Option.bind_some] at H
     have Ny577 := aM hy577
     clear hy577
     obtain ⟨⟨t580, t581⟩, A61, H⟩ := bS H
     try dsimp only at H
     by_cases c62 : 0 ≤ t580
     ·rw [if_pos c62] at H
      have c62b0 := decide_eq_true c62
      clear c62
      by_cases c63 : t580 < (y577.length : Int)
      ·rw [if_pos c63] at H
       have c63b0 := decide_eq_true c63
       clear c63
       obtain ⟨y583, hy583⟩ : ∃ y_ : List Int, y_ = (([rd y577 t580, 4, 4] : List Int)) := ⟨_, rfl⟩
       try rw [← hy583] at H
       try dsimp only [Option.bind_some] at H
       have Ny583 := aM hy583
       clear hy583
       by_cases c64 : t555.length + y583.length < 17592186044416
       ·rw [if_pos c64] at H
        have LMc64 := aM c64
        clear c64
        obtain ⟨y586, hy586⟩ : ∃ y_ : List Int, y_ = (t555 ++ y583) := ⟨_, rfl⟩
        try rw [← hy586] at H
        try dsimp only [Option.bind_some] at H
        have Ny586 := aM hy586
        clear hy586
        simp only [Option.some.injEq, Prod.mk.injEq] at H
        obtain ⟨rfl, rfl, rfl, rfl, rfl⟩ := H
        go_enter Try.func19, Try.ntmps19
        try go_wp2_with (first | ((with_reducible refine gate_dst (N := 4) rfl ?_); refine bx 4 #[.int .i64 0, .slice none 0 0, .slice none 0 0, .slice none 0 0] 26 ?_; intro gb550 hg w65 hbox hb; replace HB := aM (bj HB.out hb); have BK550 := aM (hbox); have GW550 := aM ((gk hg HK.out)); have IGW550 : Nonempty _ := ⟨GW550.out⟩; have GE550 := aM ((Nat.le_trans HW0.out (gk hg HK.out) : w0.heap.size ≤ gb550)); have IGE550 : Nonempty _ := ⟨GE550.out⟩; replace HK := aM (kbl HK.out hb); have NB0_550 := aM ((by rw [hg]; exact Nat.ne_of_lt (IsS69.lt (show IsS69 w0 _ g s0_0 s0_1 from by exact IsS69.j HI0.out)) : g ≠ gb550)); have INB0_550 : Nonempty _ := ⟨NB0_550.out⟩; have NB550_0 := aM ((by rw [hg]; exact Nat.ne_of_gt (IsS69.lt (show IsS69 w0 _ g s0_0 s0_1 from by exact IsS69.j HI0.out)) : gb550 ≠ g)); replace HI0 := aM (IsS69.below (by exact IsS69.j HI0.out) hb); clear hb hbox hg) | ((with_reducible refine gate_callee (f := 46) rfl ?_); refine gL (some 7) Try.func46 #[.pointer (some ⟨g, 0, none⟩)] ?_; (with_reducible refine (spec_l21Plan.calls k g s0_0 s0_1 t551 t552 t555 t558 t561 w0 _ ?side1 ?side2 A3.out).mono ?_); (case side1 => exact IsS69.j HI0.out); (case side2 => exact jB HB.out); rintro e w66 ⟨v553, v556, v559, rfl, ho0, ho1, ho2, hi, hb, hk⟩; refine ⟨_, rfl, ?_⟩; have HO554 := aM (Kd.N_lower (Kd.N_mono (ok' := fun k_ => (w.heap.size ≤ k_) ∧ some k_ ≠ v556.ownBlock ∧ some k_ ≠ v559.ownBlock ∧ k_ ≠ gb550 ∧ k_ ≠ g) ho0 (fun k_ hk_ => ⟨(Nat.le_trans (keep_size (w := w) (g := g) (row := none) (by exact jK HK.out)) hk_.1), hk_.2.1, hk_.2.2, (Kd.freshB (g := gb550) (o := .cells #[.int .i64 0, .slice none 0 0, .slice none 0 0, .slice none 0 0] 26 (0, 0)) (by exact lK BK550.out) k_ hk_.1), (IsS69.fresh (by exact IsS69.j HI0.out) k_ hk_.1)⟩)) (keep_size (w := w) (g := g) (row := none) (by exact jK HK.out))); replace BK550 := aM (kb hk BK550.out NB550_0.out); have HO557 := aM (Kd.R_lower (Kd.R_newM (M := fun k_ => (w.heap.size ≤ k_)) (Kd.R_mono (ok' := fun k_ => some k_ ≠ v559.ownBlock) ho1 (fun _ hk_ => hk_.2)) (keep_size (w := w) (g := g) (row := none) (by exact jK HK.out)) (fun k_ h_ => h_)) (keep_size (w := w) (g := g) (row := none) (by exact jK HK.out))); have HO560 := aM (Kd.R_lower (Kd.R_newM (M := fun k_ => (w.heap.size ≤ k_)) (Kd.R_mono (ok' := fun k_ => some k_ ≠ v556.ownBlock) ho2 (fun _ hk_ => hk_.2)) (keep_size (w := w) (g := g) (row := none) (by exact jK HK.out)) (fun k_ h_ => h_)) (keep_size (w := w) (g := g) (row := none) (by exact jK HK.out))); replace HK := aM (kt HK.out hk); replace HB := aM (hb); replace HI0 := aM (hi); (try clear hb hk hi); (try clear ho0); (try clear ho1); (try clear ho2)) | ((with_reducible refine gate_dst (N := 5) rfl ?_); refine bx 5 #[.int .i64 0, .slice none 0 0, .slice none 0 0, .slice none 0 0] 26 ?_; intro gb562 hg w67 hbox hb; replace HO554 := aM (Kd.N_below (Kd.N_elderB (by exact lN <| HO554.out) gb562 (Nat.le_of_eq hg.symm)) hb); replace HO557 := aM (rb HO557.out hb); replace HO560 := aM (rb HO560.out hb); replace HB := aM (bj HB.out hb); have BK562 := aM (hbox); have GW562 := aM ((gk hg HK.out)); have IGW562 : Nonempty _ := ⟨GW562.out⟩; have GE562 := aM ((Nat.le_trans HW0.out (gk hg HK.out) : w0.heap.size ≤ gb562)); have IGE562 : Nonempty _ := ⟨GE562.out⟩; replace HK := aM (kbl HK.out hb); have NB550_562 := aM ((neL hg (lK BK550.out) : gb550 ≠ gb562)); have NB562_550 := aM ((neG hg (lK BK550.out) : gb562 ≠ gb550)); replace BK550 := aM (bb BK550.out hb); have NB0_562 := aM ((by rw [hg]; exact Nat.ne_of_lt (IsS69.lt (show IsS69 w0 _ g s0_0 t561 from by exact IsS69.j HI0.out)) : g ≠ gb562)); have INB0_562 : Nonempty _ := ⟨NB0_562.out⟩; have NB562_0 := aM ((by rw [hg]; exact Nat.ne_of_gt (IsS69.lt (show IsS69 w0 _ g s0_0 t561 from by exact IsS69.j HI0.out)) : gb562 ≠ g)); replace HI0 := aM (IsS69.below (by exact IsS69.j HI0.out) hb); clear hb hbox hg; have hnb68 := NB562_550.out; have hnc68 := NB550_562.out; have hnb69 := NB562_0.out; have hnc69 := NB0_562.out; have hcz70_0 : w67.cell? ⟨gb562, 0, none⟩ = some (.int .i64 0) := (blk_cell BK562.out 0).trans rfl; have hcz70_1 : w67.cell? ⟨gb562, 1, none⟩ = some (.slice none 0 0) := (blk_cell BK562.out 1).trans rfl; have hcz70_2 : w67.cell? ⟨gb562, 2, none⟩ = some (.slice none 0 0) := (blk_cell BK562.out 2).trans rfl; have hcz70_3 : w67.cell? ⟨gb562, 3, none⟩ = some (.slice none 0 0) := (blk_cell BK562.out 3).trans rfl; have hfz70_0 := blk_frozen BK562.out 0; have hfz70_1 := blk_frozen BK562.out 1; have hfz70_2 := blk_frozen BK562.out 2; have hfz70_3 := blk_frozen BK562.out 3; obtain ⟨Ao71, co71, eo71⟩ := Kd.N_slice HO554.out; subst eo71; obtain ⟨Ao72, co72, eo72⟩ := Kd.R_slice HO557.out; subst eo72; obtain ⟨Ao73, co73, eo73⟩ := Kd.R_slice HO560.out; subst eo73) | ((with_reducible refine gate_callee (f := 20) rfl ?_); refine gL (some 10) Try.func20 #[.pointer (some ⟨g, 0, none⟩), .int .i64 a1] ?_; (with_reducible refine (spec_l20Rd_pick.calls k g s0_0 t561 a1 t563 t564 w0 _ ?side1 ?side2 A4.out).mono ?_); (case side1 => exact IsS69.j HI0.out); (case side2 => exact jB HB.out); rintro e w74 ⟨rfl, hi, hb, hk⟩; refine ⟨_, rfl, ?_⟩; replace BK550 := aM (KeepBut.blk hk (g' := gb550) (o := .cells #[.int .i64 0, .slice none 0 0, .slice none 0 0, .slice none 0 0] 26 (0, 0)) (by exact f4 (lK BK550.out) NB550_562.out) NB550_0.out (by simp)); replace HO554 := aM (Kd.N_mono (Kd.N_keep (Kd.N_mono (ok := fun k_ => ((((w.heap.size ≤ k_)) ∧ (some k_ ≠ ownBlock (.slice Ao72 t555.length co72) ∧ (some k_ ≠ ownBlock (.slice Ao73 t558.length co73) ∧ (k_ ≠ gb550 ∧ k_ ≠ g)))) ∧ k_ ≠ gb562)) (by exact lN <| (Kd.N_mono (Kd.N_far (p := ⟨gb562, 3, none⟩) (Kd.N_far (p := ⟨gb562, 2, none⟩) (Kd.N_far (p := ⟨gb562, 1, none⟩) (Kd.N_far (p := ⟨gb562, 0, none⟩) (Kd.N_mono HO554.out (fun k_ hk => (⟨hk, hk.2⟩ : _ ∧ k_ ≠ gb562))) (fun _ hk => hk.2) (.int .i64 t551)) (fun _ hk => hk.2) (.slice Ao71 t552.length co71)) (fun _ hk => hk.2) (.slice Ao72 t555.length co72)) (fun _ hk => hk.2) (.slice Ao73 t558.length co73)) (fun _ h_ => h_.1))) (fun k_ hk_ => (⟨hk_, hk_.1.2.2.2.2⟩ : _ ∧ k_ ≠ g))) hk (fun _ h => h.2)) (fun _ h => h.1)); replace HO557 := aM (Kd.R_mono (Kd.R_keep (IsS69.apart (show IsS69 w0 _ g s0_0 t561 from by exact IsS69.j HI0.out) (qp (R4 HO557.out BK562.out)) (by decide)) hk (fun _ h => h.2)) (fun _ h => h.1)); replace HO560 := aM (Kd.R_mono (Kd.R_keep (IsS69.apart (show IsS69 w0 _ g s0_0 t561 from by exact IsS69.j HI0.out) (qp (R4 HO560.out BK562.out)) (by decide)) hk (fun _ h => h.2)) (fun _ h => h.1)); replace BK562 := aM (KeepBut.blk hk (g' := gb562) (o := .cells #[.int .i64 t551, .slice Ao71 t552.length co71, .slice Ao72 t555.length co72, .slice Ao73 t558.length co73] 26 (0, 0)) (by exact p4 (lK BK562.out)) NB562_0.out (by simp)); replace HK := aM (kt HK.out hk); replace HB := aM (hb); replace HI0 := aM (hi); (try clear hb hk hi)) | ((with_reducible refine gate_callee (f := 20) rfl ?_); refine gL (some 14) Try.func20 #[.pointer (some ⟨g, 0, none⟩), .int .i64 5] ?_; (with_reducible refine (spec_l20Rd_pick.calls k g s0_0 t564 5 t565 t566 w0 _ ?side1 ?side2 A19.out).mono ?_); (case side1 => exact IsS69.j HI0.out); (case side2 => exact jB HB.out); rintro e w75 ⟨rfl, hi, hb, hk⟩; refine ⟨_, rfl, ?_⟩; replace BK550 := aM (kb hk BK550.out NB550_0.out); replace HO554 := aM (Kd.N_mono (Kd.N_keep (Kd.N_mono (ok := fun k_ => ((((w.heap.size ≤ k_)) ∧ (some k_ ≠ ownBlock (.slice Ao72 t555.length co72) ∧ (some k_ ≠ ownBlock (.slice Ao73 t558.length co73) ∧ (k_ ≠ gb550 ∧ k_ ≠ g)))) ∧ k_ ≠ gb562)) (by exact lN <| HO554.out) (fun k_ hk_ => (⟨hk_, hk_.1.2.2.2.2⟩ : _ ∧ k_ ≠ g))) hk (fun _ h => h.2)) (fun _ h => h.1)); replace HO557 := aM (IsS69.kp (f1 := t564) (by exact IsS69.j HI0.out) (lR HO557.out) hk); replace HO560 := aM (IsS69.kp (f1 := t564) (by exact IsS69.j HI0.out) (lR HO560.out) hk); replace BK562 := aM (kb hk BK562.out NB562_0.out); replace HK := aM (kt HK.out hk); replace HB := aM (hb); replace HI0 := aM (hi); (try clear hb hk hi)))
        have pi582 : (0 ≤ (t580 : Int)) = True := eq_true (of_decide_eq_true (by first | (with_reducible assumption) | assumption))
        have qi582 : (t580 < (y577.length : Int)) = True := eq_true (of_decide_eq_true (by first | (with_reducible assumption) | assumption))
        replace HO554 := aM (Kd.N_drew HO554.out)
        replace HO557 := aM (Kd.R_drew HO557.out)
        replace HO560 := aM (Kd.R_drew HO560.out)
        replace BK550 := aM (blk_drew BK550.out)
        replace BK562 := aM (blk_drew BK562.out)
        replace HI0 := aM (IsS69.drew HI0.out)
        replace HK := aM (keep_drew HK.out)
        replace HB := aM (below_drew1 HB.out)
        refine start_ (n := 11) (S := fun w' => w'.cell? ⟨gb562, 0, none⟩ = some (.int .i64 t551) ∧ w'.cell? ⟨gb562, 1, none⟩ = some (.slice Ao71 t552.length co71) ∧ w'.cell? ⟨gb562, 2, none⟩ = some (.slice Ao72 t555.length co72) ∧ w'.cell? ⟨gb562, 3, none⟩ = some (.slice Ao73 t558.length co73)) (ds := [10]) #[false, false, false, false, false, false, false, false, false, false, false] (by kernel_rfl) rfl rfl ⟨(blk_cell BK562.out 0).trans rfl, (blk_cell BK562.out 1).trans rfl, (blk_cell BK562.out 2).trans rfl, (blk_cell BK562.out 3).trans rfl⟩ (fun hHeld => ?_); refine with_tabW spec_l21AnyPlan.tab11 spec_l21AnyPlan.bits11 (fun HT_ HW_ => ?_)
        generalize w75.drew = w76 at HO554 HO557 HO560 BK550 BK562 HI0 HK HB hHeld ⊢
        refine pure_ (i := 0) (N := some 34) (v := ?_) (a' := ?_) #[true, false, false, false, false, false, false, false, false, false, false] rfl rfl (any_of HT_.out (by kernel_rfl)) (fun _ _ _ h => h) (Or.inl ⟨by rfl, ?_⟩) ?_ ?_
        rotate_left
        ·intro w'
         go_simp
         with_reducible rfl
        rotate_left
        ·simp only [Act.put, sA, s0, sS, i64_w, i32_w]
         rfl
        refine pure_ (i := 3) (N := some 37) (v := ?_) (a' := ?_) #[true, false, false, true, false, false, false, false, false, false, false] rfl rfl (any_of HT_.out (by kernel_rfl)) (fun _ _ _ h => h) (Or.inl ⟨by rfl, ?_⟩) ?_ ?_
        rotate_left
        ·intro w'
         go_simp
         with_reducible rfl
        rotate_left
        ·simp only [Act.put, sA, s0, sS, i64_w, i32_w]
         rfl
        refine take_ (i := 1) (N := some 35) (v := ?_) (a' := ?_) #[true, true, false, true, false, false, false, false, false, false, false] rfl rfl (take_ofW HT_.out HW_.out (by kernel_rfl)) (fun _ _ _ h => h) (Or.inl ⟨by rfl, ?_⟩) hHeld ?_ ?_
        rotate_left
        ·rintro w' ⟨s0, s1, s2, s3⟩
         go_simp
         with_reducible rfl
        rotate_left
        ·simp only [Act.put, sA, s0, sS, i64_w, i32_w]
         rfl
        refine join_ (σ := Value × Addr) 6 #[true, true, true, true, true, false, false, false, false, false, false] (fun s_ => [(36, s_.1), (38, .int .i64 t580)]) (fun s_ w' => (w'.cell? ⟨gb562, 0, none⟩ = some (.int .i64 t551) ∧ w'.cell? ⟨gb562, 1, none⟩ = some (.slice Ao71 t552.length co71) ∧ w'.cell? ⟨gb562, 2, none⟩ = some (.slice Ao72 t555.length co72) ∧ w'.cell? ⟨gb562, 3, none⟩ = some (.slice Ao73 t558.length co73)) ∧ (Kd.N (Kd.slice 45 k45) 33 w' w.heap.size (fun k_ => (w.heap.size ≤ k_) ∧ some k_ ≠ ownBlock (.slice Ao72 t555.length co72) ∧ some k_ ≠ ownBlock (.slice Ao73 t558.length co73) ∧ some k_ ≠ (s_.1 : Value).ownBlock ∧ k_ ≠ g ∧ k_ ≠ gb550 ∧ k_ ≠ gb562) (.slice Ao71 t552.length co71) t552) ∧ (Kd.R (Kd.int .i64) 3 w' w.heap.size (fun k_ => (w.heap.size ≤ k_) ∧ some k_ ≠ ownBlock (.slice Ao73 t558.length co73) ∧ some k_ ≠ (s_.1 : Value).ownBlock) (.slice Ao72 t555.length co72) t555) ∧ (Kd.R (Kd.int .i64) 3 w' w.heap.size (fun k_ => (w.heap.size ≤ k_) ∧ some k_ ≠ ownBlock (.slice Ao72 t555.length co72) ∧ some k_ ≠ (s_.1 : Value).ownBlock) (.slice Ao73 t558.length co73) t558) ∧ (Kd.R (Kd.int .i64) 3 w' w.heap.size (fun k_ => (w.heap.size ≤ k_) ∧ some k_ ≠ ownBlock (.slice Ao72 t555.length co72) ∧ some k_ ≠ ownBlock (.slice Ao73 t558.length co73)) s_.1 y577) ∧ (∃ c_, (s_.1 : Value) = .slice (some s_.2) y577.length c_) ∧ (w'.heap[gb550]? = some (.cells #[.int .i64 0, .slice none 0 0, .slice none 0 0, .slice none 0 0] 26 (0, 0))) ∧ (w'.heap[gb562]? = some (.cells #[.int .i64 t551, .slice Ao71 t552.length co71, .slice Ao72 t555.length co72, .slice Ao73 t558.length co73] 26 (0, 0))) ∧ (IsS69 w0 w' g s0_0 t581) ∧ (KeepBut w w' g none) ∧ (Below w0.heap.size w0 w')) ?_ ?_
        rotate_left
        ·intro hCont
         refine two_ (i := 2) (j := 4) (Ni := some 36) (Nj := some 38) #[true, true, true, true, false, false, false, false, false, false, false] #[true, true, false, true, true, false, false, false, false, false, false] rfl rfl rfl rfl (two_of HT_.out (by kernel_rfl)) (by decide) (by decide) (fun K hK => ?_) (fun K hK => ?_)
         ·skip
          refine Kd.R_lit_step (Kd.int .i64) _ 3 ?hg (N := 36) ?hd (xs := ([(-1), 51, 3, 3] : List Int)) (inner := [.int .i64 (-1), .int .i64 51, .int .i64 3, .int .i64 3]) (ok := fun _ => True) (okp := fun _ => True) ?hr ?hp (fun _ hk => hk) trivial (Below.refl _ _) (Nat.le_refl _) (by simp) ?_; (case hd => rfl); (case hg => rfl); (case hr => first | (go_simp; done) | (go_simp; rfl)); (case hp => exact (Reps.one (show Kd.M (Kd.int .i64) _ _ _ (-1) [.int .i64 (-1)] from rfl) (Reps.one (show Kd.M (Kd.int .i64) _ _ _ 51 [.int .i64 51] from rfl) (Reps.one (show Kd.M (Kd.int .i64) _ _ _ 3 [.int .i64 3] from rfl) (Reps.one (show Kd.M (Kd.int .i64) _ _ _ 3 [.int .i64 3] from rfl) (Reps.none _ _))))))
          intro v578 w77 ho78 hb hg_ hnew_
          clear hg_ hnew_
          (first | rw [← Ny577.out] at ho78 | (simp only [Int.reduceToNat] at ho78; rw [← Ny577.out] at ho78))
          replace HO554 := aM (Kd.N_elder' (by exact lN <| HO554.out) (Kd.R_base ho78) hb)
          have HO579 := aM (Kd.R_lower (Kd.R_new' (Kd.R_new' (Kd.R_newM (M := fun k_ => (w.heap.size ≤ k_)) ho78 (keep_size (w := w) (g := g) (row := none) (by exact jK HK.out)) (fun k_ h_ => h_)) (rl HO557.out)) (rl HO560.out)) (keep_size (w := w) (g := g) (row := none) (by exact jK HK.out)))
          replace HO557 := aM (Kd.R_elder' (by exact lR HO557.out) (Kd.R_base ho78) hb)
          replace HO560 := aM (Kd.R_elder' (by exact lR HO560.out) (Kd.R_base ho78) hb)
          replace HI0 := aM (IsS69.below (by exact IsS69.j HI0.out) hb)
          replace BK550 := aM (bb BK550.out hb)
          replace BK562 := aM (bb BK562.out hb)
          replace HK := aM (kbl HK.out hb)
          replace HB := aM (bj HB.out hb)
          clear hb ho78
          obtain ⟨Ao79, co79, eo79⟩ := Kd.R_slice HO579.out
          subst eo79
          obtain ⟨ado79, fo79, _⟩ := Kd.at_int (Kd.R_reads' HO579.out).2.2 0 (by decide) (by rw [Ny577.out]; simp)
          cases fo79
          refine hK.out _ _ ⟨(blk_cell BK562.out 0).trans rfl, (blk_cell BK562.out 1).trans rfl, (blk_cell BK562.out 2).trans rfl, (blk_cell BK562.out 3).trans rfl⟩ (fun hHeld => ?_)
          clear hK K
          refine norm_ (a' := ?_) ?_ ?_
          rotate_left
          ·show Act.put _ (some 36) _ = _
           simp only [Act.put, sA, s0, sS, i64_w, i32_w]
           rfl
          refine one_ (i := 4) (N := some 38) #[true, true, true, true, true, false, false, false, false, false, false] rfl rfl (one_of HT_.out (by kernel_rfl)) (by decide) (fun K hK => ?_)
          refine goes_ Try.func20 (by kernel_rfl) rfl #[.pointer (some ⟨g, 0, none⟩), .int .i64 4] (by rfl) rfl rfl (by (try simp only [mA, mC, mN]); first | done | rfl | (simp only [ld, lt]; rfl)) ?_
          with_reducible refine (spec_l20Rd_pick.calls k g s0_0 t566 4 t580 t581 w0 _ ?side1 ?side2 A61.out).mono ?_
          (case side1 => exact IsS69.j HI0.out)
          (case side2 => exact jB HB.out)
          rintro e w80 ⟨rfl, hi, hb, hk⟩
          refine ⟨_, rfl, ?_⟩
          replace BK550 := aM (kb hk BK550.out NB550_0.out)
          replace HO554 := aM (Kd.N_mono (Kd.N_keep (Kd.N_mono (ok := fun k_ => (((((w.heap.size ≤ k_)) ∧ (some k_ ≠ ownBlock (.slice Ao72 t555.length co72) ∧ (some k_ ≠ ownBlock (.slice Ao73 t558.length co73) ∧ (k_ ≠ gb550 ∧ k_ ≠ g)))) ∧ k_ ≠ gb562) ∧ some k_ ≠ ownBlock (.slice (some ado79) y577.length co79))) (by exact lN <| HO554.out) (fun k_ hk_ => (⟨hk_, hk_.1.1.2.2.2.2⟩ : _ ∧ k_ ≠ g))) hk (fun _ h => h.2)) (fun _ h => h.1))
          replace HO557 := aM (IsS69.kp (f1 := t566) (by exact IsS69.j HI0.out) (lR HO557.out) hk)
          replace HO560 := aM (IsS69.kp (f1 := t566) (by exact IsS69.j HI0.out) (lR HO560.out) hk)
          replace BK562 := aM (kb hk BK562.out NB562_0.out)
          replace HO579 := aM (IsS69.kp (f1 := t566) (by exact IsS69.j HI0.out) (lR HO579.out) hk)
          replace HK := aM (kt HK.out hk)
          replace HB := aM (hb)
          replace HI0 := aM (hi)
          (try clear hb)
          (try clear hb2)
          (try clear hk)
          (try clear hi)
          refine hK.out _ _ ⟨(blk_cell BK562.out 0).trans rfl, (blk_cell BK562.out 1).trans rfl, (blk_cell BK562.out 2).trans rfl, (blk_cell BK562.out 3).trans rfl⟩ (fun hHeld => ?_)
          clear hK K
          refine norm_ (a' := ?_) ?_ ?_
          rotate_left
          ·show Act.put _ (some 38) _ = _
           simp only [Act.put, sA, s0, sS, i64_w, i32_w]
           rfl
          exact norm_ (by simp only [putAll, Act.put, List.setIfInBounds_toArray, List.set_cons_zero, List.set_cons_succ]) (hCont (.slice (some ado79) y577.length co79, ado79) _ ⟨hHeld, (by exact lN <| Kd.N_mono HO554.out (fun _ hk => ⟨hk.1.1.1, ⟨hk.1.1.2.1, ⟨hk.1.1.2.2.1, ⟨hk.2, ⟨hk.1.1.2.2.2.2, ⟨hk.1.1.2.2.2.1, hk.1.2⟩⟩⟩⟩⟩⟩)), (by exact lR <| Kd.R_mono HO557.out (fun _ hk => ⟨hk.1.1, ⟨hk.1.2, hk.2⟩⟩)), (by exact lR <| Kd.R_mono HO560.out (fun _ hk => ⟨hk.1.1, ⟨hk.1.2, hk.2⟩⟩)), (by exact lR <| Kd.R_mono HO579.out (fun _ hk => ⟨hk.1.1.1, ⟨hk.1.2, hk.2⟩⟩)), ⟨_, rfl⟩, (by exact lK BK550.out), (by exact lK BK562.out), (by exact IsS69.j HI0.out), (by exact jK HK.out), (by exact jB HB.out)⟩)
         ·skip
          refine goes_ Try.func20 (by kernel_rfl) rfl #[.pointer (some ⟨g, 0, none⟩), .int .i64 4] (by rfl) rfl rfl (by (try simp only [mA, mC, mN]); first | done | rfl | (simp only [ld, lt]; rfl)) ?_
          with_reducible refine (spec_l20Rd_pick.calls k g s0_0 t566 4 t580 t581 w0 _ ?side1 ?side2 A61.out).mono ?_
          (case side1 => exact IsS69.j HI0.out)
          (case side2 => exact jB HB.out)
          rintro e w77 ⟨rfl, hi, hb, hk⟩
          refine ⟨_, rfl, ?_⟩
          replace BK550 := aM (kb hk BK550.out NB550_0.out)
          replace HO554 := aM (Kd.N_mono (Kd.N_keep (Kd.N_mono (ok := fun k_ => ((((w.heap.size ≤ k_)) ∧ (some k_ ≠ ownBlock (.slice Ao72 t555.length co72) ∧ (some k_ ≠ ownBlock (.slice Ao73 t558.length co73) ∧ (k_ ≠ gb550 ∧ k_ ≠ g)))) ∧ k_ ≠ gb562)) (by exact lN <| HO554.out) (fun k_ hk_ => (⟨hk_, hk_.1.2.2.2.2⟩ : _ ∧ k_ ≠ g))) hk (fun _ h => h.2)) (fun _ h => h.1))
          replace HO557 := aM (IsS69.kp (f1 := t566) (by exact IsS69.j HI0.out) (lR HO557.out) hk)
          replace HO560 := aM (IsS69.kp (f1 := t566) (by exact IsS69.j HI0.out) (lR HO560.out) hk)
          replace BK562 := aM (kb hk BK562.out NB562_0.out)
          replace HK := aM (kt HK.out hk)
          replace HB := aM (hb)
          replace HI0 := aM (hi)
          (try clear hb)
          (try clear hb2)
          (try clear hk)
          (try clear hi)
          refine hK.out _ _ ⟨(blk_cell BK562.out 0).trans rfl, (blk_cell BK562.out 1).trans rfl, (blk_cell BK562.out 2).trans rfl, (blk_cell BK562.out 3).trans rfl⟩ (fun hHeld => ?_)
          clear hK K
          refine norm_ (a' := ?_) ?_ ?_
          rotate_left
          ·show Act.put _ (some 38) _ = _
           simp only [Act.put, sA, s0, sS, i64_w, i32_w]
           rfl
          refine one_ (i := 2) (N := some 36) #[true, true, true, true, true, false, false, false, false, false, false] rfl rfl (one_of HT_.out (by kernel_rfl)) (by decide) (fun K hK => ?_)
          refine Kd.R_lit_step (Kd.int .i64) _ 3 ?hg (N := 36) ?hd (xs := ([(-1), 51, 3, 3] : List Int)) (inner := [.int .i64 (-1), .int .i64 51, .int .i64 3, .int .i64 3]) (ok := fun _ => True) (okp := fun _ => True) ?hr ?hp (fun _ hk => hk) trivial (Below.refl _ _) (Nat.le_refl _) (by simp) ?_; (case hd => rfl); (case hg => rfl); (case hr => first | (go_simp; done) | (go_simp; rfl)); (case hp => exact (Reps.one (show Kd.M (Kd.int .i64) _ _ _ (-1) [.int .i64 (-1)] from rfl) (Reps.one (show Kd.M (Kd.int .i64) _ _ _ 51 [.int .i64 51] from rfl) (Reps.one (show Kd.M (Kd.int .i64) _ _ _ 3 [.int .i64 3] from rfl) (Reps.one (show Kd.M (Kd.int .i64) _ _ _ 3 [.int .i64 3] from rfl) (Reps.none _ _))))))
          intro v578 w78 ho79 hb hg_ hnew_
          clear hg_ hnew_
          (first | rw [← Ny577.out] at ho79 | (simp only [Int.reduceToNat] at ho79; rw [← Ny577.out] at ho79))
          replace HO554 := aM (Kd.N_elder' (by exact lN <| HO554.out) (Kd.R_base ho79) hb)
          have HO579 := aM (Kd.R_lower (Kd.R_new' (Kd.R_new' (Kd.R_newM (M := fun k_ => (w.heap.size ≤ k_)) ho79 (keep_size (w := w) (g := g) (row := none) (by exact jK HK.out)) (fun k_ h_ => h_)) (rl HO557.out)) (rl HO560.out)) (keep_size (w := w) (g := g) (row := none) (by exact jK HK.out)))
          replace HO557 := aM (Kd.R_elder' (by exact lR HO557.out) (Kd.R_base ho79) hb)
          replace HO560 := aM (Kd.R_elder' (by exact lR HO560.out) (Kd.R_base ho79) hb)
          replace HI0 := aM (IsS69.below (by exact IsS69.j HI0.out) hb)
          replace BK550 := aM (bb BK550.out hb)
          replace BK562 := aM (bb BK562.out hb)
          replace HK := aM (kbl HK.out hb)
          replace HB := aM (bj HB.out hb)
          clear hb ho79
          obtain ⟨Ao80, co80, eo80⟩ := Kd.R_slice HO579.out
          subst eo80
          obtain ⟨ado80, fo80, _⟩ := Kd.at_int (Kd.R_reads' HO579.out).2.2 0 (by decide) (by rw [Ny577.out]; simp)
          cases fo80
          refine hK.out _ _ ⟨(blk_cell BK562.out 0).trans rfl, (blk_cell BK562.out 1).trans rfl, (blk_cell BK562.out 2).trans rfl, (blk_cell BK562.out 3).trans rfl⟩ (fun hHeld => ?_)
          clear hK K
          refine norm_ (a' := ?_) ?_ ?_
          rotate_left
          ·show Act.put _ (some 36) _ = _
           simp only [Act.put, sA, s0, sS, i64_w, i32_w]
           rfl
          exact norm_ (by simp only [putAll, Act.put, List.setIfInBounds_toArray, List.set_cons_zero, List.set_cons_succ]) (hCont (.slice (some ado80) y577.length co80, ado80) _ ⟨hHeld, (by exact lN <| Kd.N_mono HO554.out (fun _ hk => ⟨hk.1.1.1, ⟨hk.1.1.2.1, ⟨hk.1.1.2.2.1, ⟨hk.2, ⟨hk.1.1.2.2.2.2, ⟨hk.1.1.2.2.2.1, hk.1.2⟩⟩⟩⟩⟩⟩)), (by exact lR <| Kd.R_mono HO557.out (fun _ hk => ⟨hk.1.1, ⟨hk.1.2, hk.2⟩⟩)), (by exact lR <| Kd.R_mono HO560.out (fun _ hk => ⟨hk.1.1, ⟨hk.1.2, hk.2⟩⟩)), (by exact lR <| Kd.R_mono HO579.out (fun _ hk => ⟨hk.1.1.1, ⟨hk.1.2, hk.2⟩⟩)), ⟨_, rfl⟩, (by exact lK BK550.out), (by exact lK BK562.out), (by exact IsS69.j HI0.out), (by exact jK HK.out), (by exact jB HB.out)⟩)
        rintro ⟨v578, adz_v578⟩ w81 ⟨hS_, h0_, h1_, h2_, h3_, h4_, h5_, h6_, h7_, h8_, h9_⟩
        replace HO554 : Aside0 (Kd.N (Kd.slice 45 k45) 33 w81 w.heap.size (fun k_ => (w.heap.size ≤ k_) ∧ some k_ ≠ ownBlock (.slice Ao72 t555.length co72) ∧ some k_ ≠ ownBlock (.slice Ao73 t558.length co73) ∧ some k_ ≠ v578.ownBlock ∧ k_ ≠ g ∧ k_ ≠ gb550 ∧ k_ ≠ gb562) (.slice Ao71 t552.length co71) t552) := ⟨h0_⟩
        replace HO557 : Aside0 (Kd.R (Kd.int .i64) 3 w81 w.heap.size (fun k_ => (w.heap.size ≤ k_) ∧ some k_ ≠ ownBlock (.slice Ao73 t558.length co73) ∧ some k_ ≠ v578.ownBlock) (.slice Ao72 t555.length co72) t555) := ⟨h1_⟩
        replace HO560 : Aside0 (Kd.R (Kd.int .i64) 3 w81 w.heap.size (fun k_ => (w.heap.size ≤ k_) ∧ some k_ ≠ ownBlock (.slice Ao72 t555.length co72) ∧ some k_ ≠ v578.ownBlock) (.slice Ao73 t558.length co73) t558) := ⟨h2_⟩
        have HO579 : Aside0 (Kd.R (Kd.int .i64) 3 w81 w.heap.size (fun k_ => (w.heap.size ≤ k_) ∧ some k_ ≠ ownBlock (.slice Ao72 t555.length co72) ∧ some k_ ≠ ownBlock (.slice Ao73 t558.length co73)) v578 y577) := ⟨h3_⟩
        have HA_HO579 : Aside0 (∃ c_, (v578 : Value) = .slice (some adz_v578) y577.length c_) := ⟨h4_⟩
        replace BK550 : Aside0 (w81.heap[gb550]? = some (.cells #[.int .i64 0, .slice none 0 0, .slice none 0 0, .slice none 0 0] 26 (0, 0))) := ⟨h5_⟩
        replace BK562 : Aside0 (w81.heap[gb562]? = some (.cells #[.int .i64 t551, .slice Ao71 t552.length co71, .slice Ao72 t555.length co72, .slice Ao73 t558.length co73] 26 (0, 0))) := ⟨h6_⟩
        replace HI0 : Aside0 (IsS69 w0 w81 g s0_0 t581) := ⟨h7_⟩
        replace HK : Aside0 (KeepBut w w81 g none) := ⟨h8_⟩
        replace HB : Aside0 (Below w0.heap.size w0 w81) := ⟨h9_⟩
        clear h0_ h1_ h2_ h3_ h4_ h5_ h6_ h7_ h8_ h9_
        have hHeld : w81.cell? ⟨gb562, 0, none⟩ = some (.int .i64 t551) ∧ w81.cell? ⟨gb562, 1, none⟩ = some (.slice Ao71 t552.length co71) ∧ w81.cell? ⟨gb562, 2, none⟩ = some (.slice Ao72 t555.length co72) ∧ w81.cell? ⟨gb562, 3, none⟩ = some (.slice Ao73 t558.length co73) := hS_
        obtain ⟨co82, eo82⟩ := HA_HO579.out
        clear HA_HO579
        subst eo82
        refine norm_ (a' := ?_) ?_ ?_
        rotate_left
        ·simp only [putAll, Act.put, List.setIfInBounds_toArray, List.set_cons_zero, List.set_cons_succ]
         rfl
        refine pure_ (i := 5) (N := some 39) (v := ?_) (a' := ?_) #[true, true, true, true, true, true, false, false, false, false, false] rfl rfl (any_of HT_.out (by kernel_rfl)) (fun _ _ _ h => h) (Or.inl ⟨by rfl, ?_⟩) ?_ ?_
        rotate_left
        ·intro w'
         go_simp
         with_reducible rfl
        rotate_left
        ·simp only [Act.put, sA, s0, sS, i64_w, i32_w]
         rfl
        refine one_ (i := 6) (N := some 40) #[true, true, true, true, true, true, true, false, false, false, false] rfl rfl (one_of HT_.out (by kernel_rfl)) (by decide) (fun K hK => ?_)
        (have p582 : 0 ≤ (t580 : Int) := of_decide_eq_true (by first | (with_reducible assumption) | assumption); have q582 : t580 < (y577.length : Int) := of_decide_eq_true (by first | (with_reducible assumption) | assumption); obtain ⟨ad582, e582, hx582_0⟩ := Kd.at_int (Kd.R_reads' HO579.out).2.2 t580 p582 q582; obtain rfl : adz_v578 = ad582 := (by injection e582))
        refine value_ (w1 := ?_) (v := ?_) (by rfl) rfl ?_ ?_
        rotate_left 2
        ·go_simp
         constructor
         ·rfl
         ·rfl
        clear hx582_0
        refine hK.out _ _ ⟨(blk_cell BK562.out 0).trans rfl, (blk_cell BK562.out 1).trans rfl, (blk_cell BK562.out 2).trans rfl, (blk_cell BK562.out 3).trans rfl⟩ (fun hHeld => ?_)
        clear hK K
        refine norm_ (a' := ?_) ?_ ?_
        rotate_left
        ·show Act.put _ (some 40) _ = _
         simp only [Act.put, sA, s0, sS, i64_w, i32_w]
         rfl
        refine one_ (i := 7) (N := some 41) #[true, true, true, true, true, true, true, true, false, false, false] rfl rfl (one_of HT_.out (by kernel_rfl)) (by decide) (fun K hK => ?_)
        refine Kd.R_lit_step (Kd.int .i64) _ 3 ?hg (N := 41) ?hd (xs := ([rd y577 t580, 4, 4] : List Int)) (inner := [.int .i64 (rd y577 t580), .int .i64 4, .int .i64 4]) (ok := fun _ => True) (okp := fun _ => True) ?hr ?hp (fun _ hk => hk) trivial (Below.refl _ _) (Nat.le_refl _) (by simp) ?_; (case hd => rfl); (case hg => rfl); (case hr => first | (go_simp; done) | (go_simp; rfl)); (case hp => exact (Reps.one (show Kd.M (Kd.int .i64) _ _ _ (rd y577 t580) [.int .i64 (rd y577 t580)] from rfl) (Reps.one (show Kd.M (Kd.int .i64) _ _ _ 4 [.int .i64 4] from rfl) (Reps.one (show Kd.M (Kd.int .i64) _ _ _ 4 [.int .i64 4] from rfl) (Reps.none _ _)))))
        intro v584 w83 ho84 hb hg_ hnew_
        clear hg_ hnew_
        (first | rw [← Ny583.out] at ho84 | (simp only [Int.reduceToNat] at ho84; rw [← Ny583.out] at ho84))
        replace HO554 := aM (Kd.N_elder' (by exact lN <| HO554.out) (Kd.R_base ho84) hb)
        have HO585 := aM (Kd.R_lower (Kd.R_new' (Kd.R_new' (Kd.R_new' (Kd.R_newM (M := fun k_ => (w.heap.size ≤ k_)) ho84 (keep_size (w := w) (g := g) (row := none) (by exact jK HK.out)) (fun k_ h_ => h_)) (rl HO557.out)) (rl HO560.out)) (rl HO579.out)) (keep_size (w := w) (g := g) (row := none) (by exact jK HK.out)))
        replace HO557 := aM (Kd.R_elder' (by exact lR HO557.out) (Kd.R_base ho84) hb)
        replace HO560 := aM (Kd.R_elder' (by exact lR HO560.out) (Kd.R_base ho84) hb)
        replace HO579 := aM (Kd.R_elder' (by exact lR HO579.out) (Kd.R_base ho84) hb)
        replace HI0 := aM (IsS69.below (by exact IsS69.j HI0.out) hb)
        replace BK550 := aM (bb BK550.out hb)
        replace BK562 := aM (bb BK562.out hb)
        replace HK := aM (kbl HK.out hb)
        replace HB := aM (bj HB.out hb)
        clear hb ho84
        obtain ⟨Ao86, co86, eo86⟩ := Kd.R_slice HO585.out
        (first | subst eo86 | (injection eo86 with f1_ f2_ f3_; have f4_ := f1_.symm; have f5_ := f3_.symm; clear f1_ f2_ f3_; subst f4_; subst f5_))
        refine hK.out _ _ ⟨(blk_cell BK562.out 0).trans rfl, (blk_cell BK562.out 1).trans rfl, (blk_cell BK562.out 2).trans rfl, (blk_cell BK562.out 3).trans rfl⟩ (fun hHeld => ?_)
        clear hK K
        refine norm_ (a' := ?_) ?_ ?_
        rotate_left
        ·show Act.put _ (some 41) _ = _
         simp only [Act.put, sA, s0, sS, i64_w, i32_w]
         rfl
        refine one_ (i := 8) (N := some 42) #[true, true, true, true, true, true, true, true, true, false, false] rfl rfl (one_of HT_.out (by kernel_rfl)) (by decide) (fun K hK => ?_)
        refine Kd.R_append_rows_step (Kd.int .i64) w.heap.size (by rfl) (.tmp 35) (.tmp 41) 24 3 (.int .i64 0) 8 rfl Try.underlying24 info3 rfl (by decide) (by omega) (.slice Ao72 t555.length co72) t555 y583 _ _ _ (fun k_ => (w.heap.size ≤ k_) ∧ some k_ ≠ ownBlock (.slice Ao73 t558.length co73) ∧ some k_ ≠ ownBlock (.slice (some adz_v578) y577.length co82) ∧ some k_ ≠ ownBlock (.slice Ao86 y583.length co86)) (fun _ => False) rfl rfl ?aO ?aR (fun _ _ h => h) (fun _ h => h.elim) ?aF (Below.refl _ _) ?aS ?aL ?_
        (case aR => exact lC <| (Kd.R_reads' HO585.out).2.2)
        (case aF => exact (fun k_ hk => ⟨(Nat.le_trans (keep_size (w := w) (g := g) (row := none) (by exact jK HK.out)) hk), Kd.fresh' (rl HO560.out) k_ hk, Kd.fresh' (rl HO579.out) k_ hk, Kd.fresh' (rl HO585.out) k_ hk⟩))
        (case aO => exact (by exact lR <| Kd.R_mono HO557.out (fun _ hk => ⟨hk.1.1, ⟨hk.1.2.1, ⟨hk.1.2.2, hk.2⟩⟩⟩)))
        (case aS => exact (keep_size (w := w) (g := g) (row := none) (by exact jK HK.out)))
        (case aL => have := LMc64.out; omega)
        intro v587 w85 ho hb hg hat
        rw [← Ny586.out] at ho
        replace HI0 := aM (IsS69.grown (by exact IsS69.j HI0.out) hg (IsS69.own_ne HI0.out HO557.out (by decide)))
        replace BK550 := aM (blk_grown (g := gb550) (o := .cells #[.int .i64 0, .slice none 0 0, .slice none 0 0, .slice none 0 0] 26 (0, 0)) (by exact lK BK550.out) hg (Kd.R_ne HO557.out BK550.out (by decide)))
        replace HO554 := aM (Kd.N_afterv (ok := (fun k_ => (w.heap.size ≤ k_) ∧ some k_ ≠ ownBlock (.slice Ao73 t558.length co73) ∧ some k_ ≠ ownBlock (.slice (some adz_v578) y577.length co82) ∧ some k_ ≠ ownBlock (.slice Ao86 y583.length co86) ∧ k_ ≠ g ∧ k_ ≠ gb550 ∧ k_ ≠ gb562)) (by exact lN <| Kd.N_mono HO554.out (fun _ hk => ⟨⟨hk.1.1, ⟨hk.1.2.2.1, ⟨hk.1.2.2.2.1, ⟨hk.2, ⟨hk.1.2.2.2.2.1, ⟨hk.1.2.2.2.2.2.1, hk.1.2.2.2.2.2.2⟩⟩⟩⟩⟩⟩, hk.1.2.1⟩)) hg hat)
        replace HO560 := aM (Kd.R_after (ok := (fun k_ => (w.heap.size ≤ k_) ∧ some k_ ≠ ownBlock (.slice (some adz_v578) y577.length co82) ∧ some k_ ≠ ownBlock (.slice Ao86 y583.length co86))) (by exact lR <| Kd.R_mono HO560.out (fun _ hk => ⟨⟨hk.1.1, ⟨hk.1.2.2, hk.2⟩⟩, hk.1.2.1⟩)) hg hat)
        replace BK562 := aM (blk_grown (g := gb562) (o := .cells #[.int .i64 t551, .slice Ao71 t552.length co71, .slice Ao72 t555.length co72, .slice Ao73 t558.length co73] 26 (0, 0)) (by exact lK BK562.out) hg (Kd.R_ne HO557.out BK562.out (by decide)))
        replace HO579 := aM (Kd.R_after (ok := (fun k_ => (w.heap.size ≤ k_) ∧ some k_ ≠ ownBlock (.slice Ao73 t558.length co73) ∧ some k_ ≠ ownBlock (.slice Ao86 y583.length co86))) (by exact lR <| Kd.R_mono HO579.out (fun _ hk => ⟨⟨hk.1.1, ⟨hk.1.2.2, hk.2⟩⟩, hk.1.2.1⟩)) hg hat)
        replace HO585 := aM (Kd.R_after (ok := (fun k_ => (w.heap.size ≤ k_) ∧ some k_ ≠ ownBlock (.slice Ao73 t558.length co73) ∧ some k_ ≠ ownBlock (.slice (some adz_v578) y577.length co82))) (by exact lR <| Kd.R_mono HO585.out (fun _ hk => ⟨⟨hk.1.1.1.1, ⟨hk.1.2, hk.2⟩⟩, hk.1.1.2⟩)) hg hat)
        replace HB := aM (below_weaken (by exact jB HB.out) HL.out hb)
        replace HK := aM (KeepBut.trans (by exact jK HK.out) (KeepBut.of_grown hg g) (Kd.R_base2 HO557.out))
        have HO588 := aM (ho)
        clear HO557 ho hb hg hat
        obtain ⟨Ao87, co87, eo87⟩ := Kd.R_slice HO588.out
        (first | subst eo87 | (injection eo87 with f1_ f2_ f3_; have f4_ := f1_.symm; have f5_ := f3_.symm; clear f1_ f2_ f3_; subst f4_; subst f5_))
        refine hK.out _ _ ⟨(blk_cell BK562.out 0).trans rfl, (blk_cell BK562.out 1).trans rfl, (blk_cell BK562.out 2).trans rfl, (blk_cell BK562.out 3).trans rfl⟩ (fun hHeld => ?_)
        clear hK K
        refine norm_ (a' := ?_) ?_ ?_
        rotate_left
        ·show Act.put _ (some 42) _ = _
         simp only [Act.put, sA, s0, sS, i64_w, i32_w]
         rfl
        refine pure_ (i := 9) (N := some 43) (v := ?_) (a' := ?_) #[true, true, true, true, true, true, true, true, true, true, false] rfl rfl (any_of HT_.out (by kernel_rfl)) (fun _ _ _ h => h) (Or.inl ⟨by rfl, ?_⟩) ?_ ?_
        rotate_left
        ·intro w'
         go_simp
         with_reducible rfl
        rotate_left
        ·simp only [Act.put, sA, s0, sS, i64_w, i32_w]
         rfl
        refine last_ (i := 10) (N := none) #[true, true, true, true, true, true, true, true, true, true, true] rfl rfl (one_of HT_.out (by kernel_rfl)) (by decide) (fun K hK => ?_)
        have hs88 : w85.cell? ⟨gb562, 2, none⟩ = some (.slice Ao72 t555.length co72) := (blk_cell BK562.out 2).trans rfl
        have hfs88 := blk_frozen BK562.out 2
        have hns88_0 := NB550_562.out
        have hms88_0 := NB562_550.out
        refine skip_ (w1 := ?_) (by rfl) rfl ?_ ?_
        rotate_left
        ·go_simp
         rfl
        refine hK.out _ _ ?_
        clear hK K
        refine done_ (done_of HT_.out (by kernel_rfl)) ?_
        have hcz89_0 : w85.cell? ⟨gb562, 0, none⟩ = some (.int .i64 t551) := (blk_cell BK562.out 0).trans rfl
        have hcz89_1 : w85.cell? ⟨gb562, 1, none⟩ = some (.slice Ao71 t552.length co71) := (blk_cell BK562.out 1).trans rfl
        have hcz89_2 : w85.cell? ⟨gb562, 2, none⟩ = some (.slice Ao72 t555.length co72) := (blk_cell BK562.out 2).trans rfl
        have hcz89_3 : w85.cell? ⟨gb562, 3, none⟩ = some (.slice Ao73 t558.length co73) := (blk_cell BK562.out 3).trans rfl
        have hfz89_0 := blk_frozen BK562.out 0
        have hfz89_1 := blk_frozen BK562.out 1
        have hfz89_2 := blk_frozen BK562.out 2
        have hfz89_3 := blk_frozen BK562.out 3
        have hnb90 := NB550_0.out
        have hnc90 := NB0_550.out
        have hcz91_0 : w85.cell? ⟨gb550, 0, none⟩ = some (.int .i64 0) := (blk_cell BK550.out 0).trans rfl
        have hcz91_1 : w85.cell? ⟨gb550, 1, none⟩ = some (.slice none 0 0) := (blk_cell BK550.out 1).trans rfl
        have hcz91_2 : w85.cell? ⟨gb550, 2, none⟩ = some (.slice none 0 0) := (blk_cell BK550.out 2).trans rfl
        have hcz91_3 : w85.cell? ⟨gb550, 3, none⟩ = some (.slice none 0 0) := (blk_cell BK550.out 3).trans rfl
        have hfz91_0 := blk_frozen BK550.out 0
        have hfz91_1 := blk_frozen BK550.out 1
        have hfz91_2 := blk_frozen BK550.out 2
        have hfz91_3 := blk_frozen BK550.out 3
        try go_wp2
        refine bodyPost_ret (results_cell_row rfl _ _ gb550 26 #[.int .i64 t551, .slice Ao71 t552.length co71, .slice Ao87 y586.length co87, .slice Ao73 t558.length co73] (0, 0) _ rfl (by (with_reducible repeat first | refine kN ?_ _ | refine kD ?_ | refine kA ?_ _); refine blk_put (cs := #[.int .i64 t551, .slice Ao71 t552.length co71, .slice Ao87 y586.length co87, .slice none 0 0]) ?_ 3 _ rfl; (with_reducible repeat first | refine kN ?_ _ | refine kD ?_ | refine kA ?_ _); refine blk_put (cs := #[.int .i64 t551, .slice Ao71 t552.length co71, .slice none 0 0, .slice none 0 0]) ?_ 2 _ rfl; (with_reducible repeat first | refine kN ?_ _ | refine kD ?_ | refine kA ?_ _); refine blk_put (cs := #[.int .i64 t551, .slice none 0 0, .slice none 0 0, .slice none 0 0]) ?_ 1 _ rfl; (with_reducible repeat first | refine kN ?_ _ | refine kD ?_ | refine kA ?_ _); refine blk_put (cs := #[.int .i64 0, .slice none 0 0, .slice none 0 0, .slice none 0 0]) ?_ 0 _ rfl; (with_reducible repeat first | refine kN ?_ _ | refine kD ?_ | refine kA ?_ _); refine blk_far ?_ NB550_562.out _; exact lK BK550.out) Try.underlying26 rfl (by kernel_rfl)) rfl ?_
        exact ⟨_, _, _, er, by exact lN <| Kd.N_mono (Kd.N_far (p := ⟨gb550, 3, none⟩) (Kd.N_far (p := ⟨gb550, 2, none⟩) (Kd.N_far (p := ⟨gb550, 1, none⟩) (Kd.N_far (p := ⟨gb550, 0, none⟩) (Kd.N_far (p := ⟨gb562, 2, none⟩) (Kd.N_mono (Kd.N_mono HO554.out (fun k_ hk => (⟨hk, hk.1.2.2.2.2.2.2⟩ : _ ∧ k_ ≠ gb562))) (fun k_ hk => (⟨hk, hk.1.1.2.2.2.2.2.1⟩ : _ ∧ k_ ≠ gb550))) (fun _ hk => by first | exact hk.1.2 | exact fun e_ => hk.1.2 (e_.trans (ob _ _ _ _))) (.slice Ao87 y586.length co87)) (fun _ hk => by first | exact hk.2 | exact fun e_ => hk.2 (e_.trans (ob _ _ _ _))) (.int .i64 t551)) (fun _ hk => by first | exact hk.2 | exact fun e_ => hk.2 (e_.trans (ob _ _ _ _))) (.slice Ao71 t552.length co71)) (fun _ hk => by first | exact hk.2 | exact fun e_ => hk.2 (e_.trans (ob _ _ _ _))) (.slice Ao87 y586.length co87)) (fun _ hk => by first | exact hk.2 | exact fun e_ => hk.2 (e_.trans (ob _ _ _ _))) (.slice Ao73 t558.length co73)) (fun _ hk => ⟨(by first | exact hk.1.1.1.1 | exact fun e_ => hk.1.1.1.1 (e_.trans (ob _ _ _ _))), ⟨(by first | exact hk.1.1.2 | exact fun e_ => hk.1.1.2 (e_.trans (ob _ _ _ _))), (by first | exact hk.1.1.1.2.1 | exact fun e_ => hk.1.1.1.2.1 (e_.trans (ob _ _ _ _)))⟩⟩), by exact lR <| Kd.R_mono (Kd.R_far (p := ⟨gb550, 3, none⟩) (Kd.R_far (p := ⟨gb550, 2, none⟩) (Kd.R_far (p := ⟨gb550, 1, none⟩) (Kd.R_far (p := ⟨gb550, 0, none⟩) (Kd.R_far (p := ⟨gb562, 2, none⟩) (Kd.R_types (Kd.R_types HO588.out BK562.out (by decide)) BK550.out (by decide)) (fun _ hk => by first | exact hk.1.2 | exact fun e_ => hk.1.2 (e_.trans (ob _ _ _ _))) (.slice Ao87 y586.length co87)) (fun _ hk => by first | exact hk.2 | exact fun e_ => hk.2 (e_.trans (ob _ _ _ _))) (.int .i64 t551)) (fun _ hk => by first | exact hk.2 | exact fun e_ => hk.2 (e_.trans (ob _ _ _ _))) (.slice Ao71 t552.length co71)) (fun _ hk => by first | exact hk.2 | exact fun e_ => hk.2 (e_.trans (ob _ _ _ _))) (.slice Ao87 y586.length co87)) (fun _ hk => by first | exact hk.2 | exact fun e_ => hk.2 (e_.trans (ob _ _ _ _))) (.slice Ao73 t558.length co73)) (fun _ hk => ⟨(by first | exact hk.1.1.1 | exact fun e_ => hk.1.1.1 (e_.trans (ob _ _ _ _))), (by first | exact hk.1.1.2.1 | exact fun e_ => hk.1.1.2.1 (e_.trans (ob _ _ _ _)))⟩), by exact lR <| Kd.R_mono (Kd.R_far (p := ⟨gb550, 3, none⟩) (Kd.R_far (p := ⟨gb550, 2, none⟩) (Kd.R_far (p := ⟨gb550, 1, none⟩) (Kd.R_far (p := ⟨gb550, 0, none⟩) (Kd.R_far (p := ⟨gb562, 2, none⟩) (Kd.R_types (Kd.R_types HO560.out BK562.out (by decide)) BK550.out (by decide)) (fun _ hk => by first | exact hk.1.2 | exact fun e_ => hk.1.2 (e_.trans (ob _ _ _ _))) (.slice Ao87 y586.length co87)) (fun _ hk => by first | exact hk.2 | exact fun e_ => hk.2 (e_.trans (ob _ _ _ _))) (.int .i64 t551)) (fun _ hk => by first | exact hk.2 | exact fun e_ => hk.2 (e_.trans (ob _ _ _ _))) (.slice Ao71 t552.length co71)) (fun _ hk => by first | exact hk.2 | exact fun e_ => hk.2 (e_.trans (ob _ _ _ _))) (.slice Ao87 y586.length co87)) (fun _ hk => by first | exact hk.2 | exact fun e_ => hk.2 (e_.trans (ob _ _ _ _))) (.slice Ao73 t558.length co73)) (fun _ hk => ⟨(by first | exact hk.1.1.1.1 | exact fun e_ => hk.1.1.1.1 (e_.trans (ob _ _ _ _))), (by first | exact hk.1.1.2 | exact fun e_ => hk.1.1.2 (e_.trans (ob _ _ _ _)))⟩), by exact IsS69.j HI0.out, by exact jB HB.out, by exact jK HK.out⟩
       ·rw [if_neg c64] at H
        exact absurd H (by simp)
      ·rw [if_neg c63] at H
       exact absurd H (by simp)
     ·rw [if_neg c62] at H
      exact absurd H (by simp)
    ·rw [if_neg c60] at H
     have c60b0 := beq_eq_false_iff_ne.mpr c60
     have c60b1 := bne_iff_ne.mpr c60
     by_cases c92 : t565 = 3
     ·rw [if_pos c92] at H
      have c92b0 := beq_iff_eq.mpr c92
      have c92b1 := bne_eq_false_iff_eq.mpr c92
      clear c92
      obtain ⟨y589, hy589⟩ : ∃ y_ : List Int, y_ = (([1001, (-1000), 1000] : List Int)) := ⟨_, rfl⟩
      try rw [← hy589] at H
      try dsimp only [Option.bind_some] at H
      have Ny589 := aM hy589
      clear hy589
      obtain ⟨⟨t592, t593⟩, A93, H⟩ := bS H
      try dsimp only at H
      by_cases c94 : 0 ≤ t592
      ·rw [if_pos c94] at H
       have c94b0 := decide_eq_true c94
       clear c94
       by_cases c95 : t592 < (y589.length : Int)
       ·rw [if_pos c95] at H
        have c95b0 := decide_eq_true c95
        clear c95
        by_cases c96 : 0 < (t558.length : Int)
        ·rw [if_pos c96] at H
         have c96b0 := decide_eq_true c96
         have c96b1 : decide (0 < t558.length) = true := decide_eq_true (by omega)
         clear c96
         obtain ⟨y595, hy595⟩ : ∃ y_ : List Int, y_ = (t558.set (0 : Int).toNat (rd y589 t592)) := ⟨_, rfl⟩
         try rw [← hy595] at H
         try dsimp only [Option.bind_some] at H
         have Ny595 := aM hy595
         clear hy595
         simp only [Option.some.injEq, Prod.mk.injEq] at H
         obtain ⟨rfl, rfl, rfl, rfl, rfl⟩ := H
         go_enter Try.func19, Try.ntmps19
         try go_wp2_with (first | ((with_reducible refine gate_dst (N := 4) rfl ?_); refine bx 4 #[.int .i64 0, .slice none 0 0, .slice none 0 0, .slice none 0 0] 26 ?_; intro gb550 hg w98 hbox hb; replace HB := aM (bj HB.out hb); have BK550 := aM (hbox); have GW550 := aM ((gk hg HK.out)); have IGW550 : Nonempty _ := ⟨GW550.out⟩; have GE550 := aM ((Nat.le_trans HW0.out (gk hg HK.out) : w0.heap.size ≤ gb550)); have IGE550 : Nonempty _ := ⟨GE550.out⟩; replace HK := aM (kbl HK.out hb); have NB0_550 := aM ((by rw [hg]; exact Nat.ne_of_lt (IsS69.lt (show IsS69 w0 _ g s0_0 s0_1 from by exact IsS69.j HI0.out)) : g ≠ gb550)); have INB0_550 : Nonempty _ := ⟨NB0_550.out⟩; have NB550_0 := aM ((by rw [hg]; exact Nat.ne_of_gt (IsS69.lt (show IsS69 w0 _ g s0_0 s0_1 from by exact IsS69.j HI0.out)) : gb550 ≠ g)); replace HI0 := aM (IsS69.below (by exact IsS69.j HI0.out) hb); clear hb hbox hg) | ((with_reducible refine gate_callee (f := 46) rfl ?_); refine gL (some 7) Try.func46 #[.pointer (some ⟨g, 0, none⟩)] ?_; (with_reducible refine (spec_l21Plan.calls k g s0_0 s0_1 t551 t552 t555 t558 t561 w0 _ ?side1 ?side2 A3.out).mono ?_); (case side1 => exact IsS69.j HI0.out); (case side2 => exact jB HB.out); rintro e w99 ⟨v553, v556, v559, rfl, ho0, ho1, ho2, hi, hb, hk⟩; refine ⟨_, rfl, ?_⟩; have HO554 := aM (Kd.N_lower (Kd.N_mono (ok' := fun k_ => (w.heap.size ≤ k_) ∧ some k_ ≠ v556.ownBlock ∧ some k_ ≠ v559.ownBlock ∧ k_ ≠ gb550 ∧ k_ ≠ g) ho0 (fun k_ hk_ => ⟨(Nat.le_trans (keep_size (w := w) (g := g) (row := none) (by exact jK HK.out)) hk_.1), hk_.2.1, hk_.2.2, (Kd.freshB (g := gb550) (o := .cells #[.int .i64 0, .slice none 0 0, .slice none 0 0, .slice none 0 0] 26 (0, 0)) (by exact lK BK550.out) k_ hk_.1), (IsS69.fresh (by exact IsS69.j HI0.out) k_ hk_.1)⟩)) (keep_size (w := w) (g := g) (row := none) (by exact jK HK.out))); replace BK550 := aM (kb hk BK550.out NB550_0.out); have HO557 := aM (Kd.R_lower (Kd.R_newM (M := fun k_ => (w.heap.size ≤ k_)) (Kd.R_mono (ok' := fun k_ => some k_ ≠ v559.ownBlock) ho1 (fun _ hk_ => hk_.2)) (keep_size (w := w) (g := g) (row := none) (by exact jK HK.out)) (fun k_ h_ => h_)) (keep_size (w := w) (g := g) (row := none) (by exact jK HK.out))); have HO560 := aM (Kd.R_lower (Kd.R_newM (M := fun k_ => (w.heap.size ≤ k_)) (Kd.R_mono (ok' := fun k_ => some k_ ≠ v556.ownBlock) ho2 (fun _ hk_ => hk_.2)) (keep_size (w := w) (g := g) (row := none) (by exact jK HK.out)) (fun k_ h_ => h_)) (keep_size (w := w) (g := g) (row := none) (by exact jK HK.out))); replace HK := aM (kt HK.out hk); replace HB := aM (hb); replace HI0 := aM (hi); (try clear hb hk hi); (try clear ho0); (try clear ho1); (try clear ho2)) | ((with_reducible refine gate_dst (N := 5) rfl ?_); refine bx 5 #[.int .i64 0, .slice none 0 0, .slice none 0 0, .slice none 0 0] 26 ?_; intro gb562 hg w100 hbox hb; replace HO554 := aM (Kd.N_below (Kd.N_elderB (by exact lN <| HO554.out) gb562 (Nat.le_of_eq hg.symm)) hb); replace HO557 := aM (rb HO557.out hb); replace HO560 := aM (rb HO560.out hb); replace HB := aM (bj HB.out hb); have BK562 := aM (hbox); have GW562 := aM ((gk hg HK.out)); have IGW562 : Nonempty _ := ⟨GW562.out⟩; have GE562 := aM ((Nat.le_trans HW0.out (gk hg HK.out) : w0.heap.size ≤ gb562)); have IGE562 : Nonempty _ := ⟨GE562.out⟩; replace HK := aM (kbl HK.out hb); have NB550_562 := aM ((neL hg (lK BK550.out) : gb550 ≠ gb562)); have NB562_550 := aM ((neG hg (lK BK550.out) : gb562 ≠ gb550)); replace BK550 := aM (bb BK550.out hb); have NB0_562 := aM ((by rw [hg]; exact Nat.ne_of_lt (IsS69.lt (show IsS69 w0 _ g s0_0 t561 from by exact IsS69.j HI0.out)) : g ≠ gb562)); have INB0_562 : Nonempty _ := ⟨NB0_562.out⟩; have NB562_0 := aM ((by rw [hg]; exact Nat.ne_of_gt (IsS69.lt (show IsS69 w0 _ g s0_0 t561 from by exact IsS69.j HI0.out)) : gb562 ≠ g)); replace HI0 := aM (IsS69.below (by exact IsS69.j HI0.out) hb); clear hb hbox hg; have hnb101 := NB562_550.out; have hnc101 := NB550_562.out; have hnb102 := NB562_0.out; have hnc102 := NB0_562.out; have hcz103_0 : w100.cell? ⟨gb562, 0, none⟩ = some (.int .i64 0) := (blk_cell BK562.out 0).trans rfl; have hcz103_1 : w100.cell? ⟨gb562, 1, none⟩ = some (.slice none 0 0) := (blk_cell BK562.out 1).trans rfl; have hcz103_2 : w100.cell? ⟨gb562, 2, none⟩ = some (.slice none 0 0) := (blk_cell BK562.out 2).trans rfl; have hcz103_3 : w100.cell? ⟨gb562, 3, none⟩ = some (.slice none 0 0) := (blk_cell BK562.out 3).trans rfl; have hfz103_0 := blk_frozen BK562.out 0; have hfz103_1 := blk_frozen BK562.out 1; have hfz103_2 := blk_frozen BK562.out 2; have hfz103_3 := blk_frozen BK562.out 3; obtain ⟨Ao104, co104, eo104⟩ := Kd.N_slice HO554.out; subst eo104; obtain ⟨Ao105, co105, eo105⟩ := Kd.R_slice HO557.out; subst eo105; obtain ⟨Ao106, co106, eo106⟩ := Kd.R_slice HO560.out; subst eo106) | ((with_reducible refine gate_callee (f := 20) rfl ?_); refine gL (some 10) Try.func20 #[.pointer (some ⟨g, 0, none⟩), .int .i64 a1] ?_; (with_reducible refine (spec_l20Rd_pick.calls k g s0_0 t561 a1 t563 t564 w0 _ ?side1 ?side2 A4.out).mono ?_); (case side1 => exact IsS69.j HI0.out); (case side2 => exact jB HB.out); rintro e w107 ⟨rfl, hi, hb, hk⟩; refine ⟨_, rfl, ?_⟩; replace BK550 := aM (KeepBut.blk hk (g' := gb550) (o := .cells #[.int .i64 0, .slice none 0 0, .slice none 0 0, .slice none 0 0] 26 (0, 0)) (by exact f4 (lK BK550.out) NB550_562.out) NB550_0.out (by simp)); replace HO554 := aM (Kd.N_mono (Kd.N_keep (Kd.N_mono (ok := fun k_ => ((((w.heap.size ≤ k_)) ∧ (some k_ ≠ ownBlock (.slice Ao105 t555.length co105) ∧ (some k_ ≠ ownBlock (.slice Ao106 t558.length co106) ∧ (k_ ≠ gb550 ∧ k_ ≠ g)))) ∧ k_ ≠ gb562)) (by exact lN <| (Kd.N_mono (Kd.N_far (p := ⟨gb562, 3, none⟩) (Kd.N_far (p := ⟨gb562, 2, none⟩) (Kd.N_far (p := ⟨gb562, 1, none⟩) (Kd.N_far (p := ⟨gb562, 0, none⟩) (Kd.N_mono HO554.out (fun k_ hk => (⟨hk, hk.2⟩ : _ ∧ k_ ≠ gb562))) (fun _ hk => hk.2) (.int .i64 t551)) (fun _ hk => hk.2) (.slice Ao104 t552.length co104)) (fun _ hk => hk.2) (.slice Ao105 t555.length co105)) (fun _ hk => hk.2) (.slice Ao106 t558.length co106)) (fun _ h_ => h_.1))) (fun k_ hk_ => (⟨hk_, hk_.1.2.2.2.2⟩ : _ ∧ k_ ≠ g))) hk (fun _ h => h.2)) (fun _ h => h.1)); replace HO557 := aM (Kd.R_mono (Kd.R_keep (IsS69.apart (show IsS69 w0 _ g s0_0 t561 from by exact IsS69.j HI0.out) (qp (R4 HO557.out BK562.out)) (by decide)) hk (fun _ h => h.2)) (fun _ h => h.1)); replace HO560 := aM (Kd.R_mono (Kd.R_keep (IsS69.apart (show IsS69 w0 _ g s0_0 t561 from by exact IsS69.j HI0.out) (qp (R4 HO560.out BK562.out)) (by decide)) hk (fun _ h => h.2)) (fun _ h => h.1)); replace BK562 := aM (KeepBut.blk hk (g' := gb562) (o := .cells #[.int .i64 t551, .slice Ao104 t552.length co104, .slice Ao105 t555.length co105, .slice Ao106 t558.length co106] 26 (0, 0)) (by exact p4 (lK BK562.out)) NB562_0.out (by simp)); replace HK := aM (kt HK.out hk); replace HB := aM (hb); replace HI0 := aM (hi); (try clear hb hk hi)) | ((with_reducible refine gate_callee (f := 20) rfl ?_); refine gL (some 14) Try.func20 #[.pointer (some ⟨g, 0, none⟩), .int .i64 5] ?_; (with_reducible refine (spec_l20Rd_pick.calls k g s0_0 t564 5 t565 t566 w0 _ ?side1 ?side2 A19.out).mono ?_); (case side1 => exact IsS69.j HI0.out); (case side2 => exact jB HB.out); rintro e w108 ⟨rfl, hi, hb, hk⟩; refine ⟨_, rfl, ?_⟩; replace BK550 := aM (kb hk BK550.out NB550_0.out); replace HO554 := aM (Kd.N_mono (Kd.N_keep (Kd.N_mono (ok := fun k_ => ((((w.heap.size ≤ k_)) ∧ (some k_ ≠ ownBlock (.slice Ao105 t555.length co105) ∧ (some k_ ≠ ownBlock (.slice Ao106 t558.length co106) ∧ (k_ ≠ gb550 ∧ k_ ≠ g)))) ∧ k_ ≠ gb562)) (by exact lN <| HO554.out) (fun k_ hk_ => (⟨hk_, hk_.1.2.2.2.2⟩ : _ ∧ k_ ≠ g))) hk (fun _ h => h.2)) (fun _ h => h.1)); replace HO557 := aM (IsS69.kp (f1 := t564) (by exact IsS69.j HI0.out) (lR HO557.out) hk); replace HO560 := aM (IsS69.kp (f1 := t564) (by exact IsS69.j HI0.out) (lR HO560.out) hk); replace BK562 := aM (kb hk BK562.out NB562_0.out); replace HK := aM (kt HK.out hk); replace HB := aM (hb); replace HI0 := aM (hi); (try clear hb hk hi)))
         have pi594 : (0 ≤ (t592 : Int)) = True := eq_true (of_decide_eq_true (by first | (with_reducible assumption) | assumption))
         have qi594 : (t592 < (y589.length : Int)) = True := eq_true (of_decide_eq_true (by first | (with_reducible assumption) | assumption))
         replace HO554 := aM (Kd.N_drew HO554.out)
         replace HO557 := aM (Kd.R_drew HO557.out)
         replace HO560 := aM (Kd.R_drew HO560.out)
         replace BK550 := aM (blk_drew BK550.out)
         replace BK562 := aM (blk_drew BK562.out)
         replace HI0 := aM (IsS69.drew HI0.out)
         replace HK := aM (keep_drew HK.out)
         replace HB := aM (below_drew1 HB.out)
         refine start_ (n := 9) (S := fun w' => w'.cell? ⟨gb562, 0, none⟩ = some (.int .i64 t551) ∧ w'.cell? ⟨gb562, 1, none⟩ = some (.slice Ao104 t552.length co104) ∧ w'.cell? ⟨gb562, 2, none⟩ = some (.slice Ao105 t555.length co105) ∧ w'.cell? ⟨gb562, 3, none⟩ = some (.slice Ao106 t558.length co106)) (ds := [8]) #[false, false, false, false, false, false, false, false, false] (by kernel_rfl) rfl rfl ⟨(blk_cell BK562.out 0).trans rfl, (blk_cell BK562.out 1).trans rfl, (blk_cell BK562.out 2).trans rfl, (blk_cell BK562.out 3).trans rfl⟩ (fun hHeld => ?_); refine with_tabW spec_l21AnyPlan.tab13 spec_l21AnyPlan.bits13 (fun HT_ HW_ => ?_)
         generalize w108.drew = w109 at HO554 HO557 HO560 BK550 BK562 HI0 HK HB hHeld ⊢
         refine pure_ (i := 0) (N := some 46) (v := ?_) (a' := ?_) #[true, false, false, false, false, false, false, false, false] rfl rfl (any_of HT_.out (by kernel_rfl)) (fun _ _ _ h => h) (Or.inl ⟨by rfl, ?_⟩) ?_ ?_
         rotate_left
         ·intro w'
          go_simp
          with_reducible rfl
         rotate_left
         ·simp only [Act.put, sA, s0, sS, i64_w, i32_w]
          rfl
         refine pure_ (i := 3) (N := some 49) (v := ?_) (a' := ?_) #[true, false, false, true, false, false, false, false, false] rfl rfl (any_of HT_.out (by kernel_rfl)) (fun _ _ _ h => h) (Or.inl ⟨by rfl, ?_⟩) ?_ ?_
         rotate_left
         ·intro w'
          go_simp
          with_reducible rfl
         rotate_left
         ·simp only [Act.put, sA, s0, sS, i64_w, i32_w]
          rfl
         refine take_ (i := 1) (N := some 47) (v := ?_) (a' := ?_) #[true, true, false, true, false, false, false, false, false] rfl rfl (take_ofW HT_.out HW_.out (by kernel_rfl)) (fun _ _ _ h => h) (Or.inl ⟨by rfl, ?_⟩) hHeld ?_ ?_
         rotate_left
         ·rintro w' ⟨s0, s1, s2, s3⟩
          go_simp
          with_reducible rfl
         rotate_left
         ·simp only [Act.put, sA, s0, sS, i64_w, i32_w]
          rfl
         refine join_ (σ := Value × Addr) 4 #[true, true, true, true, true, false, false, false, false] (fun s_ => [(48, s_.1), (50, .int .i64 t592)]) (fun s_ w' => (w'.cell? ⟨gb562, 0, none⟩ = some (.int .i64 t551) ∧ w'.cell? ⟨gb562, 1, none⟩ = some (.slice Ao104 t552.length co104) ∧ w'.cell? ⟨gb562, 2, none⟩ = some (.slice Ao105 t555.length co105) ∧ w'.cell? ⟨gb562, 3, none⟩ = some (.slice Ao106 t558.length co106)) ∧ (Kd.N (Kd.slice 45 k45) 33 w' w.heap.size (fun k_ => (w.heap.size ≤ k_) ∧ some k_ ≠ ownBlock (.slice Ao105 t555.length co105) ∧ some k_ ≠ ownBlock (.slice Ao106 t558.length co106) ∧ some k_ ≠ (s_.1 : Value).ownBlock ∧ k_ ≠ g ∧ k_ ≠ gb550 ∧ k_ ≠ gb562) (.slice Ao104 t552.length co104) t552) ∧ (Kd.R (Kd.int .i64) 3 w' w.heap.size (fun k_ => (w.heap.size ≤ k_) ∧ some k_ ≠ ownBlock (.slice Ao106 t558.length co106) ∧ some k_ ≠ (s_.1 : Value).ownBlock) (.slice Ao105 t555.length co105) t555) ∧ (Kd.R (Kd.int .i64) 3 w' w.heap.size (fun k_ => (w.heap.size ≤ k_) ∧ some k_ ≠ ownBlock (.slice Ao105 t555.length co105) ∧ some k_ ≠ (s_.1 : Value).ownBlock) (.slice Ao106 t558.length co106) t558) ∧ (Kd.R (Kd.int .i64) 3 w' w.heap.size (fun k_ => (w.heap.size ≤ k_) ∧ some k_ ≠ ownBlock (.slice Ao105 t555.length co105) ∧ some k_ ≠ ownBlock (.slice Ao106 t558.length co106)) s_.1 y589) ∧ (∃ c_, (s_.1 : Value) = .slice (some s_.2) y589.length c_) ∧ (w'.heap[gb550]? = some (.cells #[.int .i64 0, .slice none 0 0, .slice none 0 0, .slice none 0 0] 26 (0, 0))) ∧ (w'.heap[gb562]? = some (.cells #[.int .i64 t551, .slice Ao104 t552.length co104, .slice Ao105 t555.length co105, .slice Ao106 t558.length co106] 26 (0, 0))) ∧ (IsS69 w0 w' g s0_0 t593) ∧ (KeepBut w w' g none) ∧ (Below w0.heap.size w0 w')) ?_ ?_
         rotate_left
         ·intro hCont
          refine two_ (i := 2) (j := 4) (Ni := some 48) (Nj := some 50) #[true, true, true, true, false, false, false, false, false] #[true, true, false, true, true, false, false, false, false] rfl rfl rfl rfl (two_of HT_.out (by kernel_rfl)) (by decide) (by decide) (fun K hK => ?_) (fun K hK => ?_)
          ·skip
           refine Kd.R_lit_step (Kd.int .i64) _ 3 ?hg (N := 48) ?hd (xs := ([1001, (-1000), 1000] : List Int)) (inner := [.int .i64 1001, .int .i64 (-1000), .int .i64 1000]) (ok := fun _ => True) (okp := fun _ => True) ?hr ?hp (fun _ hk => hk) trivial (Below.refl _ _) (Nat.le_refl _) (by simp) ?_; (case hd => rfl); (case hg => rfl); (case hr => first | (go_simp; done) | (go_simp; rfl)); (case hp => exact (Reps.one (show Kd.M (Kd.int .i64) _ _ _ 1001 [.int .i64 1001] from rfl) (Reps.one (show Kd.M (Kd.int .i64) _ _ _ (-1000) [.int .i64 (-1000)] from rfl) (Reps.one (show Kd.M (Kd.int .i64) _ _ _ 1000 [.int .i64 1000] from rfl) (Reps.none _ _)))))
           intro v590 w110 ho111 hb hg_ hnew_
           clear hg_ hnew_
           (first | rw [← Ny589.out] at ho111 | (simp only [Int.reduceToNat] at ho111; rw [← Ny589.out] at ho111))
           replace HO554 := aM (Kd.N_elder' (by exact lN <| HO554.out) (Kd.R_base ho111) hb)
           have HO591 := aM (Kd.R_lower (Kd.R_new' (Kd.R_new' (Kd.R_newM (M := fun k_ => (w.heap.size ≤ k_)) ho111 (keep_size (w := w) (g := g) (row := none) (by exact jK HK.out)) (fun k_ h_ => h_)) (rl HO557.out)) (rl HO560.out)) (keep_size (w := w) (g := g) (row := none) (by exact jK HK.out)))
           replace HO557 := aM (Kd.R_elder' (by exact lR HO557.out) (Kd.R_base ho111) hb)
           replace HO560 := aM (Kd.R_elder' (by exact lR HO560.out) (Kd.R_base ho111) hb)
           replace HI0 := aM (IsS69.below (by exact IsS69.j HI0.out) hb)
           replace BK550 := aM (bb BK550.out hb)
           replace BK562 := aM (bb BK562.out hb)
           replace HK := aM (kbl HK.out hb)
           replace HB := aM (bj HB.out hb)
           clear hb ho111
           obtain ⟨Ao112, co112, eo112⟩ := Kd.R_slice HO591.out
           subst eo112
           obtain ⟨ado112, fo112, _⟩ := Kd.at_int (Kd.R_reads' HO591.out).2.2 0 (by decide) (by rw [Ny589.out]; simp)
           cases fo112
           refine hK.out _ _ ⟨(blk_cell BK562.out 0).trans rfl, (blk_cell BK562.out 1).trans rfl, (blk_cell BK562.out 2).trans rfl, (blk_cell BK562.out 3).trans rfl⟩ (fun hHeld => ?_)
           clear hK K
           refine norm_ (a' := ?_) ?_ ?_
           rotate_left
           ·show Act.put _ (some 48) _ = _
            simp only [Act.put, sA, s0, sS, i64_w, i32_w]
            rfl
           refine one_ (i := 4) (N := some 50) #[true, true, true, true, true, false, false, false, false] rfl rfl (one_of HT_.out (by kernel_rfl)) (by decide) (fun K hK => ?_)
           refine goes_ Try.func20 (by kernel_rfl) rfl #[.pointer (some ⟨g, 0, none⟩), .int .i64 3] (by rfl) rfl rfl (by (try simp only [mA, mC, mN]); first | done | rfl | (simp only [ld, lt]; rfl)) ?_
           with_reducible refine (spec_l20Rd_pick.calls k g s0_0 t566 3 t592 t593 w0 _ ?side1 ?side2 A93.out).mono ?_
           (case side1 => exact IsS69.j HI0.out)
           (case side2 => exact jB HB.out)
           rintro e w113 ⟨rfl, hi, hb, hk⟩
           refine ⟨_, rfl, ?_⟩
           replace BK550 := aM (kb hk BK550.out NB550_0.out)
           replace HO554 := aM (Kd.N_mono (Kd.N_keep (Kd.N_mono (ok := fun k_ => (((((w.heap.size ≤ k_)) ∧ (some k_ ≠ ownBlock (.slice Ao105 t555.length co105) ∧ (some k_ ≠ ownBlock (.slice Ao106 t558.length co106) ∧ (k_ ≠ gb550 ∧ k_ ≠ g)))) ∧ k_ ≠ gb562) ∧ some k_ ≠ ownBlock (.slice (some ado112) y589.length co112))) (by exact lN <| HO554.out) (fun k_ hk_ => (⟨hk_, hk_.1.1.2.2.2.2⟩ : _ ∧ k_ ≠ g))) hk (fun _ h => h.2)) (fun _ h => h.1))
           replace HO557 := aM (IsS69.kp (f1 := t566) (by exact IsS69.j HI0.out) (lR HO557.out) hk)
           replace HO560 := aM (IsS69.kp (f1 := t566) (by exact IsS69.j HI0.out) (lR HO560.out) hk)
           replace BK562 := aM (kb hk BK562.out NB562_0.out)
           replace HO591 := aM (IsS69.kp (f1 := t566) (by exact IsS69.j HI0.out) (lR HO591.out) hk)
           replace HK := aM (kt HK.out hk)
           replace HB := aM (hb)
           replace HI0 := aM (hi)
           (try clear hb)
           (try clear hb2)
           (try clear hk)
           (try clear hi)
           refine hK.out _ _ ⟨(blk_cell BK562.out 0).trans rfl, (blk_cell BK562.out 1).trans rfl, (blk_cell BK562.out 2).trans rfl, (blk_cell BK562.out 3).trans rfl⟩ (fun hHeld => ?_)
           clear hK K
           refine norm_ (a' := ?_) ?_ ?_
           rotate_left
           ·show Act.put _ (some 50) _ = _
            simp only [Act.put, sA, s0, sS, i64_w, i32_w]
            rfl
           exact norm_ (by simp only [putAll, Act.put, List.setIfInBounds_toArray, List.set_cons_zero, List.set_cons_succ]) (hCont (.slice (some ado112) y589.length co112, ado112) _ ⟨hHeld, (by exact lN <| Kd.N_mono HO554.out (fun _ hk => ⟨hk.1.1.1, ⟨hk.1.1.2.1, ⟨hk.1.1.2.2.1, ⟨hk.2, ⟨hk.1.1.2.2.2.2, ⟨hk.1.1.2.2.2.1, hk.1.2⟩⟩⟩⟩⟩⟩)), (by exact lR <| Kd.R_mono HO557.out (fun _ hk => ⟨hk.1.1, ⟨hk.1.2, hk.2⟩⟩)), (by exact lR <| Kd.R_mono HO560.out (fun _ hk => ⟨hk.1.1, ⟨hk.1.2, hk.2⟩⟩)), (by exact lR <| Kd.R_mono HO591.out (fun _ hk => ⟨hk.1.1.1, ⟨hk.1.2, hk.2⟩⟩)), ⟨_, rfl⟩, (by exact lK BK550.out), (by exact lK BK562.out), (by exact IsS69.j HI0.out), (by exact jK HK.out), (by exact jB HB.out)⟩)
          ·skip
           refine goes_ Try.func20 (by kernel_rfl) rfl #[.pointer (some ⟨g, 0, none⟩), .int .i64 3] (by rfl) rfl rfl (by (try simp only [mA, mC, mN]); first | done | rfl | (simp only [ld, lt]; rfl)) ?_
           with_reducible refine (spec_l20Rd_pick.calls k g s0_0 t566 3 t592 t593 w0 _ ?side1 ?side2 A93.out).mono ?_
           (case side1 => exact IsS69.j HI0.out)
           (case side2 => exact jB HB.out)
           rintro e w110 ⟨rfl, hi, hb, hk⟩
           refine ⟨_, rfl, ?_⟩
           replace BK550 := aM (kb hk BK550.out NB550_0.out)
           replace HO554 := aM (Kd.N_mono (Kd.N_keep (Kd.N_mono (ok := fun k_ => ((((w.heap.size ≤ k_)) ∧ (some k_ ≠ ownBlock (.slice Ao105 t555.length co105) ∧ (some k_ ≠ ownBlock (.slice Ao106 t558.length co106) ∧ (k_ ≠ gb550 ∧ k_ ≠ g)))) ∧ k_ ≠ gb562)) (by exact lN <| HO554.out) (fun k_ hk_ => (⟨hk_, hk_.1.2.2.2.2⟩ : _ ∧ k_ ≠ g))) hk (fun _ h => h.2)) (fun _ h => h.1))
           replace HO557 := aM (IsS69.kp (f1 := t566) (by exact IsS69.j HI0.out) (lR HO557.out) hk)
           replace HO560 := aM (IsS69.kp (f1 := t566) (by exact IsS69.j HI0.out) (lR HO560.out) hk)
           replace BK562 := aM (kb hk BK562.out NB562_0.out)
           replace HK := aM (kt HK.out hk)
           replace HB := aM (hb)
           replace HI0 := aM (hi)
           (try clear hb)
           (try clear hb2)
           (try clear hk)
           (try clear hi)
           refine hK.out _ _ ⟨(blk_cell BK562.out 0).trans rfl, (blk_cell BK562.out 1).trans rfl, (blk_cell BK562.out 2).trans rfl, (blk_cell BK562.out 3).trans rfl⟩ (fun hHeld => ?_)
           clear hK K
           refine norm_ (a' := ?_) ?_ ?_
           rotate_left
           ·show Act.put _ (some 50) _ = _
            simp only [Act.put, sA, s0, sS, i64_w, i32_w]
            rfl
           refine one_ (i := 2) (N := some 48) #[true, true, true, true, true, false, false, false, false] rfl rfl (one_of HT_.out (by kernel_rfl)) (by decide) (fun K hK => ?_)
           refine Kd.R_lit_step (Kd.int .i64) _ 3 ?hg (N := 48) ?hd (xs := ([1001, (-1000), 1000] : List Int)) (inner := [.int .i64 1001, .int .i64 (-1000), .int .i64 1000]) (ok := fun _ => True) (okp := fun _ => True) ?hr ?hp (fun _ hk => hk) trivial (Below.refl _ _) (Nat.le_refl _) (by simp) ?_; (case hd => rfl); (case hg => rfl); (case hr => first | (go_simp; done) | (go_simp; rfl)); (case hp => exact (Reps.one (show Kd.M (Kd.int .i64) _ _ _ 1001 [.int .i64 1001] from rfl) (Reps.one (show Kd.M (Kd.int .i64) _ _ _ (-1000) [.int .i64 (-1000)] from rfl) (Reps.one (show Kd.M (Kd.int .i64) _ _ _ 1000 [.int .i64 1000] from rfl) (Reps.none _ _)))))
           intro v590 w111 ho112 hb hg_ hnew_
           clear hg_ hnew_
           (first | rw [← Ny589.out] at ho112 | (simp only [Int.reduceToNat] at ho112; rw [← Ny589.out] at ho112))
           replace HO554 := aM (Kd.N_elder' (by exact lN <| HO554.out) (Kd.R_base ho112) hb)
           have HO591 := aM (Kd.R_lower (Kd.R_new' (Kd.R_new' (Kd.R_newM (M := fun k_ => (w.heap.size ≤ k_)) ho112 (keep_size (w := w) (g := g) (row := none) (by exact jK HK.out)) (fun k_ h_ => h_)) (rl HO557.out)) (rl HO560.out)) (keep_size (w := w) (g := g) (row := none) (by exact jK HK.out)))
           replace HO557 := aM (Kd.R_elder' (by exact lR HO557.out) (Kd.R_base ho112) hb)
           replace HO560 := aM (Kd.R_elder' (by exact lR HO560.out) (Kd.R_base ho112) hb)
           replace HI0 := aM (IsS69.below (by exact IsS69.j HI0.out) hb)
           replace BK550 := aM (bb BK550.out hb)
           replace BK562 := aM (bb BK562.out hb)
           replace HK := aM (kbl HK.out hb)
           replace HB := aM (bj HB.out hb)
           clear hb ho112
           obtain ⟨Ao113, co113, eo113⟩ := Kd.R_slice HO591.out
           subst eo113
           obtain ⟨ado113, fo113, _⟩ := Kd.at_int (Kd.R_reads' HO591.out).2.2 0 (by decide) (by rw [Ny589.out]; simp)
           cases fo113
           refine hK.out _ _ ⟨(blk_cell BK562.out 0).trans rfl, (blk_cell BK562.out 1).trans rfl, (blk_cell BK562.out 2).trans rfl, (blk_cell BK562.out 3).trans rfl⟩ (fun hHeld => ?_)
           clear hK K
           refine norm_ (a' := ?_) ?_ ?_
           rotate_left
           ·show Act.put _ (some 48) _ = _
            simp only [Act.put, sA, s0, sS, i64_w, i32_w]
            rfl
           exact norm_ (by simp only [putAll, Act.put, List.setIfInBounds_toArray, List.set_cons_zero, List.set_cons_succ]) (hCont (.slice (some ado113) y589.length co113, ado113) _ ⟨hHeld, (by exact lN <| Kd.N_mono HO554.out (fun _ hk => ⟨hk.1.1.1, ⟨hk.1.1.2.1, ⟨hk.1.1.2.2.1, ⟨hk.2, ⟨hk.1.1.2.2.2.2, ⟨hk.1.1.2.2.2.1, hk.1.2⟩⟩⟩⟩⟩⟩)), (by exact lR <| Kd.R_mono HO557.out (fun _ hk => ⟨hk.1.1, ⟨hk.1.2, hk.2⟩⟩)), (by exact lR <| Kd.R_mono HO560.out (fun _ hk => ⟨hk.1.1, ⟨hk.1.2, hk.2⟩⟩)), (by exact lR <| Kd.R_mono HO591.out (fun _ hk => ⟨hk.1.1.1, ⟨hk.1.2, hk.2⟩⟩)), ⟨_, rfl⟩, (by exact lK BK550.out), (by exact lK BK562.out), (by exact IsS69.j HI0.out), (by exact jK HK.out), (by exact jB HB.out)⟩)
         rintro ⟨v590, adz_v590⟩ w114 ⟨hS_, h0_, h1_, h2_, h3_, h4_, h5_, h6_, h7_, h8_, h9_⟩
         replace HO554 : Aside0 (Kd.N (Kd.slice 45 k45) 33 w114 w.heap.size (fun k_ => (w.heap.size ≤ k_) ∧ some k_ ≠ ownBlock (.slice Ao105 t555.length co105) ∧ some k_ ≠ ownBlock (.slice Ao106 t558.length co106) ∧ some k_ ≠ v590.ownBlock ∧ k_ ≠ g ∧ k_ ≠ gb550 ∧ k_ ≠ gb562) (.slice Ao104 t552.length co104) t552) := ⟨h0_⟩
         replace HO557 : Aside0 (Kd.R (Kd.int .i64) 3 w114 w.heap.size (fun k_ => (w.heap.size ≤ k_) ∧ some k_ ≠ ownBlock (.slice Ao106 t558.length co106) ∧ some k_ ≠ v590.ownBlock) (.slice Ao105 t555.length co105) t555) := ⟨h1_⟩
         replace HO560 : Aside0 (Kd.R (Kd.int .i64) 3 w114 w.heap.size (fun k_ => (w.heap.size ≤ k_) ∧ some k_ ≠ ownBlock (.slice Ao105 t555.length co105) ∧ some k_ ≠ v590.ownBlock) (.slice Ao106 t558.length co106) t558) := ⟨h2_⟩
         have HO591 : Aside0 (Kd.R (Kd.int .i64) 3 w114 w.heap.size (fun k_ => (w.heap.size ≤ k_) ∧ some k_ ≠ ownBlock (.slice Ao105 t555.length co105) ∧ some k_ ≠ ownBlock (.slice Ao106 t558.length co106)) v590 y589) := ⟨h3_⟩
         have HA_HO591 : Aside0 (∃ c_, (v590 : Value) = .slice (some adz_v590) y589.length c_) := ⟨h4_⟩
         replace BK550 : Aside0 (w114.heap[gb550]? = some (.cells #[.int .i64 0, .slice none 0 0, .slice none 0 0, .slice none 0 0] 26 (0, 0))) := ⟨h5_⟩
         replace BK562 : Aside0 (w114.heap[gb562]? = some (.cells #[.int .i64 t551, .slice Ao104 t552.length co104, .slice Ao105 t555.length co105, .slice Ao106 t558.length co106] 26 (0, 0))) := ⟨h6_⟩
         replace HI0 : Aside0 (IsS69 w0 w114 g s0_0 t593) := ⟨h7_⟩
         replace HK : Aside0 (KeepBut w w114 g none) := ⟨h8_⟩
         replace HB : Aside0 (Below w0.heap.size w0 w114) := ⟨h9_⟩
         clear h0_ h1_ h2_ h3_ h4_ h5_ h6_ h7_ h8_ h9_
         have hHeld : w114.cell? ⟨gb562, 0, none⟩ = some (.int .i64 t551) ∧ w114.cell? ⟨gb562, 1, none⟩ = some (.slice Ao104 t552.length co104) ∧ w114.cell? ⟨gb562, 2, none⟩ = some (.slice Ao105 t555.length co105) ∧ w114.cell? ⟨gb562, 3, none⟩ = some (.slice Ao106 t558.length co106) := hS_
         obtain ⟨co115, eo115⟩ := HA_HO591.out
         clear HA_HO591
         subst eo115
         have p97 : 0 ≤ (0 : Int) := (by omega)
         have q97 : (0 : Int) < ((t558.length : Int) : Int) := of_decide_eq_true (by first | (with_reducible assumption) | assumption)
         have qi97 : (0 < t558.length) = True := eq_true (by omega)
         obtain ⟨go97, co97, eo97, gb97, gl97, cl97, HG97⟩ := Kd.R_form HO560.out (by omega)
         (first | cases eo97 | (injection eo97 with ea_ en_ ec_; (first | subst ea_ | (injection ea_ with ea_; subst ea_)); subst ec_; clear en_))
         have GB97 := aM gb97
         have IGB97 : Nonempty _ := ⟨GB97.out⟩
         have GG97 := aM HG97
         clear gb97 gl97 HG97
         obtain ⟨hx97_0, hf97_0⟩ := Kd.R_celln 0 HO560.out (0 : Int) p97 q97
         (try rw [show ((0 : Int)).toNat = 0 from rfl] at hx97_0)
         (try simp only [Nat.reduceMul, Nat.zero_mul, Nat.zero_add, Nat.reduceAdd] at hx97_0)
         (try rw [show ((0 : Int)).toNat = 0 from rfl] at hf97_0)
         (try simp only [Nat.reduceMul, Nat.zero_mul, Nat.zero_add, Nat.reduceAdd] at hf97_0)
         replace p97 := eq_true p97
         replace q97 := eq_true q97
         have HN0_go97 := aM (show g ≠ go97 from by have h_ := IsS69.own_ne HI0.out HO560.out (by decide); intro e_; exact h_ (by rw [e_]; rfl))
         have IHN0_go97 : Nonempty _ := ⟨HN0_go97.out⟩
         have HP116 := Kd.R_putn HO560.out (0 : Int) (rd y589 t592)
         rw [← Ny595.out] at HP116
         have HQ116 := aM HP116
         clear HP116
         refine norm_ (a' := ?_) ?_ ?_
         rotate_left
         ·simp only [putAll, Act.put, List.setIfInBounds_toArray, List.set_cons_zero, List.set_cons_succ]
          rfl
         refine pure_ (i := 5) (N := some 51) (v := ?_) (a' := ?_) #[true, true, true, true, true, true, false, false, false] rfl rfl (any_of HT_.out (by kernel_rfl)) (fun _ _ _ h => h) (Or.inl ⟨by rfl, ?_⟩) ?_ ?_
         rotate_left
         ·intro w'
          go_simp
          with_reducible rfl
         rotate_left
         ·simp only [Act.put, sA, s0, sS, i64_w, i32_w]
          rfl
         refine one_ (i := 6) (N := some 52) #[true, true, true, true, true, true, true, false, false] rfl rfl (one_of HT_.out (by kernel_rfl)) (by decide) (fun K hK => ?_)
         (have p594 : 0 ≤ (t592 : Int) := of_decide_eq_true (by first | (with_reducible assumption) | assumption); have q594 : t592 < (y589.length : Int) := of_decide_eq_true (by first | (with_reducible assumption) | assumption); obtain ⟨ad594, e594, hx594_0⟩ := Kd.at_int (Kd.R_reads' HO591.out).2.2 t592 p594 q594; obtain rfl : adz_v590 = ad594 := (by injection e594))
         refine value_ (w1 := ?_) (v := ?_) (by rfl) rfl ?_ ?_
         rotate_left 2
         ·go_simp
          constructor
          ·rfl
          ·rfl
         clear hx594_0
         refine hK.out _ _ ⟨(blk_cell BK562.out 0).trans rfl, (blk_cell BK562.out 1).trans rfl, (blk_cell BK562.out 2).trans rfl, (blk_cell BK562.out 3).trans rfl⟩ (fun hHeld => ?_)
         clear hK K
         refine norm_ (a' := ?_) ?_ ?_
         rotate_left
         ·show Act.put _ (some 52) _ = _
          simp only [Act.put, sA, s0, sS, i64_w, i32_w]
          rfl
         refine pure_ (i := 7) (N := some 53) (v := ?_) (a' := ?_) #[true, true, true, true, true, true, true, true, false] rfl rfl (any_of HT_.out (by kernel_rfl)) (fun _ _ _ h => h) (Or.inl ⟨by rfl, ?_⟩) ?_ ?_
         rotate_left
         ·intro w'
          go_simp
          with_reducible rfl
         rotate_left
         ·simp only [Act.put, sA, s0, sS, i64_w, i32_w]
          rfl
         refine last_ (i := 8) (N := none) #[true, true, true, true, true, true, true, true, true] rfl rfl (one_of HT_.out (by kernel_rfl)) (by decide) (fun K hK => ?_)
         refine skip_ (w1 := ?_) (by rfl) rfl ?_ ?_
         rotate_left
         ·go_simp
          rfl
         refine hK.out _ _ ?_
         clear hK K
         refine done_ (done_of HT_.out (by kernel_rfl)) ?_
         have n0_ : Aside0 (Kd.N (Kd.slice 45 k45) 33 (w114.setCell ⟨go97, 0, none⟩ (.int .i64 (rd y589 t592))) w.heap.size (fun k_ => (w.heap.size ≤ k_) ∧ some k_ ≠ ownBlock (.slice Ao105 t555.length co105) ∧ some k_ ≠ ownBlock (.slice (some ⟨go97, 0, none⟩) t558.length co106) ∧ some k_ ≠ ownBlock (.slice (some adz_v590) y589.length co115) ∧ k_ ≠ g ∧ k_ ≠ gb550 ∧ k_ ≠ gb562) (.slice Ao104 t552.length co104) t552) := ⟨by exact lN <| Kd.N_mono (Kd.N_far (p := ⟨go97, 0, none⟩) (Kd.N_mono HO554.out (fun k_ hk => (⟨hk, fun e_ => hk.2.2.1 (by rw [e_]; rfl)⟩ : _ ∧ k_ ≠ go97))) (fun _ hk => hk.2) (.int .i64 (rd y589 t592))) (fun _ hk => ⟨hk.1.1, ⟨hk.1.2.1, ⟨hk.1.2.2.1, ⟨hk.1.2.2.2.1, ⟨hk.1.2.2.2.2.1, ⟨hk.1.2.2.2.2.2.1, hk.1.2.2.2.2.2.2⟩⟩⟩⟩⟩⟩)⟩
         have n1_ : Aside0 (Kd.R (Kd.int .i64) 3 (w114.setCell ⟨go97, 0, none⟩ (.int .i64 (rd y589 t592))) w.heap.size (fun k_ => (w.heap.size ≤ k_) ∧ some k_ ≠ ownBlock (.slice (some ⟨go97, 0, none⟩) t558.length co106) ∧ some k_ ≠ ownBlock (.slice (some adz_v590) y589.length co115)) (.slice Ao105 t555.length co105) t555) := ⟨by exact lR <| Kd.R_mono (Kd.R_far (p := ⟨go97, 0, none⟩) (Kd.R_mono HO557.out (fun k_ hk => (⟨hk, fun e_ => hk.2.1 (by rw [e_]; rfl)⟩ : _ ∧ k_ ≠ go97))) (fun _ hk => hk.2) (.int .i64 (rd y589 t592))) (fun _ hk => ⟨hk.1.1, ⟨hk.1.2.1, hk.1.2.2⟩⟩)⟩
         have n2_ : Aside0 (Kd.R (Kd.int .i64) 3 (w114.setCell ⟨go97, 0, none⟩ (.int .i64 (rd y589 t592))) w.heap.size (fun k_ => (w.heap.size ≤ k_) ∧ some k_ ≠ ownBlock (.slice Ao105 t555.length co105) ∧ some k_ ≠ ownBlock (.slice (some adz_v590) y589.length co115)) (.slice (some ⟨go97, 0, none⟩) t558.length co106) y595) := ⟨by first | exact HQ116.out | exact lR <| HQ116.out⟩
         have n3_ : Aside0 (Kd.R (Kd.int .i64) 3 (w114.setCell ⟨go97, 0, none⟩ (.int .i64 (rd y589 t592))) w.heap.size (fun k_ => (w.heap.size ≤ k_) ∧ some k_ ≠ ownBlock (.slice Ao105 t555.length co105) ∧ some k_ ≠ ownBlock (.slice (some ⟨go97, 0, none⟩) t558.length co106)) (.slice (some adz_v590) y589.length co115) y589) := ⟨by exact lR <| Kd.R_mono (Kd.R_far (p := ⟨go97, 0, none⟩) (Kd.R_mono HO591.out (fun k_ hk => (⟨hk, fun e_ => hk.2.2 (by rw [e_]; rfl)⟩ : _ ∧ k_ ≠ go97))) (fun _ hk => hk.2) (.int .i64 (rd y589 t592))) (fun _ hk => ⟨hk.1.1, ⟨hk.1.2.1, hk.1.2.2⟩⟩)⟩
         have n4_ : Aside0 ((w114.setCell ⟨go97, 0, none⟩ (.int .i64 (rd y589 t592))).heap[gb550]? = some (.cells #[.int .i64 0, .slice none 0 0, .slice none 0 0, .slice none 0 0] 26 (0, 0))) := ⟨by (with_reducible repeat first | refine kN ?_ _ | refine kD ?_ | refine kA ?_ _); refine blk_far ?_ (by have h_ := Kd.R_ne HO560.out BK550.out (by decide); intro e_; exact h_ (by rw [e_]; rfl)) _; exact lK <| BK550.out⟩
         have n5_ : Aside0 ((w114.setCell ⟨go97, 0, none⟩ (.int .i64 (rd y589 t592))).heap[gb562]? = some (.cells #[.int .i64 t551, .slice Ao104 t552.length co104, .slice Ao105 t555.length co105, .slice (some ⟨go97, 0, none⟩) t558.length co106] 26 (0, 0))) := ⟨by (with_reducible repeat first | refine kN ?_ _ | refine kD ?_ | refine kA ?_ _); refine blk_far ?_ (by have h_ := Kd.R_ne HO560.out BK562.out (by decide); intro e_; exact h_ (by rw [e_]; rfl)) _; exact lK <| BK562.out⟩
         have n6_ : Aside0 (IsS69 w0 (w114.setCell ⟨go97, 0, none⟩ (.int .i64 (rd y589 t592))) g s0_0 t593) := ⟨by exact IsS69.j HI0.out⟩
         have n7_ : Aside0 (KeepBut w (w114.setCell ⟨go97, 0, none⟩ (.int .i64 (rd y589 t592))) g none) := ⟨by exact jK HK.out⟩
         have n8_ : Aside0 (Below w0.heap.size w0 (w114.setCell ⟨go97, 0, none⟩ (.int .i64 (rd y589 t592)))) := ⟨by repeat (first | (with_reducible first | exact HB.out | apply below_alloc | apply pw_below_drewN | apply below_drew1 | refine below_set ?_ (Nat.le_trans HL.out GB97.out) | refine below_set ?_ (IsS69.ge HI0.out) | refine below_set ?_ GE550.out | refine below_set ?_ GE562.out) | exact HB.out)⟩
         (try clear HO554)
         (try clear HO557)
         (try clear HO560)
         (try clear HO591)
         (try clear BK550)
         (try clear BK562)
         (try clear HI0)
         (try clear HK)
         (try clear HB)
         generalize (w114.setCell ⟨go97, 0, none⟩ (.int .i64 (rd y589 t592))) = w117 at n0_ n1_ n2_ n3_ n4_ n5_ n6_ n7_ n8_ ⊢
         have HO554 := n0_
         have HO557 := n1_
         have HO560 := n2_
         have HO591 := n3_
         have BK550 := n4_
         have BK562 := n5_
         have HI0 := n6_
         have HK := n7_
         have HB := n8_
         clear n0_ n1_ n2_ n3_ n4_ n5_ n6_ n7_ n8_
         have hcz118_0 : w117.cell? ⟨gb562, 0, none⟩ = some (.int .i64 t551) := (blk_cell BK562.out 0).trans rfl
         have hcz118_1 : w117.cell? ⟨gb562, 1, none⟩ = some (.slice Ao104 t552.length co104) := (blk_cell BK562.out 1).trans rfl
         have hcz118_2 : w117.cell? ⟨gb562, 2, none⟩ = some (.slice Ao105 t555.length co105) := (blk_cell BK562.out 2).trans rfl
         have hcz118_3 : w117.cell? ⟨gb562, 3, none⟩ = some (.slice (some ⟨go97, 0, none⟩) t558.length co106) := (blk_cell BK562.out 3).trans rfl
         have hfz118_0 := blk_frozen BK562.out 0
         have hfz118_1 := blk_frozen BK562.out 1
         have hfz118_2 := blk_frozen BK562.out 2
         have hfz118_3 := blk_frozen BK562.out 3
         have hnb119 := NB550_0.out
         have hnc119 := NB0_550.out
         have hcz120_0 : w117.cell? ⟨gb550, 0, none⟩ = some (.int .i64 0) := (blk_cell BK550.out 0).trans rfl
         have hcz120_1 : w117.cell? ⟨gb550, 1, none⟩ = some (.slice none 0 0) := (blk_cell BK550.out 1).trans rfl
         have hcz120_2 : w117.cell? ⟨gb550, 2, none⟩ = some (.slice none 0 0) := (blk_cell BK550.out 2).trans rfl
         have hcz120_3 : w117.cell? ⟨gb550, 3, none⟩ = some (.slice none 0 0) := (blk_cell BK550.out 3).trans rfl
         have hfz120_0 := blk_frozen BK550.out 0
         have hfz120_1 := blk_frozen BK550.out 1
         have hfz120_2 := blk_frozen BK550.out 2
         have hfz120_3 := blk_frozen BK550.out 3
         try go_wp2
         refine bodyPost_ret (results_cell_row rfl _ _ gb550 26 #[.int .i64 t551, .slice Ao104 t552.length co104, .slice Ao105 t555.length co105, .slice (some ⟨go97, 0, none⟩) t558.length co106] (0, 0) _ rfl (by exact p4 (lK BK550.out)) Try.underlying26 rfl (by kernel_rfl)) rfl ?_
         exact ⟨_, _, _, er, by exact lN <| Kd.N_mono (Kd.N_far (p := ⟨gb550, 3, none⟩) (Kd.N_far (p := ⟨gb550, 2, none⟩) (Kd.N_far (p := ⟨gb550, 1, none⟩) (Kd.N_far (p := ⟨gb550, 0, none⟩) (Kd.N_mono HO554.out (fun k_ hk => (⟨hk, hk.2.2.2.2.2.1⟩ : _ ∧ k_ ≠ gb550))) (fun _ hk => by first | exact hk.2 | exact fun e_ => hk.2 (e_.trans (ob _ _ _ _))) (.int .i64 t551)) (fun _ hk => by first | exact hk.2 | exact fun e_ => hk.2 (e_.trans (ob _ _ _ _))) (.slice Ao104 t552.length co104)) (fun _ hk => by first | exact hk.2 | exact fun e_ => hk.2 (e_.trans (ob _ _ _ _))) (.slice Ao105 t555.length co105)) (fun _ hk => by first | exact hk.2 | exact fun e_ => hk.2 (e_.trans (ob _ _ _ _))) (.slice (some ⟨go97, 0, none⟩) t558.length co106)) (fun _ hk => ⟨(by first | exact hk.1.1 | exact fun e_ => hk.1.1 (e_.trans (ob _ _ _ _))), ⟨(by first | exact hk.1.2.1 | exact fun e_ => hk.1.2.1 (e_.trans (ob _ _ _ _))), (by first | exact hk.1.2.2.1 | exact fun e_ => hk.1.2.2.1 (e_.trans (ob _ _ _ _)))⟩⟩), by exact lR <| Kd.R_mono (Kd.R_far (p := ⟨gb550, 3, none⟩) (Kd.R_far (p := ⟨gb550, 2, none⟩) (Kd.R_far (p := ⟨gb550, 1, none⟩) (Kd.R_far (p := ⟨gb550, 0, none⟩) (Kd.R_types HO557.out BK550.out (by decide)) (fun _ hk => by first | exact hk.2 | exact fun e_ => hk.2 (e_.trans (ob _ _ _ _))) (.int .i64 t551)) (fun _ hk => by first | exact hk.2 | exact fun e_ => hk.2 (e_.trans (ob _ _ _ _))) (.slice Ao104 t552.length co104)) (fun _ hk => by first | exact hk.2 | exact fun e_ => hk.2 (e_.trans (ob _ _ _ _))) (.slice Ao105 t555.length co105)) (fun _ hk => by first | exact hk.2 | exact fun e_ => hk.2 (e_.trans (ob _ _ _ _))) (.slice (some ⟨go97, 0, none⟩) t558.length co106)) (fun _ hk => ⟨(by first | exact hk.1.1 | exact fun e_ => hk.1.1 (e_.trans (ob _ _ _ _))), (by first | exact hk.1.2.1 | exact fun e_ => hk.1.2.1 (e_.trans (ob _ _ _ _)))⟩), by exact lR <| Kd.R_mono (Kd.R_far (p := ⟨gb550, 3, none⟩) (Kd.R_far (p := ⟨gb550, 2, none⟩) (Kd.R_far (p := ⟨gb550, 1, none⟩) (Kd.R_far (p := ⟨gb550, 0, none⟩) (Kd.R_types HO560.out BK550.out (by decide)) (fun _ hk => by first | exact hk.2 | exact fun e_ => hk.2 (e_.trans (ob _ _ _ _))) (.int .i64 t551)) (fun _ hk => by first | exact hk.2 | exact fun e_ => hk.2 (e_.trans (ob _ _ _ _))) (.slice Ao104 t552.length co104)) (fun _ hk => by first | exact hk.2 | exact fun e_ => hk.2 (e_.trans (ob _ _ _ _))) (.slice Ao105 t555.length co105)) (fun _ hk => by first | exact hk.2 | exact fun e_ => hk.2 (e_.trans (ob _ _ _ _))) (.slice (some ⟨go97, 0, none⟩) t558.length co106)) (fun _ hk => ⟨(by first | exact hk.1.1 | exact fun e_ => hk.1.1 (e_.trans (ob _ _ _ _))), (by first | exact hk.1.2.1 | exact fun e_ => hk.1.2.1 (e_.trans (ob _ _ _ _)))⟩), by exact IsS69.j HI0.out, by exact jB HB.out, by exact jK HK.out⟩
        ·rw [if_neg c96] at H
         exact absurd H (by simp)
       ·rw [if_neg c95] at H
        exact absurd H (by simp)
      ·rw [if_neg c94] at H
       exact absurd H (by simp)
     ·rw [if_neg c92] at H
      have c92b0 := beq_eq_false_iff_ne.mpr c92
      have c92b1 := bne_iff_ne.mpr c92
      by_cases c121 : 2 ≤ (t558.length : Int)
      ·rw [if_pos c121] at H
       have c121b0 := eq_true c121
       have c121b1 := decide_eq_true c121
       clear c121
       obtain ⟨y596, hy596⟩ : ∃ y_ : List Int, y_ = (t558.take (2 : Int).toNat) := ⟨_, rfl⟩
       try rw [← hy596] at H
       try dsimp only [Option.bind_some] at H
       have Ny596 := aM hy596
       clear hy596
       simp only [Option.some.injEq, Prod.mk.injEq] at H
       obtain ⟨rfl, rfl, rfl, rfl, rfl⟩ := H
       go_enter Try.func19, Try.ntmps19
       go_wp2_with (first | ((with_reducible refine gate_dst (N := 4) rfl ?_); refine bx 4 #[.int .i64 0, .slice none 0 0, .slice none 0 0, .slice none 0 0] 26 ?_; intro gb550 hg w122 hbox hb; replace HB := aM (bj HB.out hb); have BK550 := aM (hbox); have GW550 := aM ((gk hg HK.out)); have IGW550 : Nonempty _ := ⟨GW550.out⟩; have GE550 := aM ((Nat.le_trans HW0.out (gk hg HK.out) : w0.heap.size ≤ gb550)); have IGE550 : Nonempty _ := ⟨GE550.out⟩; replace HK := aM (kbl HK.out hb); have NB0_550 := aM ((by rw [hg]; exact Nat.ne_of_lt (IsS69.lt (show IsS69 w0 _ g s0_0 s0_1 from by exact IsS69.j HI0.out)) : g ≠ gb550)); have INB0_550 : Nonempty _ := ⟨NB0_550.out⟩; have NB550_0 := aM ((by rw [hg]; exact Nat.ne_of_gt (IsS69.lt (show IsS69 w0 _ g s0_0 s0_1 from by exact IsS69.j HI0.out)) : gb550 ≠ g)); replace HI0 := aM (IsS69.below (by exact IsS69.j HI0.out) hb); clear hb hbox hg) | ((with_reducible refine gate_callee (f := 46) rfl ?_); refine gL (some 7) Try.func46 #[.pointer (some ⟨g, 0, none⟩)] ?_; (with_reducible refine (spec_l21Plan.calls k g s0_0 s0_1 t551 t552 t555 t558 t561 w0 _ ?side1 ?side2 A3.out).mono ?_); (case side1 => exact IsS69.j HI0.out); (case side2 => exact jB HB.out); rintro e w123 ⟨v553, v556, v559, rfl, ho0, ho1, ho2, hi, hb, hk⟩; refine ⟨_, rfl, ?_⟩; have HO554 := aM (Kd.N_lower (Kd.N_mono (ok' := fun k_ => (w.heap.size ≤ k_) ∧ some k_ ≠ v556.ownBlock ∧ some k_ ≠ v559.ownBlock ∧ k_ ≠ gb550 ∧ k_ ≠ g) ho0 (fun k_ hk_ => ⟨(Nat.le_trans (keep_size (w := w) (g := g) (row := none) (by exact jK HK.out)) hk_.1), hk_.2.1, hk_.2.2, (Kd.freshB (g := gb550) (o := .cells #[.int .i64 0, .slice none 0 0, .slice none 0 0, .slice none 0 0] 26 (0, 0)) (by exact lK BK550.out) k_ hk_.1), (IsS69.fresh (by exact IsS69.j HI0.out) k_ hk_.1)⟩)) (keep_size (w := w) (g := g) (row := none) (by exact jK HK.out))); replace BK550 := aM (kb hk BK550.out NB550_0.out); have HO557 := aM (Kd.R_lower (Kd.R_newM (M := fun k_ => (w.heap.size ≤ k_)) (Kd.R_mono (ok' := fun k_ => some k_ ≠ v559.ownBlock) ho1 (fun _ hk_ => hk_.2)) (keep_size (w := w) (g := g) (row := none) (by exact jK HK.out)) (fun k_ h_ => h_)) (keep_size (w := w) (g := g) (row := none) (by exact jK HK.out))); have HO560 := aM (Kd.R_lower (Kd.R_newM (M := fun k_ => (w.heap.size ≤ k_)) (Kd.R_mono (ok' := fun k_ => some k_ ≠ v556.ownBlock) ho2 (fun _ hk_ => hk_.2)) (keep_size (w := w) (g := g) (row := none) (by exact jK HK.out)) (fun k_ h_ => h_)) (keep_size (w := w) (g := g) (row := none) (by exact jK HK.out))); replace HK := aM (kt HK.out hk); replace HB := aM (hb); replace HI0 := aM (hi); (try clear hb hk hi); (try clear ho0); (try clear ho1); (try clear ho2)) | ((with_reducible refine gate_dst (N := 5) rfl ?_); refine bx 5 #[.int .i64 0, .slice none 0 0, .slice none 0 0, .slice none 0 0] 26 ?_; intro gb562 hg w124 hbox hb; replace HO554 := aM (Kd.N_below (Kd.N_elderB (by exact lN <| HO554.out) gb562 (Nat.le_of_eq hg.symm)) hb); replace HO557 := aM (rb HO557.out hb); replace HO560 := aM (rb HO560.out hb); replace HB := aM (bj HB.out hb); have BK562 := aM (hbox); have GW562 := aM ((gk hg HK.out)); have IGW562 : Nonempty _ := ⟨GW562.out⟩; have GE562 := aM ((Nat.le_trans HW0.out (gk hg HK.out) : w0.heap.size ≤ gb562)); have IGE562 : Nonempty _ := ⟨GE562.out⟩; replace HK := aM (kbl HK.out hb); have NB550_562 := aM ((neL hg (lK BK550.out) : gb550 ≠ gb562)); have NB562_550 := aM ((neG hg (lK BK550.out) : gb562 ≠ gb550)); replace BK550 := aM (bb BK550.out hb); have NB0_562 := aM ((by rw [hg]; exact Nat.ne_of_lt (IsS69.lt (show IsS69 w0 _ g s0_0 t561 from by exact IsS69.j HI0.out)) : g ≠ gb562)); have INB0_562 : Nonempty _ := ⟨NB0_562.out⟩; have NB562_0 := aM ((by rw [hg]; exact Nat.ne_of_gt (IsS69.lt (show IsS69 w0 _ g s0_0 t561 from by exact IsS69.j HI0.out)) : gb562 ≠ g)); replace HI0 := aM (IsS69.below (by exact IsS69.j HI0.out) hb); clear hb hbox hg; have hnb125 := NB562_550.out; have hnc125 := NB550_562.out; have hnb126 := NB562_0.out; have hnc126 := NB0_562.out; have hcz127_0 : w124.cell? ⟨gb562, 0, none⟩ = some (.int .i64 0) := (blk_cell BK562.out 0).trans rfl; have hcz127_1 : w124.cell? ⟨gb562, 1, none⟩ = some (.slice none 0 0) := (blk_cell BK562.out 1).trans rfl; have hcz127_2 : w124.cell? ⟨gb562, 2, none⟩ = some (.slice none 0 0) := (blk_cell BK562.out 2).trans rfl; have hcz127_3 : w124.cell? ⟨gb562, 3, none⟩ = some (.slice none 0 0) := (blk_cell BK562.out 3).trans rfl; have hfz127_0 := blk_frozen BK562.out 0; have hfz127_1 := blk_frozen BK562.out 1; have hfz127_2 := blk_frozen BK562.out 2; have hfz127_3 := blk_frozen BK562.out 3; obtain ⟨Ao128, co128, eo128⟩ := Kd.N_slice HO554.out; subst eo128; obtain ⟨Ao129, co129, eo129⟩ := Kd.R_slice HO557.out; subst eo129; obtain ⟨Ao130, co130, eo130⟩ := Kd.R_slice HO560.out; subst eo130) | ((with_reducible refine gate_callee (f := 20) rfl ?_); refine gL (some 10) Try.func20 #[.pointer (some ⟨g, 0, none⟩), .int .i64 a1] ?_; (with_reducible refine (spec_l20Rd_pick.calls k g s0_0 t561 a1 t563 t564 w0 _ ?side1 ?side2 A4.out).mono ?_); (case side1 => exact IsS69.j HI0.out); (case side2 => exact jB HB.out); rintro e w131 ⟨rfl, hi, hb, hk⟩; refine ⟨_, rfl, ?_⟩; replace BK550 := aM (KeepBut.blk hk (g' := gb550) (o := .cells #[.int .i64 0, .slice none 0 0, .slice none 0 0, .slice none 0 0] 26 (0, 0)) (by exact f4 (lK BK550.out) NB550_562.out) NB550_0.out (by simp)); replace HO554 := aM (Kd.N_mono (Kd.N_keep (Kd.N_mono (ok := fun k_ => ((((w.heap.size ≤ k_)) ∧ (some k_ ≠ ownBlock (.slice Ao129 t555.length co129) ∧ (some k_ ≠ ownBlock (.slice Ao130 t558.length co130) ∧ (k_ ≠ gb550 ∧ k_ ≠ g)))) ∧ k_ ≠ gb562)) (by exact lN <| (Kd.N_mono (Kd.N_far (p := ⟨gb562, 3, none⟩) (Kd.N_far (p := ⟨gb562, 2, none⟩) (Kd.N_far (p := ⟨gb562, 1, none⟩) (Kd.N_far (p := ⟨gb562, 0, none⟩) (Kd.N_mono HO554.out (fun k_ hk => (⟨hk, hk.2⟩ : _ ∧ k_ ≠ gb562))) (fun _ hk => hk.2) (.int .i64 t551)) (fun _ hk => hk.2) (.slice Ao128 t552.length co128)) (fun _ hk => hk.2) (.slice Ao129 t555.length co129)) (fun _ hk => hk.2) (.slice Ao130 t558.length co130)) (fun _ h_ => h_.1))) (fun k_ hk_ => (⟨hk_, hk_.1.2.2.2.2⟩ : _ ∧ k_ ≠ g))) hk (fun _ h => h.2)) (fun _ h => h.1)); replace HO557 := aM (Kd.R_mono (Kd.R_keep (IsS69.apart (show IsS69 w0 _ g s0_0 t561 from by exact IsS69.j HI0.out) (qp (R4 HO557.out BK562.out)) (by decide)) hk (fun _ h => h.2)) (fun _ h => h.1)); replace HO560 := aM (Kd.R_mono (Kd.R_keep (IsS69.apart (show IsS69 w0 _ g s0_0 t561 from by exact IsS69.j HI0.out) (qp (R4 HO560.out BK562.out)) (by decide)) hk (fun _ h => h.2)) (fun _ h => h.1)); replace BK562 := aM (KeepBut.blk hk (g' := gb562) (o := .cells #[.int .i64 t551, .slice Ao128 t552.length co128, .slice Ao129 t555.length co129, .slice Ao130 t558.length co130] 26 (0, 0)) (by exact p4 (lK BK562.out)) NB562_0.out (by simp)); replace HK := aM (kt HK.out hk); replace HB := aM (hb); replace HI0 := aM (hi); (try clear hb hk hi)) | ((with_reducible refine gate_callee (f := 20) rfl ?_); refine gL (some 14) Try.func20 #[.pointer (some ⟨g, 0, none⟩), .int .i64 5] ?_; (with_reducible refine (spec_l20Rd_pick.calls k g s0_0 t564 5 t565 t566 w0 _ ?side1 ?side2 A19.out).mono ?_); (case side1 => exact IsS69.j HI0.out); (case side2 => exact jB HB.out); rintro e w132 ⟨rfl, hi, hb, hk⟩; refine ⟨_, rfl, ?_⟩; replace BK550 := aM (kb hk BK550.out NB550_0.out); replace HO554 := aM (Kd.N_mono (Kd.N_keep (Kd.N_mono (ok := fun k_ => ((((w.heap.size ≤ k_)) ∧ (some k_ ≠ ownBlock (.slice Ao129 t555.length co129) ∧ (some k_ ≠ ownBlock (.slice Ao130 t558.length co130) ∧ (k_ ≠ gb550 ∧ k_ ≠ g)))) ∧ k_ ≠ gb562)) (by exact lN <| HO554.out) (fun k_ hk_ => (⟨hk_, hk_.1.2.2.2.2⟩ : _ ∧ k_ ≠ g))) hk (fun _ h => h.2)) (fun _ h => h.1)); replace HO557 := aM (IsS69.kp (f1 := t564) (by exact IsS69.j HI0.out) (lR HO557.out) hk); replace HO560 := aM (IsS69.kp (f1 := t564) (by exact IsS69.j HI0.out) (lR HO560.out) hk); replace BK562 := aM (kb hk BK562.out NB562_0.out); replace HK := aM (kt HK.out hk); replace HB := aM (hb); replace HI0 := aM (hi); (try clear hb hk hi); have hcz133_0 : w132.cell? ⟨gb562, 0, none⟩ = some (.int .i64 t551) := (blk_cell BK562.out 0).trans rfl; have hcz133_1 : w132.cell? ⟨gb562, 1, none⟩ = some (.slice Ao128 t552.length co128) := (blk_cell BK562.out 1).trans rfl; have hcz133_2 : w132.cell? ⟨gb562, 2, none⟩ = some (.slice Ao129 t555.length co129) := (blk_cell BK562.out 2).trans rfl; have hcz133_3 : w132.cell? ⟨gb562, 3, none⟩ = some (.slice Ao130 t558.length co130) := (blk_cell BK562.out 3).trans rfl; have hfz133_0 := blk_frozen BK562.out 0; have hfz133_1 := blk_frozen BK562.out 1; have hfz133_2 := blk_frozen BK562.out 2; have hfz133_3 := blk_frozen BK562.out 3; have q134 : (2 : Int) ≤ ((t558.length : Int) : Int) := of_decide_eq_true (by first | (with_reducible assumption) | assumption); obtain ⟨i0134, hi0134, _, hsz134, _⟩ := info_parts info3; have hcut134 := cut_to (P := Try.prog) 24 3 .i64 Try.underlying24 hi0134 Ao130 t558.length co130 2 (by omega) q134 (Kd.R_reads' HO560.out).2.1; have hr134 := Kd.R_take (m := (2 : Int).toNat) HO560.out (by omega); have hy134 : y596.length = (2 : Int).toNat := (by rw [Ny596.out, List.length_take]; omega); rw [← Ny596.out] at hr134; rw [← hy134] at hr134 hcut134; clear hy134 hi0134 hsz134 HO560; have HO598 := aM hr134; clear hr134; replace q134 := eq_true q134; have hnb135 := NB550_0.out; have hnc135 := NB0_550.out; have hcz136_0 : w132.cell? ⟨gb550, 0, none⟩ = some (.int .i64 0) := (blk_cell BK550.out 0).trans rfl; have hcz136_1 : w132.cell? ⟨gb550, 1, none⟩ = some (.slice none 0 0) := (blk_cell BK550.out 1).trans rfl; have hcz136_2 : w132.cell? ⟨gb550, 2, none⟩ = some (.slice none 0 0) := (blk_cell BK550.out 2).trans rfl; have hcz136_3 : w132.cell? ⟨gb550, 3, none⟩ = some (.slice none 0 0) := (blk_cell BK550.out 3).trans rfl; have hfz136_0 := blk_frozen BK550.out 0; have hfz136_1 := blk_frozen BK550.out 1; have hfz136_2 := blk_frozen BK550.out 2; have hfz136_3 := blk_frozen BK550.out 3))
       refine bodyPost_ret (results_cell_row rfl _ _ gb550 26 #[.int .i64 t551, .slice Ao128 t552.length co128, .slice Ao129 t555.length co129, .slice Ao130 y596.length co130] (0, 0) _ rfl (by (with_reducible repeat first | refine kN ?_ _ | refine kD ?_ | refine kA ?_ _); refine blk_put (cs := #[.int .i64 t551, .slice Ao128 t552.length co128, .slice Ao129 t555.length co129, .slice none 0 0]) ?_ 3 _ rfl; (with_reducible repeat first | refine kN ?_ _ | refine kD ?_ | refine kA ?_ _); refine blk_put (cs := #[.int .i64 t551, .slice Ao128 t552.length co128, .slice none 0 0, .slice none 0 0]) ?_ 2 _ rfl; (with_reducible repeat first | refine kN ?_ _ | refine kD ?_ | refine kA ?_ _); refine blk_put (cs := #[.int .i64 t551, .slice none 0 0, .slice none 0 0, .slice none 0 0]) ?_ 1 _ rfl; (with_reducible repeat first | refine kN ?_ _ | refine kD ?_ | refine kA ?_ _); refine blk_put (cs := #[.int .i64 0, .slice none 0 0, .slice none 0 0, .slice none 0 0]) ?_ 0 _ rfl; (with_reducible repeat first | refine kN ?_ _ | refine kD ?_ | refine kA ?_ _); refine blk_far ?_ NB550_562.out _; exact lK BK550.out) Try.underlying26 rfl (by kernel_rfl)) rfl ?_
       exact ⟨_, _, _, er, by exact lN <| Kd.N_mono (Kd.N_far (p := ⟨gb550, 3, none⟩) (Kd.N_far (p := ⟨gb550, 2, none⟩) (Kd.N_far (p := ⟨gb550, 1, none⟩) (Kd.N_far (p := ⟨gb550, 0, none⟩) (Kd.N_far (p := ⟨gb562, 3, none⟩) (Kd.N_mono (Kd.N_mono HO554.out (fun k_ hk => (⟨hk, hk.2⟩ : _ ∧ k_ ≠ gb562))) (fun k_ hk => (⟨hk, hk.1.1.2.2.2.1⟩ : _ ∧ k_ ≠ gb550))) (fun _ hk => by first | exact hk.1.2 | exact fun e_ => hk.1.2 (e_.trans (ob _ _ _ _))) (.slice Ao130 y596.length co130)) (fun _ hk => by first | exact hk.2 | exact fun e_ => hk.2 (e_.trans (ob _ _ _ _))) (.int .i64 t551)) (fun _ hk => by first | exact hk.2 | exact fun e_ => hk.2 (e_.trans (ob _ _ _ _))) (.slice Ao128 t552.length co128)) (fun _ hk => by first | exact hk.2 | exact fun e_ => hk.2 (e_.trans (ob _ _ _ _))) (.slice Ao129 t555.length co129)) (fun _ hk => by first | exact hk.2 | exact fun e_ => hk.2 (e_.trans (ob _ _ _ _))) (.slice Ao130 y596.length co130)) (fun _ hk => ⟨(by first | exact hk.1.1.1.1 | exact fun e_ => hk.1.1.1.1 (e_.trans (ob _ _ _ _))), ⟨(by first | exact hk.1.1.1.2.1 | exact fun e_ => hk.1.1.1.2.1 (e_.trans (ob _ _ _ _))), (by first | exact hk.1.1.1.2.2.1 | exact fun e_ => hk.1.1.1.2.2.1 (e_.trans (ob _ _ _ _)))⟩⟩), by exact lR <| Kd.R_mono (Kd.R_far (p := ⟨gb550, 3, none⟩) (Kd.R_far (p := ⟨gb550, 2, none⟩) (Kd.R_far (p := ⟨gb550, 1, none⟩) (Kd.R_far (p := ⟨gb550, 0, none⟩) (Kd.R_far (p := ⟨gb562, 3, none⟩) (Kd.R_types (Kd.R_types HO557.out BK562.out (by decide)) BK550.out (by decide)) (fun _ hk => by first | exact hk.1.2 | exact fun e_ => hk.1.2 (e_.trans (ob _ _ _ _))) (.slice Ao130 y596.length co130)) (fun _ hk => by first | exact hk.2 | exact fun e_ => hk.2 (e_.trans (ob _ _ _ _))) (.int .i64 t551)) (fun _ hk => by first | exact hk.2 | exact fun e_ => hk.2 (e_.trans (ob _ _ _ _))) (.slice Ao128 t552.length co128)) (fun _ hk => by first | exact hk.2 | exact fun e_ => hk.2 (e_.trans (ob _ _ _ _))) (.slice Ao129 t555.length co129)) (fun _ hk => by first | exact hk.2 | exact fun e_ => hk.2 (e_.trans (ob _ _ _ _))) (.slice Ao130 y596.length co130)) (fun _ hk => ⟨(by first | exact hk.1.1.1 | exact fun e_ => hk.1.1.1 (e_.trans (ob _ _ _ _))), (by first | exact hk.1.1.2 | exact fun e_ => hk.1.1.2 (e_.trans (ob _ _ _ _)))⟩), by exact lR <| Kd.R_mono (Kd.R_far (p := ⟨gb550, 3, none⟩) (Kd.R_far (p := ⟨gb550, 2, none⟩) (Kd.R_far (p := ⟨gb550, 1, none⟩) (Kd.R_far (p := ⟨gb550, 0, none⟩) (Kd.R_far (p := ⟨gb562, 3, none⟩) (Kd.R_types (Kd.R_types HO598.out BK562.out (by decide)) BK550.out (by decide)) (fun _ hk => by first | exact hk.1.2 | exact fun e_ => hk.1.2 (e_.trans (ob _ _ _ _))) (.slice Ao130 y596.length co130)) (fun _ hk => by first | exact hk.2 | exact fun e_ => hk.2 (e_.trans (ob _ _ _ _))) (.int .i64 t551)) (fun _ hk => by first | exact hk.2 | exact fun e_ => hk.2 (e_.trans (ob _ _ _ _))) (.slice Ao128 t552.length co128)) (fun _ hk => by first | exact hk.2 | exact fun e_ => hk.2 (e_.trans (ob _ _ _ _))) (.slice Ao129 t555.length co129)) (fun _ hk => by first | exact hk.2 | exact fun e_ => hk.2 (e_.trans (ob _ _ _ _))) (.slice Ao130 y596.length co130)) (fun _ hk => ⟨(by first | exact hk.1.1.1 | exact fun e_ => hk.1.1.1 (e_.trans (ob _ _ _ _))), (by first | exact hk.1.1.2 | exact fun e_ => hk.1.1.2 (e_.trans (ob _ _ _ _)))⟩), by exact IsS69.j HI0.out, by exact jB HB.out, by exact jK HK.out⟩
      ·rw [if_neg c121] at H
       exact absurd H (by simp)

end Go.Proofs.Ytgalnmgkcdmnkaa.QFnPlnHome

-- shorter
