/- Plain functions, and that the Go code computes them: written by a program of this session over the seat's translation; the conditions stand in each theorem. -/
import Derived.Test.YtgalnmgkcdmnkaaQFnPlnHomex0
import Derived.Test.YtgalnmgkcdmnkaaQFnPlnHomex1
import Derived.Test.YtgalnmgkcdmnkaaQFnPlnHomex6
namespace Go.Proofs.Ytgalnmgkcdmnkaa.QFnPlnHome
open Go.RowKit Go.Proofs.YtgalnmgkcdmnkaaW.PrintWords Go.Proofs.YtgalnmgkcdmnkaaW.PrintLast Go.Proofs.YtgalnmgkcdmnkaaW.PrintMore Go.Proofs.Ytgalnmgkcdmnkaa.HWords
open Value (ownBlock)
attribute [local go_sem] max2_int min2_int max_two min_two max_three min_three max_four min_four   -- for this text's walks alone
set_option linter.unusedVariables false
set_option linter.unusedSimpArgs false

/-! ### spec_l21Plan: function 46 -/
mutual
def spec_l21Plan.l0 : Nat → Int → List Int → Int → Int → List (List (S45)) → List Int → Option (Int × (List (List (S45))) × List Int × List Int × Int)
 | 0, _, _, _, _, _, _ => none
 | k + 1, x4, x1000, x1001, x398000, x398001, x398002 => if x4 > 0 then ((some (([0, 3, 9, 20, 50] : List Int) : List Int)).bind fun y400 => ((spec_l20Rd_pick.f k x1000 x1001 5).bind fun bt403 => (if 0 ≤ bt403.1 then (if bt403.1 < (y400.length : Int) then (if x398002.length < 17592186044416 then (spec_l21Plan.l0 k (wrap64 (x4 - 1)) x1000 bt403.2 x398000 x398001 (x398002 ++ [rd y400 bt403.1])) else (none)) else (none)) else (none)))) else (spec_l21Plan.l1 k 0 x1000 x1001 x398000 x398001 x398002 ([] : List Int))
def spec_l21Plan.l1 : Nat → Int → List Int → Int → Int → List (List (S45)) → List Int → List Int → Option (Int × (List (List (S45))) × List Int × List Int × Int)
 | 0, _, _, _, _, _, _, _ => none
 | k + 1, x5, x1000, x1001, x398000, x398001, x398002, x398003 => if x5 < 3 then ((some (([0, 5, 20, 60, 200, (-8)] : List Int) : List Int)).bind fun y409 => ((spec_l20Rd_pick.f k x1000 x1001 6).bind fun bt412 => (if 0 ≤ bt412.1 then (if bt412.1 < (y409.length : Int) then (if x398003.length < 17592186044416 then (spec_l21Plan.l1 k (wrap64 (x5 + 1)) x1000 bt412.2 x398000 x398001 x398002 (x398003 ++ [rd y409 bt412.1])) else (none)) else (none)) else (none)))) else (some (x398000, x398001, x398002, x398003, x1001))
end
def spec_l21Plan.f (k : Nat) (s0_0 : List Int) (s0_1 : Int) : Option (Int × (List (List (S45))) × List Int × List Int × Int) := (spec_l20Rd_pick.f k s0_0 s0_1 4).bind fun bt391 => ((spec_l20Acts.f k s0_0 bt391.2).bind fun bt393 => ((spec_l20Rd_pick.f k s0_0 bt393.2 3).bind fun bt398 => (spec_l21Plan.l0 k (wrap64 (1 + bt398.1)) s0_0 bt398.2 (wrap64 (1 + bt391.1)) bt393.1 ([] : List Int))))
theorem spec_l21Plan.mono_l : ∀ k, (∀ y0 y1 y2 y3 y4 y5, LeO (spec_l21Plan.l0 k y0 y1 y2 y3 y4 y5) (spec_l21Plan.l0 (k + 1) y0 y1 y2 y3 y4 y5)) ∧ (∀ y0 y1 y2 y3 y4 y5 y6, LeO (spec_l21Plan.l1 k y0 y1 y2 y3 y4 y5 y6) (spec_l21Plan.l1 (k + 1) y0 y1 y2 y3 y4 y5 y6))
 | 0 => ⟨fun _ _ _ _ _ _ r h => by simp [spec_l21Plan.l0] at h, fun _ _ _ _ _ _ _ r h => by simp [spec_l21Plan.l1] at h⟩
 | k + 1 => by
  obtain ⟨ih0, ih1⟩ := spec_l21Plan.mono_l k
  refine ⟨?_, ?_⟩
  ·intro y0 y1 y2 y3 y4 y5
   unfold spec_l21Plan.l0
   repeat' first
   | (with_reducible exact ih0 _ _ _ _ _ _)
   | (with_reducible exact ih1 _ _ _ _ _ _ _)
   | (with_reducible exact spec_l20Acts.mono _ _ _)
   | (with_reducible exact spec_l20Rd_pick.mono _ _ _ _)
   | (with_reducible exact LeO.refl _)
   | (with_reducible exact LeO.none _)
   | (with_reducible refine LeO.ite ?_ ?_)
   | (with_reducible refine LeO.bind ?_ (fun _ => ?_))
   | exact LeO.none _
   | refine LeO.ite ?_ ?_
   | refine LeO.bind ?_ (fun _ => ?_)
  ·intro y0 y1 y2 y3 y4 y5 y6
   unfold spec_l21Plan.l1
   repeat' first
   | (with_reducible exact ih0 _ _ _ _ _ _)
   | (with_reducible exact ih1 _ _ _ _ _ _ _)
   | (with_reducible exact spec_l20Acts.mono _ _ _)
   | (with_reducible exact spec_l20Rd_pick.mono _ _ _ _)
   | (with_reducible exact LeO.refl _)
   | (with_reducible exact LeO.none _)
   | (with_reducible refine LeO.ite ?_ ?_)
   | (with_reducible refine LeO.bind ?_ (fun _ => ?_))
   | exact LeO.none _
   | refine LeO.ite ?_ ?_
   | refine LeO.bind ?_ (fun _ => ?_)
theorem spec_l21Plan.mono : ∀ a0 a1 k, LeO (spec_l21Plan.f k a0 a1) (spec_l21Plan.f (k + 1) a0 a1) := by
 intro a0 a1 k
 obtain ⟨ih0, ih1⟩ := spec_l21Plan.mono_l k
 unfold spec_l21Plan.f
 repeat' first
   | (with_reducible exact ih0 _ _ _ _ _ _)
   | (with_reducible exact ih1 _ _ _ _ _ _ _)
   | (with_reducible exact spec_l20Acts.mono _ _ _)
   | (with_reducible exact spec_l20Rd_pick.mono _ _ _ _)
   | (with_reducible exact LeO.refl _)
   | (with_reducible exact LeO.none _)
   | (with_reducible refine LeO.ite ?_ ?_)
   | (with_reducible refine LeO.bind ?_ (fun _ => ?_))
   | exact LeO.none _
   | refine LeO.ite ?_ ?_
   | refine LeO.bind ?_ (fun _ => ?_)
def spec_l21Plan.T5 : Bool × List (List Nat × List Nat) := (true, [([], []), ([0], [0]), ([], []), ([], []), ([3], [3]), ([2, 4], [2, 4]), ([5], [5]), ([6], [6]), ([1, 7, 4], [1, 7]), ([0, 1, 2, 3, 4, 5, 6, 7, 8], []), ([9, 8, 8, 0, 1, 2, 3, 4, 5, 6, 7, 8], [8, 9])])
def spec_l21Plan.B5 : List Nat := [0, 1, 0, 0, 8, 28, 60, 124, 255, 511, 1023]
theorem spec_l21Plan.tab5 : rtab .any (opsOf Try.f46 5) = spec_l21Plan.T5 := by kernel_rfl
theorem spec_l21Plan.bits5 : waitsOk spec_l21Plan.T5.2 spec_l21Plan.B5 = true := by kernel_rfl
def spec_l21Plan.T9 : Bool × List (List Nat × List Nat) := (true, [([], []), ([0], [0]), ([], []), ([], []), ([3], [3]), ([2, 4], [2, 4]), ([5], [5]), ([6], [6]), ([1, 7, 4], [1, 7]), ([0, 1, 2, 3, 4, 5, 6, 7, 8], []), ([9, 8, 8, 0, 1, 2, 3, 4, 5, 6, 7, 8], [8, 9])])
def spec_l21Plan.B9 : List Nat := [0, 1, 0, 0, 8, 28, 60, 124, 255, 511, 1023]
theorem spec_l21Plan.tab9 : rtab .any (opsOf Try.f46 9) = spec_l21Plan.T9 := by kernel_rfl
theorem spec_l21Plan.bits9 : waitsOk spec_l21Plan.T9.2 spec_l21Plan.B9 = true := by kernel_rfl
set_option maxHeartbeats 8000000 in
set_option maxRecDepth 100000 in
theorem spec_l21Plan.calls (k : Nat) (g : Nat) (s0_0 : List Int) (s0_1 : Int) (r1 : Int) (r2 : List (List (S45))) (r3 : List Int) (r4 : List Int) (r5 : Int) (w0 w : World) (hI : IsS69 w0 w g s0_0 s0_1) (hB : Below w0.heap.size w0 w) (h : spec_l21Plan.f k s0_0 s0_1 = some (r1, r2, r3, r4, r5)) :
  Calls Try.prog 46 #[.pointer (some ⟨g, 0, none⟩)] w fun e w' => ∃ v1_ v2_ v3_ : Value, e = .returned (.agg #[.int .i64 r1, v1_, v2_, v3_]) ∧ Kd.N (Kd.slice 45 k45) 33 w' w.heap.size (fun k_ => (w.heap.size ≤ k_) ∧ some k_ ≠ (v2_ : Value).ownBlock ∧ some k_ ≠ (v3_ : Value).ownBlock) v1_ r2 ∧ Kd.R (Kd.int .i64) 3 w' w.heap.size (fun k_ => (w.heap.size ≤ k_) ∧ some k_ ≠ (v3_ : Value).ownBlock) v2_ r3 ∧ Kd.R (Kd.int .i64) 3 w' w.heap.size (fun k_ => (w.heap.size ≤ k_) ∧ some k_ ≠ (v2_ : Value).ownBlock) v3_ r4 ∧ IsS69 w0 w' g s0_0 r5 ∧ Below w0.heap.size w0 w' ∧ KeepBut w w' g none := by
 have hu26 := Try.underlying26
 have HI0 := aM hI
 have IHI0 : Nonempty _ := ⟨IsS69.ge hI⟩
 have HK := aM (KeepBut.refl w g none)
 have HL := aM hB.size
 clear hI
 have HW0 := aM hB.size
 have HB := aM hB
 clear hB
 have H : ((spec_l20Rd_pick.f k s0_0 s0_1 4).bind fun bt391 => ((spec_l20Acts.f k s0_0 bt391.2).bind fun bt393 => ((spec_l20Rd_pick.f k s0_0 bt393.2 3).bind fun bt398 => (spec_l21Plan.l0 k (wrap64 (1 + bt398.1)) s0_0 bt398.2 (wrap64 (1 + bt391.1)) bt393.1 ([] : List Int))))) = some (r1, r2, r3, r4, r5) := h
 clear h
 obtain ⟨⟨t391, t392⟩, A2, H⟩ := bS H
 try dsimp only at H
 obtain ⟨⟨t393, t396⟩, A3, H⟩ := bS H
 try dsimp only at H
 obtain ⟨⟨t398, t399⟩, A4, H⟩ := bS H
 try dsimp only at H
 have H' := aM H
 clear H
 go_enter Try.func46, Try.ntmps46
 go_wp2_with (first | ((with_reducible refine gate_dst (N := 2) rfl ?_); refine bx 2 #[.int .i64 0, .slice none 0 0, .slice none 0 0, .slice none 0 0] 26 ?_; intro gb390 hg w5 hbox hb; replace HB := aM (bj HB.out hb); have BK390 := aM (hbox); have GW390 := aM ((gk hg HK.out)); have IGW390 : Nonempty _ := ⟨GW390.out⟩; have GE390 := aM ((Nat.le_trans HW0.out (gk hg HK.out) : w0.heap.size ≤ gb390)); have IGE390 : Nonempty _ := ⟨GE390.out⟩; replace HK := aM (kbl HK.out hb); have NB0_390 := aM ((by rw [hg]; exact Nat.ne_of_lt (IsS69.lt (show IsS69 w0 _ g s0_0 s0_1 from by exact IsS69.j HI0.out)) : g ≠ gb390)); have INB0_390 : Nonempty _ := ⟨NB0_390.out⟩; have NB390_0 := aM ((by rw [hg]; exact Nat.ne_of_gt (IsS69.lt (show IsS69 w0 _ g s0_0 s0_1 from by exact IsS69.j HI0.out)) : gb390 ≠ g)); replace HI0 := aM (IsS69.below (by exact IsS69.j HI0.out) hb); clear hb hbox hg) | ((with_reducible refine gate_callee (f := 20) rfl ?_); refine gL (some 7) Try.func20 #[.pointer (some ⟨g, 0, none⟩), .int .i64 4] ?_; (with_reducible refine (spec_l20Rd_pick.calls k g s0_0 s0_1 4 t391 t392 w0 _ ?side1 ?side2 A2.out).mono ?_); (case side1 => exact IsS69.j HI0.out); (case side2 => exact jB HB.out); rintro e w6 ⟨rfl, hi, hb, hk⟩; refine ⟨_, rfl, ?_⟩; replace BK390 := aM (kb hk BK390.out NB390_0.out); replace HK := aM (kt HK.out hk); replace HB := aM (hb); replace HI0 := aM (hi); (try clear hb hk hi)) | ((with_reducible refine gate_callee (f := 60) rfl ?_); refine gL (some 10) Try.func60 #[.pointer (some ⟨g, 0, none⟩)] ?_; (with_reducible refine (spec_l20Acts.calls k g s0_0 t392 t393 t396 w0 _ ?side1 ?side2 A3.out).mono ?_); (case side1 => exact IsS69.j HI0.out); (case side2 => exact jB HB.out); rintro e w7 ⟨v394, rfl, ho0, hi, hb, hk⟩; refine ⟨_, rfl, ?_⟩; have HO395 := aM (Kd.N_lower (Kd.N_mono (ok' := fun k_ => (w.heap.size ≤ k_) ∧ k_ ≠ gb390 ∧ k_ ≠ g) ho0 (fun k_ hk_ => ⟨(Nat.le_trans (keep_size (w := w) (g := g) (row := none) (by exact jK HK.out)) hk_), (Kd.freshB (g := gb390) (o := .cells #[.int .i64 0, .slice none 0 0, .slice none 0 0, .slice none 0 0] 26 (0, 0)) (by exact lK BK390.out) k_ hk_), (IsS69.fresh (by exact IsS69.j HI0.out) k_ hk_)⟩)) (keep_size (w := w) (g := g) (row := none) (by exact jK HK.out))); replace BK390 := aM (kb hk BK390.out NB390_0.out); replace HK := aM (kt HK.out hk); replace HB := aM (hb); replace HI0 := aM (hi); (try clear hb hk hi); (try clear ho0); obtain ⟨Ao8, co8, eo8⟩ := Kd.N_slice HO395.out; subst eo8) | ((with_reducible refine gate_dst (N := 3) rfl ?_); refine bx 3 #[.int .i64 0, .slice none 0 0, .slice none 0 0, .slice none 0 0] 26 ?_; intro gb397 hg w9 hbox hb; replace HO395 := aM (Kd.N_below (Kd.N_elderB (by exact lN <| HO395.out) gb397 (Nat.le_of_eq hg.symm)) hb); replace HB := aM (bj HB.out hb); have BK397 := aM (hbox); have GW397 := aM ((gk hg HK.out)); have IGW397 : Nonempty _ := ⟨GW397.out⟩; have GE397 := aM ((Nat.le_trans HW0.out (gk hg HK.out) : w0.heap.size ≤ gb397)); have IGE397 : Nonempty _ := ⟨GE397.out⟩; replace HK := aM (kbl HK.out hb); have NB390_397 := aM ((neL hg (lK BK390.out) : gb390 ≠ gb397)); have NB397_390 := aM ((neG hg (lK BK390.out) : gb397 ≠ gb390)); replace BK390 := aM (bb BK390.out hb); have NB0_397 := aM ((by rw [hg]; exact Nat.ne_of_lt (IsS69.lt (show IsS69 w0 _ g s0_0 t396 from by exact IsS69.j HI0.out)) : g ≠ gb397)); have INB0_397 : Nonempty _ := ⟨NB0_397.out⟩; have NB397_0 := aM ((by rw [hg]; exact Nat.ne_of_gt (IsS69.lt (show IsS69 w0 _ g s0_0 t396 from by exact IsS69.j HI0.out)) : gb397 ≠ g)); replace HI0 := aM (IsS69.below (by exact IsS69.j HI0.out) hb); clear hb hbox hg; have hnb10 := NB397_390.out; have hnc10 := NB390_397.out; have hnb11 := NB397_0.out; have hnc11 := NB0_397.out; have hcz12_0 : w9.cell? ⟨gb397, 0, none⟩ = some (.int .i64 0) := (blk_cell BK397.out 0).trans rfl; have hcz12_1 : w9.cell? ⟨gb397, 1, none⟩ = some (.slice none 0 0) := (blk_cell BK397.out 1).trans rfl; have hcz12_2 : w9.cell? ⟨gb397, 2, none⟩ = some (.slice none 0 0) := (blk_cell BK397.out 2).trans rfl; have hcz12_3 : w9.cell? ⟨gb397, 3, none⟩ = some (.slice none 0 0) := (blk_cell BK397.out 3).trans rfl; have hfz12_0 := blk_frozen BK397.out 0; have hfz12_1 := blk_frozen BK397.out 1; have hfz12_2 := blk_frozen BK397.out 2; have hfz12_3 := blk_frozen BK397.out 3) | ((with_reducible refine gate_callee (f := 20) rfl ?_); refine gL (some 13) Try.func20 #[.pointer (some ⟨g, 0, none⟩), .int .i64 3] ?_; (with_reducible refine (spec_l20Rd_pick.calls k g s0_0 t396 3 t398 t399 w0 _ ?side1 ?side2 A4.out).mono ?_); (case side1 => exact IsS69.j HI0.out); (case side2 => exact jB HB.out); rintro e w13 ⟨rfl, hi, hb, hk⟩; refine ⟨_, rfl, ?_⟩; replace BK390 := aM (KeepBut.blk hk (g' := gb390) (o := .cells #[.int .i64 0, .slice none 0 0, .slice none 0 0, .slice none 0 0] 26 (0, 0)) (by exact f4 (lK BK390.out) NB390_397.out) NB390_0.out (by simp)); replace HO395 := aM (Kd.N_mono (Kd.N_keep (Kd.N_mono (ok := fun k_ => ((((w.heap.size ≤ k_)) ∧ (k_ ≠ gb390 ∧ k_ ≠ g)) ∧ k_ ≠ gb397)) (by exact lN <| (Kd.N_mono (Kd.N_far (p := ⟨gb397, 3, none⟩) (Kd.N_far (p := ⟨gb397, 2, none⟩) (Kd.N_far (p := ⟨gb397, 1, none⟩) (Kd.N_far (p := ⟨gb397, 0, none⟩) (Kd.N_mono HO395.out (fun k_ hk => (⟨hk, hk.2⟩ : _ ∧ k_ ≠ gb397))) (fun _ hk => hk.2) (.int .i64 (wrap64 (1 + t391)))) (fun _ hk => hk.2) (.slice Ao8 t393.length co8)) (fun _ hk => hk.2) (.slice none 0 0)) (fun _ hk => hk.2) (.slice none 0 0)) (fun _ h_ => h_.1))) (fun k_ hk_ => (⟨hk_, hk_.1.2.2⟩ : _ ∧ k_ ≠ g))) hk (fun _ h => h.2)) (fun _ h => h.1)); replace BK397 := aM (KeepBut.blk hk (g' := gb397) (o := .cells #[.int .i64 (wrap64 (1 + t391)), .slice Ao8 t393.length co8, .slice none 0 0, .slice none 0 0] 26 (0, 0)) (by exact p4 (lK BK397.out)) NB397_0.out (by simp)); replace HK := aM (kt HK.out hk); replace HB := aM (hb); replace HI0 := aM (hi); (try clear hb hk hi)))
 go_loopg [4] k (fun kq v4 w' => ∃ (x4_1 : Int) (x1001_1 : Int) (x398002_1 : List Int) (u398002 : Value), v4 = .int .i64 x4_1 ∧ Aside0 (spec_l21Plan.l0 kq x4_1 s0_0 x1001_1 (wrap64 (1 + t391)) t393 x398002_1 = some (r1, r2, r3, r4, r5)) ∧ Aside0 (kq ≤ k) ∧ Aside0 (Kd.N (Kd.slice 45 k45) 33 w' w.heap.size (fun k_ => (w.heap.size ≤ k_) ∧ some k_ ≠ (u398002 : Value).ownBlock ∧ k_ ≠ gb390 ∧ k_ ≠ gb397 ∧ k_ ≠ g) (.slice Ao8 t393.length co8) t393) ∧ Aside0 (Kd.R (Kd.int .i64) 3 w' w.heap.size (fun k_ => (w.heap.size ≤ k_)) u398002 x398002_1) ∧ Aside0 (w'.heap[gb390]? = some (.cells #[.int .i64 0, (.slice none 0 0), (.slice none 0 0), (.slice none 0 0)] 26 (0, 0))) ∧ Aside0 (w'.heap[gb397]? = some (.cells #[.int .i64 (wrap64 (1 + t391)), (.slice Ao8 t393.length co8), u398002, (.slice none 0 0)] 26 (0, 0))) ∧ Aside0 (IsS69 w0 w' g s0_0 x1001_1) ∧ Aside0 (KeepBut w w' g none) ∧ Aside0 (Below w0.heap.size w0 w'))
 case atStart => exact ⟨(wrap64 (1 + t398)), (t399), (([] : List Int)), (.slice none 0 0), (by first | rfl | (simp; done) | (simp [*]; done)), H', ⟨Nat.le_refl _⟩, ⟨by exact lN <| Kd.N_mono HO395.out (fun _ hk => ⟨hk.1.1, ⟨(by simp [Value.ownBlock]), ⟨hk.1.2.1, ⟨hk.2, hk.1.2.2⟩⟩⟩⟩)⟩, ⟨by first | exact Kd.R_nil _ _ _ _ _ | exact Kd.N_nil _ _ _ _ _ | exact Kd.V_nil _ _ _ _ _ | exact Kd.Q_nil _ _ _ _ _ | exact Kd.S_nil _ _ _ _ _⟩, ⟨by exact lK <| BK390.out⟩, ⟨by exact lK <| BK397.out⟩, ⟨by exact IsS69.j HI0.out⟩, ⟨by exact jK HK.out⟩, ⟨by exact jB HB.out⟩⟩
 case round =>
  clear H'
  try clear c1
  try clear c2
  try clear p2
  try clear c4
  try clear c6
  try clear p6
  try clear c10
  try clear c11
  try clear hcz12_0
  try clear hcz12_1
  try clear hcz12_2
  try clear hcz12_3
  try clear hfz12_0
  try clear hfz12_1
  try clear hfz12_2
  try clear hfz12_3
  obtain ⟨x4_1, x1001_1, x398002_1, u398002, rfl, HA, HK1, HO_398001, HO_398002, BK390, BK397, HI0, HK, HB⟩ := hrel
  cases gk with
  | zero => exact absurd HA.out (by simp [spec_l21Plan.l0])
  | succ k1 =>
   have H := HA.out
   clear HA
   simp only [spec_l21Plan.l0] at H
   by_cases c14 : x4_1 > 0
   ·rw [if_pos c14] at H
    have c14b0 := decide_eq_true c14
    clear c14
    obtain ⟨y400, hy400⟩ : ∃ y_ : List Int, y_ = (([0, 3, 9, 20, 50] : List Int)) := ⟨_, rfl⟩
    try rw [← hy400] at H
    try dsimp only [Option.bind_some] at H
    have Ny400 := aM hy400
    clear hy400
    obtain ⟨⟨t403, t404⟩, A15, H⟩ := bS H
    try dsimp only at H
    by_cases c16 : 0 ≤ t403
    ·rw [if_pos c16] at H
     have c16b0 := decide_eq_true c16
     clear c16
     by_cases c17 : t403 < (y400.length : Int)
     ·rw [if_pos c17] at H
      have c17b0 := decide_eq_true c17
      clear c17
      by_cases c18 : x398002_1.length < 17592186044416
      ·rw [if_pos c18] at H
       have LMc18 := aM c18
       clear c18
       obtain ⟨y406, hy406⟩ : ∃ y_ : List Int, y_ = (x398002_1 ++ [rd y400 t403]) := ⟨_, rfl⟩
       try rw [← hy406] at H
       try dsimp only [Option.bind_some] at H
       have Ny406 := aM hy406
       clear hy406
       have H' := aM H
       clear H
       obtain ⟨Ao19, co19, eo19⟩ := Kd.R_slice HO_398002.out
       subst eo19
       try go_wp2
       have pi405 : (0 ≤ (t403 : Int)) = True := eq_true (of_decide_eq_true (by first | (with_reducible assumption) | assumption))
       have qi405 : (t403 < (y400.length : Int)) = True := eq_true (of_decide_eq_true (by first | (with_reducible assumption) | assumption))
       replace HO_398001 := aM (Kd.N_drew HO_398001.out)
       replace HO_398002 := aM (Kd.R_drew HO_398002.out)
       replace BK390 := aM (blk_drew BK390.out)
       replace BK397 := aM (blk_drew BK397.out)
       replace HI0 := aM (IsS69.drew HI0.out)
       replace HK := aM (keep_drew HK.out)
       replace HB := aM (below_drew1 HB.out)
       refine start_ (n := 11) (S := fun w' => w'.cell? ⟨gb397, 0, none⟩ = some (.int .i64 (wrap64 (1 + t391))) ∧ w'.cell? ⟨gb397, 1, none⟩ = some (.slice Ao8 t393.length co8) ∧ w'.cell? ⟨gb397, 2, none⟩ = some (.slice Ao19 x398002_1.length co19) ∧ w'.cell? ⟨gb397, 3, none⟩ = some (.slice none 0 0)) (ds := [10]) #[false, false, false, false, false, false, false, false, false, false, false] (by kernel_rfl) rfl rfl ⟨(blk_cell BK397.out 0).trans rfl, (blk_cell BK397.out 1).trans rfl, (blk_cell BK397.out 2).trans rfl, (blk_cell BK397.out 3).trans rfl⟩ (fun hHeld => ?_); refine with_tabW spec_l21Plan.tab5 spec_l21Plan.bits5 (fun HT_ HW_ => ?_)
       generalize wr.drew = w20 at HO_398001 HO_398002 BK390 BK397 HI0 HK HB hHeld ⊢
       refine pure_ (i := 0) (N := some 19) (v := ?_) (a' := ?_) #[true, false, false, false, false, false, false, false, false, false, false] rfl rfl (any_of HT_.out (by kernel_rfl)) (fun _ _ _ h => h) (Or.inl ⟨by rfl, ?_⟩) ?_ ?_
       rotate_left
       ·intro w'
        go_simp
        with_reducible rfl
       rotate_left
       ·simp only [Act.put, sA, s0, sS, i64_w, i32_w]
        rfl
       refine pure_ (i := 3) (N := some 22) (v := ?_) (a' := ?_) #[true, false, false, true, false, false, false, false, false, false, false] rfl rfl (any_of HT_.out (by kernel_rfl)) (fun _ _ _ h => h) (Or.inl ⟨by rfl, ?_⟩) ?_ ?_
       rotate_left
       ·intro w'
        go_simp
        with_reducible rfl
       rotate_left
       ·simp only [Act.put, sA, s0, sS, i64_w, i32_w]
        rfl
       refine take_ (i := 1) (N := some 20) (v := ?_) (a' := ?_) #[true, true, false, true, false, false, false, false, false, false, false] rfl rfl (take_ofW HT_.out HW_.out (by kernel_rfl)) (fun _ _ _ h => h) (Or.inl ⟨by rfl, ?_⟩) hHeld ?_ ?_
       rotate_left
       ·rintro w' ⟨s0, s1, s2, s3⟩
        go_simp
        with_reducible rfl
       rotate_left
       ·simp only [Act.put, sA, s0, sS, i64_w, i32_w]
        rfl
       refine join_ (σ := Value × Addr) 6 #[true, true, true, true, true, false, false, false, false, false, false] (fun s_ => [(21, s_.1), (23, .int .i64 t403)]) (fun s_ w' => (w'.cell? ⟨gb397, 0, none⟩ = some (.int .i64 (wrap64 (1 + t391))) ∧ w'.cell? ⟨gb397, 1, none⟩ = some (.slice Ao8 t393.length co8) ∧ w'.cell? ⟨gb397, 2, none⟩ = some (.slice Ao19 x398002_1.length co19) ∧ w'.cell? ⟨gb397, 3, none⟩ = some (.slice none 0 0)) ∧ (Kd.R (Kd.int .i64) 3 w' w.heap.size (fun k_ => (w.heap.size ≤ k_) ∧ some k_ ≠ ownBlock (.slice Ao19 x398002_1.length co19)) s_.1 y400) ∧ (Kd.N (Kd.slice 45 k45) 33 w' w.heap.size (fun k_ => (w.heap.size ≤ k_) ∧ some k_ ≠ (s_.1 : Value).ownBlock ∧ some k_ ≠ ownBlock (.slice Ao19 x398002_1.length co19) ∧ k_ ≠ g ∧ k_ ≠ gb390 ∧ k_ ≠ gb397) (.slice Ao8 t393.length co8) t393) ∧ (Kd.R (Kd.int .i64) 3 w' w.heap.size (fun k_ => (w.heap.size ≤ k_) ∧ some k_ ≠ (s_.1 : Value).ownBlock) (.slice Ao19 x398002_1.length co19) x398002_1) ∧ (∃ c_, (s_.1 : Value) = .slice (some s_.2) y400.length c_) ∧ (w'.heap[gb390]? = some (.cells #[.int .i64 0, .slice none 0 0, .slice none 0 0, .slice none 0 0] 26 (0, 0))) ∧ (w'.heap[gb397]? = some (.cells #[.int .i64 (wrap64 (1 + t391)), .slice Ao8 t393.length co8, .slice Ao19 x398002_1.length co19, .slice none 0 0] 26 (0, 0))) ∧ (IsS69 w0 w' g s0_0 t404) ∧ (KeepBut w w' g none) ∧ (Below w0.heap.size w0 w')) ?_ ?_
       rotate_left
       ·intro hCont
        refine two_ (i := 2) (j := 4) (Ni := some 21) (Nj := some 23) #[true, true, true, true, false, false, false, false, false, false, false] #[true, true, false, true, true, false, false, false, false, false, false] rfl rfl rfl rfl (two_of HT_.out (by kernel_rfl)) (by decide) (by decide) (fun K hK => ?_) (fun K hK => ?_)
        ·skip
         refine Kd.R_lit_step (Kd.int .i64) _ 3 ?hg (N := 21) ?hd (xs := ([0, 3, 9, 20, 50] : List Int)) (inner := [.int .i64 0, .int .i64 3, .int .i64 9, .int .i64 20, .int .i64 50]) (ok := fun _ => True) (okp := fun _ => True) ?hr ?hp (fun _ hk => hk) trivial (Below.refl _ _) (Nat.le_refl _) (by simp) ?_; (case hd => rfl); (case hg => rfl); (case hr => first | (go_simp; done) | (go_simp; rfl)); (case hp => exact (Reps.one (show Kd.M (Kd.int .i64) _ _ _ 0 [.int .i64 0] from rfl) (Reps.one (show Kd.M (Kd.int .i64) _ _ _ 3 [.int .i64 3] from rfl) (Reps.one (show Kd.M (Kd.int .i64) _ _ _ 9 [.int .i64 9] from rfl) (Reps.one (show Kd.M (Kd.int .i64) _ _ _ 20 [.int .i64 20] from rfl) (Reps.one (show Kd.M (Kd.int .i64) _ _ _ 50 [.int .i64 50] from rfl) (Reps.none _ _)))))))
         intro v401 w21 ho22 hb hg_ hnew_
         clear hg_ hnew_
         (first | rw [← Ny400.out] at ho22 | (simp only [Int.reduceToNat] at ho22; rw [← Ny400.out] at ho22))
         replace HO_398001 := aM (Kd.N_elder' (by exact lN <| HO_398001.out) (Kd.R_base ho22) hb)
         have HO402 := aM (Kd.R_lower (Kd.R_new' (Kd.R_newM (M := fun k_ => (w.heap.size ≤ k_)) ho22 (keep_size (w := w) (g := g) (row := none) (by exact jK HK.out)) (fun k_ h_ => h_)) (rl HO_398002.out)) (keep_size (w := w) (g := g) (row := none) (by exact jK HK.out)))
         replace HO_398002 := aM (Kd.R_elder' (by exact lR HO_398002.out) (Kd.R_base ho22) hb)
         replace BK390 := aM (bb BK390.out hb)
         replace BK397 := aM (bb BK397.out hb)
         replace HI0 := aM (IsS69.below (by exact IsS69.j HI0.out) hb)
         replace HK := aM (kbl HK.out hb)
         replace HB := aM (bj HB.out hb)
         clear hb ho22
         obtain ⟨Ao23, co23, eo23⟩ := Kd.R_slice HO402.out
         subst eo23
         obtain ⟨ado23, fo23, _⟩ := Kd.at_int (Kd.R_reads' HO402.out).2.2 0 (by decide) (by rw [Ny400.out]; simp)
         cases fo23
         refine hK.out _ _ ⟨(blk_cell BK397.out 0).trans rfl, (blk_cell BK397.out 1).trans rfl, (blk_cell BK397.out 2).trans rfl, (blk_cell BK397.out 3).trans rfl⟩ (fun hHeld => ?_)
         clear hK K
         refine norm_ (a' := ?_) ?_ ?_
         rotate_left
         ·show Act.put _ (some 21) _ = _
          simp only [Act.put, sA, s0, sS, i64_w, i32_w]
          rfl
         refine one_ (i := 4) (N := some 23) #[true, true, true, true, true, false, false, false, false, false, false] rfl rfl (one_of HT_.out (by kernel_rfl)) (by decide) (fun K hK => ?_)
         refine goes_ Try.func20 (by kernel_rfl) rfl #[.pointer (some ⟨g, 0, none⟩), .int .i64 5] (by rfl) rfl rfl (by (try simp only [mA, mC, mN]); first | done | rfl | (simp only [ld, lt]; rfl)) ?_
         with_reducible refine (spec_l20Rd_pick.calls k1 g s0_0 x1001_1 5 t403 t404 w0 _ ?side1 ?side2 A15.out).mono ?_
         (case side1 => exact IsS69.j HI0.out)
         (case side2 => exact jB HB.out)
         rintro e w24 ⟨rfl, hi, hb, hk⟩
         refine ⟨_, rfl, ?_⟩
         replace HO_398001 := aM (Kd.N_mono (Kd.N_keep (Kd.N_mono (ok := fun k_ => ((((w.heap.size ≤ k_)) ∧ (some k_ ≠ ownBlock (.slice Ao19 x398002_1.length co19) ∧ (k_ ≠ gb390 ∧ (k_ ≠ gb397 ∧ k_ ≠ g)))) ∧ some k_ ≠ ownBlock (.slice (some ado23) y400.length co23))) (by exact lN <| HO_398001.out) (fun k_ hk_ => (⟨hk_, hk_.1.2.2.2.2⟩ : _ ∧ k_ ≠ g))) hk (fun _ h => h.2)) (fun _ h => h.1))
         replace HO_398002 := aM (IsS69.kp (f1 := x1001_1) (by exact IsS69.j HI0.out) (lR HO_398002.out) hk)
         replace BK390 := aM (kb hk BK390.out NB390_0.out)
         replace BK397 := aM (kb hk BK397.out NB397_0.out)
         replace HO402 := aM (IsS69.kp (f1 := x1001_1) (by exact IsS69.j HI0.out) (lR HO402.out) hk)
         replace HK := aM (kt HK.out hk)
         replace HB := aM (hb)
         replace HI0 := aM (hi)
         (try clear hb)
         (try clear hb2)
         (try clear hk)
         (try clear hi)
         refine hK.out _ _ ⟨(blk_cell BK397.out 0).trans rfl, (blk_cell BK397.out 1).trans rfl, (blk_cell BK397.out 2).trans rfl, (blk_cell BK397.out 3).trans rfl⟩ (fun hHeld => ?_)
         clear hK K
         refine norm_ (a' := ?_) ?_ ?_
         rotate_left
         ·show Act.put _ (some 23) _ = _
          simp only [Act.put, sA, s0, sS, i64_w, i32_w]
          rfl
         exact norm_ (by simp only [putAll, Act.put, List.setIfInBounds_toArray, List.set_cons_zero, List.set_cons_succ]) (hCont (.slice (some ado23) y400.length co23, ado23) _ ⟨hHeld, (by exact lR <| Kd.R_mono HO402.out (fun _ hk => ⟨hk.1.1, hk.2⟩)), (by exact lN <| Kd.N_mono HO_398001.out (fun _ hk => ⟨hk.1.1, ⟨hk.2, ⟨hk.1.2.1, ⟨hk.1.2.2.2.2, ⟨hk.1.2.2.1, hk.1.2.2.2.1⟩⟩⟩⟩⟩)), (by exact lR HO_398002.out), ⟨_, rfl⟩, (by exact lK BK390.out), (by exact lK BK397.out), (by exact IsS69.j HI0.out), (by exact jK HK.out), (by exact jB HB.out)⟩)
        ·skip
         refine goes_ Try.func20 (by kernel_rfl) rfl #[.pointer (some ⟨g, 0, none⟩), .int .i64 5] (by rfl) rfl rfl (by (try simp only [mA, mC, mN]); first | done | rfl | (simp only [ld, lt]; rfl)) ?_
         with_reducible refine (spec_l20Rd_pick.calls k1 g s0_0 x1001_1 5 t403 t404 w0 _ ?side1 ?side2 A15.out).mono ?_
         (case side1 => exact IsS69.j HI0.out)
         (case side2 => exact jB HB.out)
         rintro e w21 ⟨rfl, hi, hb, hk⟩
         refine ⟨_, rfl, ?_⟩
         replace HO_398001 := aM (Kd.N_mono (Kd.N_keep (Kd.N_mono (ok := fun k_ => (((w.heap.size ≤ k_)) ∧ (some k_ ≠ ownBlock (.slice Ao19 x398002_1.length co19) ∧ (k_ ≠ gb390 ∧ (k_ ≠ gb397 ∧ k_ ≠ g))))) (by exact lN <| HO_398001.out) (fun k_ hk_ => (⟨hk_, hk_.2.2.2.2⟩ : _ ∧ k_ ≠ g))) hk (fun _ h => h.2)) (fun _ h => h.1))
         replace HO_398002 := aM (IsS69.kp (f1 := x1001_1) (by exact IsS69.j HI0.out) (lR HO_398002.out) hk)
         replace BK390 := aM (kb hk BK390.out NB390_0.out)
         replace BK397 := aM (kb hk BK397.out NB397_0.out)
         replace HK := aM (kt HK.out hk)
         replace HB := aM (hb)
         replace HI0 := aM (hi)
         (try clear hb)
         (try clear hb2)
         (try clear hk)
         (try clear hi)
         refine hK.out _ _ ⟨(blk_cell BK397.out 0).trans rfl, (blk_cell BK397.out 1).trans rfl, (blk_cell BK397.out 2).trans rfl, (blk_cell BK397.out 3).trans rfl⟩ (fun hHeld => ?_)
         clear hK K
         refine norm_ (a' := ?_) ?_ ?_
         rotate_left
         ·show Act.put _ (some 23) _ = _
          simp only [Act.put, sA, s0, sS, i64_w, i32_w]
          rfl
         refine one_ (i := 2) (N := some 21) #[true, true, true, true, true, false, false, false, false, false, false] rfl rfl (one_of HT_.out (by kernel_rfl)) (by decide) (fun K hK => ?_)
         refine Kd.R_lit_step (Kd.int .i64) _ 3 ?hg (N := 21) ?hd (xs := ([0, 3, 9, 20, 50] : List Int)) (inner := [.int .i64 0, .int .i64 3, .int .i64 9, .int .i64 20, .int .i64 50]) (ok := fun _ => True) (okp := fun _ => True) ?hr ?hp (fun _ hk => hk) trivial (Below.refl _ _) (Nat.le_refl _) (by simp) ?_; (case hd => rfl); (case hg => rfl); (case hr => first | (go_simp; done) | (go_simp; rfl)); (case hp => exact (Reps.one (show Kd.M (Kd.int .i64) _ _ _ 0 [.int .i64 0] from rfl) (Reps.one (show Kd.M (Kd.int .i64) _ _ _ 3 [.int .i64 3] from rfl) (Reps.one (show Kd.M (Kd.int .i64) _ _ _ 9 [.int .i64 9] from rfl) (Reps.one (show Kd.M (Kd.int .i64) _ _ _ 20 [.int .i64 20] from rfl) (Reps.one (show Kd.M (Kd.int .i64) _ _ _ 50 [.int .i64 50] from rfl) (Reps.none _ _)))))))
         intro v401 w22 ho23 hb hg_ hnew_
         clear hg_ hnew_
         (first | rw [← Ny400.out] at ho23 | (simp only [Int.reduceToNat] at ho23; rw [← Ny400.out] at ho23))
         replace HO_398001 := aM (Kd.N_elder' (by exact lN <| HO_398001.out) (Kd.R_base ho23) hb)
         have HO402 := aM (Kd.R_lower (Kd.R_new' (Kd.R_newM (M := fun k_ => (w.heap.size ≤ k_)) ho23 (keep_size (w := w) (g := g) (row := none) (by exact jK HK.out)) (fun k_ h_ => h_)) (rl HO_398002.out)) (keep_size (w := w) (g := g) (row := none) (by exact jK HK.out)))
         replace HO_398002 := aM (Kd.R_elder' (by exact lR HO_398002.out) (Kd.R_base ho23) hb)
         replace BK390 := aM (bb BK390.out hb)
         replace BK397 := aM (bb BK397.out hb)
         replace HI0 := aM (IsS69.below (by exact IsS69.j HI0.out) hb)
         replace HK := aM (kbl HK.out hb)
         replace HB := aM (bj HB.out hb)
         clear hb ho23
         obtain ⟨Ao24, co24, eo24⟩ := Kd.R_slice HO402.out
         subst eo24
         obtain ⟨ado24, fo24, _⟩ := Kd.at_int (Kd.R_reads' HO402.out).2.2 0 (by decide) (by rw [Ny400.out]; simp)
         cases fo24
         refine hK.out _ _ ⟨(blk_cell BK397.out 0).trans rfl, (blk_cell BK397.out 1).trans rfl, (blk_cell BK397.out 2).trans rfl, (blk_cell BK397.out 3).trans rfl⟩ (fun hHeld => ?_)
         clear hK K
         refine norm_ (a' := ?_) ?_ ?_
         rotate_left
         ·show Act.put _ (some 21) _ = _
          simp only [Act.put, sA, s0, sS, i64_w, i32_w]
          rfl
         exact norm_ (by simp only [putAll, Act.put, List.setIfInBounds_toArray, List.set_cons_zero, List.set_cons_succ]) (hCont (.slice (some ado24) y400.length co24, ado24) _ ⟨hHeld, (by exact lR <| Kd.R_mono HO402.out (fun _ hk => ⟨hk.1.1, hk.2⟩)), (by exact lN <| Kd.N_mono HO_398001.out (fun _ hk => ⟨hk.1.1, ⟨hk.2, ⟨hk.1.2.1, ⟨hk.1.2.2.2.2, ⟨hk.1.2.2.1, hk.1.2.2.2.1⟩⟩⟩⟩⟩)), (by exact lR HO_398002.out), ⟨_, rfl⟩, (by exact lK BK390.out), (by exact lK BK397.out), (by exact IsS69.j HI0.out), (by exact jK HK.out), (by exact jB HB.out)⟩)
       rintro ⟨v401, adz_v401⟩ w25 ⟨hS_, h0_, h1_, h2_, h3_, h4_, h5_, h6_, h7_, h8_⟩
       have HO402 : Aside0 (Kd.R (Kd.int .i64) 3 w25 w.heap.size (fun k_ => (w.heap.size ≤ k_) ∧ some k_ ≠ ownBlock (.slice Ao19 x398002_1.length co19)) v401 y400) := ⟨h0_⟩
       replace HO_398001 : Aside0 (Kd.N (Kd.slice 45 k45) 33 w25 w.heap.size (fun k_ => (w.heap.size ≤ k_) ∧ some k_ ≠ v401.ownBlock ∧ some k_ ≠ ownBlock (.slice Ao19 x398002_1.length co19) ∧ k_ ≠ g ∧ k_ ≠ gb390 ∧ k_ ≠ gb397) (.slice Ao8 t393.length co8) t393) := ⟨h1_⟩
       replace HO_398002 : Aside0 (Kd.R (Kd.int .i64) 3 w25 w.heap.size (fun k_ => (w.heap.size ≤ k_) ∧ some k_ ≠ v401.ownBlock) (.slice Ao19 x398002_1.length co19) x398002_1) := ⟨h2_⟩
       have HA_HO402 : Aside0 (∃ c_, (v401 : Value) = .slice (some adz_v401) y400.length c_) := ⟨h3_⟩
       replace BK390 : Aside0 (w25.heap[gb390]? = some (.cells #[.int .i64 0, .slice none 0 0, .slice none 0 0, .slice none 0 0] 26 (0, 0))) := ⟨h4_⟩
       replace BK397 : Aside0 (w25.heap[gb397]? = some (.cells #[.int .i64 (wrap64 (1 + t391)), .slice Ao8 t393.length co8, .slice Ao19 x398002_1.length co19, .slice none 0 0] 26 (0, 0))) := ⟨h5_⟩
       replace HI0 : Aside0 (IsS69 w0 w25 g s0_0 t404) := ⟨h6_⟩
       replace HK : Aside0 (KeepBut w w25 g none) := ⟨h7_⟩
       replace HB : Aside0 (Below w0.heap.size w0 w25) := ⟨h8_⟩
       clear h0_ h1_ h2_ h3_ h4_ h5_ h6_ h7_ h8_
       have hHeld : w25.cell? ⟨gb397, 0, none⟩ = some (.int .i64 (wrap64 (1 + t391))) ∧ w25.cell? ⟨gb397, 1, none⟩ = some (.slice Ao8 t393.length co8) ∧ w25.cell? ⟨gb397, 2, none⟩ = some (.slice Ao19 x398002_1.length co19) ∧ w25.cell? ⟨gb397, 3, none⟩ = some (.slice none 0 0) := hS_
       obtain ⟨co26, eo26⟩ := HA_HO402.out
       clear HA_HO402
       subst eo26
       refine norm_ (a' := ?_) ?_ ?_
       rotate_left
       ·simp only [putAll, Act.put, List.setIfInBounds_toArray, List.set_cons_zero, List.set_cons_succ]
        rfl
       refine pure_ (i := 5) (N := some 24) (v := ?_) (a' := ?_) #[true, true, true, true, true, true, false, false, false, false, false] rfl rfl (any_of HT_.out (by kernel_rfl)) (fun _ _ _ h => h) (Or.inl ⟨by rfl, ?_⟩) ?_ ?_
       rotate_left
       ·intro w'
        go_simp
        with_reducible rfl
       rotate_left
       ·simp only [Act.put, sA, s0, sS, i64_w, i32_w]
        rfl
       refine one_ (i := 6) (N := some 25) #[true, true, true, true, true, true, true, false, false, false, false] rfl rfl (one_of HT_.out (by kernel_rfl)) (by decide) (fun K hK => ?_)
       (have p405 : 0 ≤ (t403 : Int) := of_decide_eq_true (by first | (with_reducible assumption) | assumption); have q405 : t403 < (y400.length : Int) := of_decide_eq_true (by first | (with_reducible assumption) | assumption); obtain ⟨ad405, e405, hx405_0⟩ := Kd.at_int (Kd.R_reads' HO402.out).2.2 t403 p405 q405; obtain rfl : adz_v401 = ad405 := (by injection e405))
       refine value_ (w1 := ?_) (v := ?_) (by rfl) rfl ?_ ?_
       rotate_left 2
       ·go_simp
        constructor
        ·rfl
        ·rfl
       clear hx405_0
       refine hK.out _ _ ⟨(blk_cell BK397.out 0).trans rfl, (blk_cell BK397.out 1).trans rfl, (blk_cell BK397.out 2).trans rfl, (blk_cell BK397.out 3).trans rfl⟩ (fun hHeld => ?_)
       clear hK K
       refine norm_ (a' := ?_) ?_ ?_
       rotate_left
       ·show Act.put _ (some 25) _ = _
        simp only [Act.put, sA, s0, sS, i64_w, i32_w]
        rfl
       refine one_ (i := 7) (N := some 26) #[true, true, true, true, true, true, true, true, false, false, false] rfl rfl (one_of HT_.out (by kernel_rfl)) (by decide) (fun K hK => ?_)
       refine value_ (w1 := ?_) (v := ?_) (by rfl) rfl ?_ ?_
       rotate_left 2
       ·go_simp
        constructor
        ·rfl
        ·rfl
       refine hK.out _ _ ⟨(blk_cell (blk_alloc BK397.out _) 0).trans rfl, (blk_cell (blk_alloc BK397.out _) 1).trans rfl, (blk_cell (blk_alloc BK397.out _) 2).trans rfl, (blk_cell (blk_alloc BK397.out _) 3).trans rfl⟩ (fun hHeld => ?_)
       clear hK K
       refine norm_ (a' := ?_) ?_ ?_
       rotate_left
       ·show Act.put _ (some 26) _ = _
        simp only [Act.put, sA, s0, sS, i64_w, i32_w]
        rfl
       refine one_ (i := 8) (N := some 27) #[true, true, true, true, true, true, true, true, true, false, false] rfl rfl (one_of HT_.out (by kernel_rfl)) (by decide) (fun K hK => ?_)
       refine Kd.R_append_step (Kd.int .i64) w.heap.size (by rfl) (.tmp 20) (.tmp 26) 24 3 (.int .i64 0) 8 rfl Try.underlying24 info3 rfl (by decide) (by omega) (.slice Ao19 x398002_1.length co19) x398002_1 (rd y400 t403) [.int .i64 (rd y400 t403)] (fun k_ => (w.heap.size ≤ k_) ∧ some k_ ≠ ownBlock (.slice (some adz_v401) y400.length co26)) (fun _ => False) rfl rfl ?aP (fun _ hk => hk.elim) ?aF ?aO (Below.refl _ _) ?aS ?aL ?_
       (case aP => exact rfl)
       (case aF => exact (fun k_ hk => ⟨(Nat.le_trans (keep_size (w := w) (g := g) (row := none) (by exact jK HK.out)) hk), Kd.fresh' (rl HO402.out) k_ hk⟩))
       (case aO => exact (by exact lR HO_398002.out))
       (case aS => exact (keep_size (w := w) (g := g) (row := none) (by exact jK HK.out)))
       (case aL => have := LMc18.out; omega)
       intro v407 w27 ho hb hg hat
       rw [← Ny406.out] at ho
       replace HO_398001 := aM (Kd.N_afterv (ok := (fun k_ => (w.heap.size ≤ k_) ∧ some k_ ≠ ownBlock (.slice (some adz_v401) y400.length co26) ∧ k_ ≠ g ∧ k_ ≠ gb390 ∧ k_ ≠ gb397)) (by exact lN <| Kd.N_mono HO_398001.out (fun _ hk => ⟨⟨hk.1, ⟨hk.2.1, ⟨hk.2.2.2.1, ⟨hk.2.2.2.2.1, hk.2.2.2.2.2⟩⟩⟩⟩, hk.2.2.1⟩)) hg hat)
       replace BK390 := aM (blk_grown (g := gb390) (o := .cells #[.int .i64 0, .slice none 0 0, .slice none 0 0, .slice none 0 0] 26 (0, 0)) (by exact lK BK390.out) hg (Kd.R_ne HO_398002.out BK390.out (by decide)))
       replace BK397 := aM (blk_grown (g := gb397) (o := .cells #[.int .i64 (wrap64 (1 + t391)), .slice Ao8 t393.length co8, .slice Ao19 x398002_1.length co19, .slice none 0 0] 26 (0, 0)) (by exact lK BK397.out) hg (Kd.R_ne HO_398002.out BK397.out (by decide)))
       replace HI0 := aM (IsS69.grown (by exact IsS69.j HI0.out) hg (IsS69.own_ne HI0.out HO_398002.out (by decide)))
       replace HO402 := aM (Kd.R_after (ok := (fun k_ => (w.heap.size ≤ k_))) (by exact lR HO402.out) hg hat)
       replace HB := aM (below_weaken (by exact jB HB.out) HL.out hb)
       replace HK := aM (KeepBut.trans (by exact jK HK.out) (KeepBut.of_grown hg g) (Kd.R_base2 HO_398002.out))
       have HO408 := aM (ho)
       clear HO_398002 ho hb hg hat
       obtain ⟨Ao28, co28, eo28⟩ := Kd.R_slice HO408.out
       (first | subst eo28 | (injection eo28 with f1_ f2_ f3_; have f4_ := f1_.symm; have f5_ := f3_.symm; clear f1_ f2_ f3_; subst f4_; subst f5_))
       refine hK.out _ _ ⟨(blk_cell BK397.out 0).trans rfl, (blk_cell BK397.out 1).trans rfl, (blk_cell BK397.out 2).trans rfl, (blk_cell BK397.out 3).trans rfl⟩ (fun hHeld => ?_)
       clear hK K
       refine norm_ (a' := ?_) ?_ ?_
       rotate_left
       ·show Act.put _ (some 27) _ = _
        simp only [Act.put, sA, s0, sS, i64_w, i32_w]
        rfl
       refine pure_ (i := 9) (N := some 28) (v := ?_) (a' := ?_) #[true, true, true, true, true, true, true, true, true, true, false] rfl rfl (any_of HT_.out (by kernel_rfl)) (fun _ _ _ h => h) (Or.inl ⟨by rfl, ?_⟩) ?_ ?_
       rotate_left
       ·intro w'
        go_simp
        with_reducible rfl
       rotate_left
       ·simp only [Act.put, sA, s0, sS, i64_w, i32_w]
        rfl
       refine last_ (i := 10) (N := none) #[true, true, true, true, true, true, true, true, true, true, true] rfl rfl (one_of HT_.out (by kernel_rfl)) (by decide) (fun K hK => ?_)
       have hs29 : w27.cell? ⟨gb397, 2, none⟩ = some (.slice Ao19 x398002_1.length co19) := (blk_cell BK397.out 2).trans rfl
       have hfs29 := blk_frozen BK397.out 2
       have hns29_0 := NB390_397.out
       have hms29_0 := NB397_390.out
       refine skip_ (w1 := ?_) (by rfl) rfl ?_ ?_
       rotate_left
       ·go_simp
        rfl
       refine hK.out _ _ ?_
       clear hK K
       refine done_ (done_of HT_.out (by kernel_rfl)) ?_
       try go_wp2
       go_roundg k1
       case measure => have := HK1.out; omega
       case rel => exact ⟨(wrap64 (x4_1 - 1)), (t404), (y406), (.slice Ao28 y406.length co28), (by first | rfl | (simp; done) | (simp [*]; done)), H', ⟨by have := HK1.out; omega⟩, ⟨by exact lN <| Kd.N_mono (Kd.N_far (p := ⟨gb397, 2, none⟩) (Kd.N_mono HO_398001.out (fun k_ hk => (⟨hk, hk.1.2.2.2.2⟩ : _ ∧ k_ ≠ gb397))) (fun _ hk => hk.2) (.slice Ao28 y406.length co28)) (fun _ hk => ⟨hk.1.1.1, ⟨hk.1.2, ⟨hk.1.1.2.2.2.1, ⟨hk.1.1.2.2.2.2, hk.1.1.2.2.1⟩⟩⟩⟩)⟩, ⟨by exact lR <| Kd.R_mono (Kd.R_far (p := ⟨gb397, 2, none⟩) (Kd.R_types HO408.out BK397.out (by decide)) (fun _ hk => hk.2) (.slice Ao28 y406.length co28)) (fun _ hk => hk.1.1)⟩, ⟨by (with_reducible repeat first | refine kN ?_ _ | refine kD ?_ | refine kA ?_ _); refine blk_far ?_ NB390_397.out _; exact lK <| BK390.out⟩, ⟨by (with_reducible repeat first | refine kN ?_ _ | refine kD ?_ | refine kA ?_ _); refine blk_put (cs := #[.int .i64 (wrap64 (1 + t391)), .slice Ao8 t393.length co8, .slice Ao19 x398002_1.length co19, .slice none 0 0]) ?_ 2 _ rfl; exact lK <| BK397.out⟩, ⟨by exact IsS69.j HI0.out⟩, ⟨by exact jK HK.out⟩, ⟨by exact jB HB.out⟩⟩
      ·rw [if_neg c18] at H
       exact absurd H (by simp)
     ·rw [if_neg c17] at H
      exact absurd H (by simp)
    ·rw [if_neg c16] at H
     exact absurd H (by simp)
   ·rw [if_neg c14] at H
    have c14b0 := decide_eq_false c14
    clear c14
    have H' := aM H
    clear H
    go_wp2
    go_loopg [5] k1 (fun kq v5 w' => ∃ (x5_2 : Int) (x1001_2 : Int) (x398003_2 : List Int) (u398003 : Value), v5 = .int .i64 x5_2 ∧ Aside0 (spec_l21Plan.l1 kq x5_2 s0_0 x1001_2 (wrap64 (1 + t391)) t393 x398002_1 x398003_2 = some (r1, r2, r3, r4, r5)) ∧ Aside0 (kq ≤ k1) ∧ Aside0 (Kd.N (Kd.slice 45 k45) 33 w' w.heap.size (fun k_ => (w.heap.size ≤ k_) ∧ some k_ ≠ (u398002 : Value).ownBlock ∧ some k_ ≠ (u398003 : Value).ownBlock ∧ k_ ≠ gb390 ∧ k_ ≠ gb397 ∧ k_ ≠ g) (.slice Ao8 t393.length co8) t393) ∧ Aside0 (Kd.R (Kd.int .i64) 3 w' w.heap.size (fun k_ => (w.heap.size ≤ k_) ∧ some k_ ≠ (u398003 : Value).ownBlock) u398002 x398002_1) ∧ Aside0 (Kd.R (Kd.int .i64) 3 w' w.heap.size (fun k_ => (w.heap.size ≤ k_) ∧ some k_ ≠ (u398002 : Value).ownBlock) u398003 x398003_2) ∧ Aside0 (w'.heap[gb390]? = some (.cells #[.int .i64 0, (.slice none 0 0), (.slice none 0 0), (.slice none 0 0)] 26 (0, 0))) ∧ Aside0 (w'.heap[gb397]? = some (.cells #[.int .i64 (wrap64 (1 + t391)), (.slice Ao8 t393.length co8), u398002, u398003] 26 (0, 0))) ∧ Aside0 (IsS69 w0 w' g s0_0 x1001_2) ∧ Aside0 (KeepBut w w' g none) ∧ Aside0 (Below w0.heap.size w0 w'))
    case atStart => exact ⟨(0), (x1001_1), (([] : List Int)), (.slice none 0 0), (by first | rfl | (simp; done) | (simp [*]; done)), H', ⟨Nat.le_refl _⟩, ⟨by exact lN <| Kd.N_mono HO_398001.out (fun _ hk => ⟨hk.1, ⟨hk.2.1, ⟨(by simp [Value.ownBlock]), ⟨hk.2.2.1, ⟨hk.2.2.2.1, hk.2.2.2.2⟩⟩⟩⟩⟩)⟩, ⟨by exact lR <| Kd.R_mono HO_398002.out (fun _ hk => ⟨hk, (by simp [Value.ownBlock])⟩)⟩, ⟨by first | exact Kd.R_nil _ _ _ _ _ | exact Kd.N_nil _ _ _ _ _ | exact Kd.V_nil _ _ _ _ _ | exact Kd.Q_nil _ _ _ _ _ | exact Kd.S_nil _ _ _ _ _⟩, ⟨by exact lK <| BK390.out⟩, ⟨by exact lK <| BK397.out⟩, ⟨by exact IsS69.j HI0.out⟩, ⟨by exact jK HK.out⟩, ⟨by exact jB HB.out⟩⟩
    case round =>
     clear H'
     try clear c1
     try clear c2
     try clear p2
     try clear c4
     try clear p4
     try clear q4
     try clear hx4
     try clear qi4
     try clear c6
     try clear p6
     try clear c10
     try clear c11
     try clear c14
     try clear c14b0
     try clear c16
     try clear c16b0
     try clear c17
     try clear c17b0
     try clear c18
     try clear c20
     try clear hcz12_0
     try clear hcz12_1
     try clear hcz12_2
     try clear hcz12_3
     try clear hfz12_0
     try clear hfz12_1
     try clear hfz12_2
     try clear hfz12_3
     try clear hx405_0
     try clear p2
     try clear p405
     try clear p6
     try clear q405
     obtain ⟨x5_2, x1001_2, x398003_2, u398003, rfl, HA, HK2, HO_398001, HO_398002, HO_398003, BK390, BK397, HI0, HK, HB⟩ := hrel
     cases gk with
     | zero => exact absurd HA.out (by simp [spec_l21Plan.l1])
     | succ k2 =>
      have H := HA.out
      clear HA
      simp only [spec_l21Plan.l1] at H
      by_cases c30 : x5_2 < 3
      ·rw [if_pos c30] at H
       have c30b0 := decide_eq_true c30
       clear c30
       obtain ⟨y409, hy409⟩ : ∃ y_ : List Int, y_ = (([0, 5, 20, 60, 200, (-8)] : List Int)) := ⟨_, rfl⟩
       try rw [← hy409] at H
       try dsimp only [Option.bind_some] at H
       have Ny409 := aM hy409
       clear hy409
       obtain ⟨⟨t412, t413⟩, A31, H⟩ := bS H
       try dsimp only at H
       by_cases c32 : 0 ≤ t412
       ·rw [if_pos c32] at H
        have c32b0 := decide_eq_true c32
        clear c32
        by_cases c33 : t412 < (y409.length : Int)
        ·rw [if_pos c33] at H
         have c33b0 := decide_eq_true c33
         clear c33
         by_cases c34 : x398003_2.length < 17592186044416
         ·rw [if_pos c34] at H
          have LMc34 := aM c34
          clear c34
          obtain ⟨y415, hy415⟩ : ∃ y_ : List Int, y_ = (x398003_2 ++ [rd y409 t412]) := ⟨_, rfl⟩
          try rw [← hy415] at H
          try dsimp only [Option.bind_some] at H
          have Ny415 := aM hy415
          clear hy415
          have H' := aM H
          clear H
          obtain ⟨Ao35, co35, eo35⟩ := Kd.R_slice HO_398003.out
          subst eo35
          try go_wp2
          have pi414 : (0 ≤ (t412 : Int)) = True := eq_true (of_decide_eq_true (by first | (with_reducible assumption) | assumption))
          have qi414 : (t412 < (y409.length : Int)) = True := eq_true (of_decide_eq_true (by first | (with_reducible assumption) | assumption))
          replace HO_398001 := aM (Kd.N_drew HO_398001.out)
          replace HO_398002 := aM (Kd.R_drew HO_398002.out)
          replace HO_398003 := aM (Kd.R_drew HO_398003.out)
          replace BK390 := aM (blk_drew BK390.out)
          replace BK397 := aM (blk_drew BK397.out)
          replace HI0 := aM (IsS69.drew HI0.out)
          replace HK := aM (keep_drew HK.out)
          replace HB := aM (below_drew1 HB.out)
          refine start_ (n := 11) (S := fun w' => w'.cell? ⟨gb397, 0, none⟩ = some (.int .i64 (wrap64 (1 + t391))) ∧ w'.cell? ⟨gb397, 1, none⟩ = some (.slice Ao8 t393.length co8) ∧ w'.cell? ⟨gb397, 2, none⟩ = some (u398002) ∧ w'.cell? ⟨gb397, 3, none⟩ = some (.slice Ao35 x398003_2.length co35)) (ds := [10]) #[false, false, false, false, false, false, false, false, false, false, false] (by kernel_rfl) rfl rfl ⟨(blk_cell BK397.out 0).trans rfl, (blk_cell BK397.out 1).trans rfl, (blk_cell BK397.out 2).trans rfl, (blk_cell BK397.out 3).trans rfl⟩ (fun hHeld => ?_); refine with_tabW spec_l21Plan.tab9 spec_l21Plan.bits9 (fun HT_ HW_ => ?_)
          generalize wr.drew = w36 at HO_398001 HO_398002 HO_398003 BK390 BK397 HI0 HK HB hHeld ⊢
          refine pure_ (i := 0) (N := some 33) (v := ?_) (a' := ?_) #[true, false, false, false, false, false, false, false, false, false, false] rfl rfl (any_of HT_.out (by kernel_rfl)) (fun _ _ _ h => h) (Or.inl ⟨by rfl, ?_⟩) ?_ ?_
          rotate_left
          ·intro w'
           go_simp
           with_reducible rfl
          rotate_left
          ·simp only [Act.put, sA, s0, sS, i64_w, i32_w]
           rfl
          refine pure_ (i := 3) (N := some 36) (v := ?_) (a' := ?_) #[true, false, false, true, false, false, false, false, false, false, false] rfl rfl (any_of HT_.out (by kernel_rfl)) (fun _ _ _ h => h) (Or.inl ⟨by rfl, ?_⟩) ?_ ?_
          rotate_left
          ·intro w'
           go_simp
           with_reducible rfl
          rotate_left
          ·simp only [Act.put, sA, s0, sS, i64_w, i32_w]
           rfl
          refine take_ (i := 1) (N := some 34) (v := ?_) (a' := ?_) #[true, true, false, true, false, false, false, false, false, false, false] rfl rfl (take_ofW HT_.out HW_.out (by kernel_rfl)) (fun _ _ _ h => h) (Or.inl ⟨by rfl, ?_⟩) hHeld ?_ ?_
          rotate_left
          ·rintro w' ⟨s0, s1, s2, s3⟩
           go_simp
           with_reducible rfl
          rotate_left
          ·simp only [Act.put, sA, s0, sS, i64_w, i32_w]
           rfl
          refine join_ (σ := Value × Addr) 6 #[true, true, true, true, true, false, false, false, false, false, false] (fun s_ => [(35, s_.1), (37, .int .i64 t412)]) (fun s_ w' => (w'.cell? ⟨gb397, 0, none⟩ = some (.int .i64 (wrap64 (1 + t391))) ∧ w'.cell? ⟨gb397, 1, none⟩ = some (.slice Ao8 t393.length co8) ∧ w'.cell? ⟨gb397, 2, none⟩ = some (u398002) ∧ w'.cell? ⟨gb397, 3, none⟩ = some (.slice Ao35 x398003_2.length co35)) ∧ (Kd.R (Kd.int .i64) 3 w' w.heap.size (fun k_ => (w.heap.size ≤ k_) ∧ some k_ ≠ (u398002 : Value).ownBlock ∧ some k_ ≠ ownBlock (.slice Ao35 x398003_2.length co35)) s_.1 y409) ∧ (Kd.N (Kd.slice 45 k45) 33 w' w.heap.size (fun k_ => (w.heap.size ≤ k_) ∧ some k_ ≠ (s_.1 : Value).ownBlock ∧ some k_ ≠ (u398002 : Value).ownBlock ∧ some k_ ≠ ownBlock (.slice Ao35 x398003_2.length co35) ∧ k_ ≠ g ∧ k_ ≠ gb390 ∧ k_ ≠ gb397) (.slice Ao8 t393.length co8) t393) ∧ (Kd.R (Kd.int .i64) 3 w' w.heap.size (fun k_ => (w.heap.size ≤ k_) ∧ some k_ ≠ (s_.1 : Value).ownBlock ∧ some k_ ≠ ownBlock (.slice Ao35 x398003_2.length co35)) u398002 x398002_1) ∧ (Kd.R (Kd.int .i64) 3 w' w.heap.size (fun k_ => (w.heap.size ≤ k_) ∧ some k_ ≠ (s_.1 : Value).ownBlock ∧ some k_ ≠ (u398002 : Value).ownBlock) (.slice Ao35 x398003_2.length co35) x398003_2) ∧ (∃ c_, (s_.1 : Value) = .slice (some s_.2) y409.length c_) ∧ (w'.heap[gb390]? = some (.cells #[.int .i64 0, .slice none 0 0, .slice none 0 0, .slice none 0 0] 26 (0, 0))) ∧ (w'.heap[gb397]? = some (.cells #[.int .i64 (wrap64 (1 + t391)), .slice Ao8 t393.length co8, u398002, .slice Ao35 x398003_2.length co35] 26 (0, 0))) ∧ (IsS69 w0 w' g s0_0 t413) ∧ (KeepBut w w' g none) ∧ (Below w0.heap.size w0 w')) ?_ ?_
          rotate_left
          ·intro hCont
           refine two_ (i := 2) (j := 4) (Ni := some 35) (Nj := some 37) #[true, true, true, true, false, false, false, false, false, false, false] #[true, true, false, true, true, false, false, false, false, false, false] rfl rfl rfl rfl (two_of HT_.out (by kernel_rfl)) (by decide) (by decide) (fun K hK => ?_) (fun K hK => ?_)
           ·skip
            refine Kd.R_lit_step (Kd.int .i64) _ 3 ?hg (N := 35) ?hd (xs := ([0, 5, 20, 60, 200, (-8)] : List Int)) (inner := [.int .i64 0, .int .i64 5, .int .i64 20, .int .i64 60, .int .i64 200, .int .i64 (-8)]) (ok := fun _ => True) (okp := fun _ => True) ?hr ?hp (fun _ hk => hk) trivial (Below.refl _ _) (Nat.le_refl _) (by simp) ?_; (case hd => rfl); (case hg => rfl); (case hr => first | (go_simp; done) | (go_simp; rfl)); (case hp => exact (Reps.one (show Kd.M (Kd.int .i64) _ _ _ 0 [.int .i64 0] from rfl) (Reps.one (show Kd.M (Kd.int .i64) _ _ _ 5 [.int .i64 5] from rfl) (Reps.one (show Kd.M (Kd.int .i64) _ _ _ 20 [.int .i64 20] from rfl) (Reps.one (show Kd.M (Kd.int .i64) _ _ _ 60 [.int .i64 60] from rfl) (Reps.one (show Kd.M (Kd.int .i64) _ _ _ 200 [.int .i64 200] from rfl) (Reps.one (show Kd.M (Kd.int .i64) _ _ _ (-8) [.int .i64 (-8)] from rfl) (Reps.none _ _))))))))
            intro v410 w37 ho38 hb hg_ hnew_
            clear hg_ hnew_
            (first | rw [← Ny409.out] at ho38 | (simp only [Int.reduceToNat] at ho38; rw [← Ny409.out] at ho38))
            replace HO_398001 := aM (Kd.N_elder' (by exact lN <| HO_398001.out) (Kd.R_base ho38) hb)
            have HO411 := aM (Kd.R_lower (Kd.R_new' (Kd.R_new' (Kd.R_newM (M := fun k_ => (w.heap.size ≤ k_)) ho38 (keep_size (w := w) (g := g) (row := none) (by exact jK HK.out)) (fun k_ h_ => h_)) (rl HO_398002.out)) (rl HO_398003.out)) (keep_size (w := w) (g := g) (row := none) (by exact jK HK.out)))
            replace HO_398002 := aM (Kd.R_elder' (by exact lR HO_398002.out) (Kd.R_base ho38) hb)
            replace HO_398003 := aM (Kd.R_elder' (by exact lR HO_398003.out) (Kd.R_base ho38) hb)
            replace BK390 := aM (bb BK390.out hb)
            replace BK397 := aM (bb BK397.out hb)
            replace HI0 := aM (IsS69.below (by exact IsS69.j HI0.out) hb)
            replace HK := aM (kbl HK.out hb)
            replace HB := aM (bj HB.out hb)
            clear hb ho38
            obtain ⟨Ao39, co39, eo39⟩ := Kd.R_slice HO411.out
            subst eo39
            obtain ⟨ado39, fo39, _⟩ := Kd.at_int (Kd.R_reads' HO411.out).2.2 0 (by decide) (by rw [Ny409.out]; simp)
            cases fo39
            refine hK.out _ _ ⟨(blk_cell BK397.out 0).trans rfl, (blk_cell BK397.out 1).trans rfl, (blk_cell BK397.out 2).trans rfl, (blk_cell BK397.out 3).trans rfl⟩ (fun hHeld => ?_)
            clear hK K
            refine norm_ (a' := ?_) ?_ ?_
            rotate_left
            ·show Act.put _ (some 35) _ = _
             simp only [Act.put, sA, s0, sS, i64_w, i32_w]
             rfl
            refine one_ (i := 4) (N := some 37) #[true, true, true, true, true, false, false, false, false, false, false] rfl rfl (one_of HT_.out (by kernel_rfl)) (by decide) (fun K hK => ?_)
            refine goes_ Try.func20 (by kernel_rfl) rfl #[.pointer (some ⟨g, 0, none⟩), .int .i64 6] (by rfl) rfl rfl (by (try simp only [mA, mC, mN]); first | done | rfl | (simp only [ld, lt]; rfl)) ?_
            with_reducible refine (spec_l20Rd_pick.calls k2 g s0_0 x1001_2 6 t412 t413 w0 _ ?side1 ?side2 A31.out).mono ?_
            (case side1 => exact IsS69.j HI0.out)
            (case side2 => exact jB HB.out)
            rintro e w40 ⟨rfl, hi, hb, hk⟩
            refine ⟨_, rfl, ?_⟩
            replace HO_398001 := aM (Kd.N_mono (Kd.N_keep (Kd.N_mono (ok := fun k_ => ((((w.heap.size ≤ k_)) ∧ (some k_ ≠ (u398002 : Value).ownBlock ∧ (some k_ ≠ ownBlock (.slice Ao35 x398003_2.length co35) ∧ (k_ ≠ gb390 ∧ (k_ ≠ gb397 ∧ k_ ≠ g))))) ∧ some k_ ≠ ownBlock (.slice (some ado39) y409.length co39))) (by exact lN <| HO_398001.out) (fun k_ hk_ => (⟨hk_, hk_.1.2.2.2.2.2⟩ : _ ∧ k_ ≠ g))) hk (fun _ h => h.2)) (fun _ h => h.1))
            replace HO_398002 := aM (IsS69.kp (f1 := x1001_2) (by exact IsS69.j HI0.out) (lR HO_398002.out) hk)
            replace HO_398003 := aM (IsS69.kp (f1 := x1001_2) (by exact IsS69.j HI0.out) (lR HO_398003.out) hk)
            replace BK390 := aM (kb hk BK390.out NB390_0.out)
            replace BK397 := aM (kb hk BK397.out NB397_0.out)
            replace HO411 := aM (IsS69.kp (f1 := x1001_2) (by exact IsS69.j HI0.out) (lR HO411.out) hk)
            replace HK := aM (kt HK.out hk)
            replace HB := aM (hb)
            replace HI0 := aM (hi)
            (try clear hb)
            (try clear hb2)
            (try clear hk)
            (try clear hi)
            refine hK.out _ _ ⟨(blk_cell BK397.out 0).trans rfl, (blk_cell BK397.out 1).trans rfl, (blk_cell BK397.out 2).trans rfl, (blk_cell BK397.out 3).trans rfl⟩ (fun hHeld => ?_)
            clear hK K
            refine norm_ (a' := ?_) ?_ ?_
            rotate_left
            ·show Act.put _ (some 37) _ = _
             simp only [Act.put, sA, s0, sS, i64_w, i32_w]
             rfl
            exact norm_ (by simp only [putAll, Act.put, List.setIfInBounds_toArray, List.set_cons_zero, List.set_cons_succ]) (hCont (.slice (some ado39) y409.length co39, ado39) _ ⟨hHeld, (by exact lR <| Kd.R_mono HO411.out (fun _ hk => ⟨hk.1.1.1, ⟨hk.1.2, hk.2⟩⟩)), (by exact lN <| Kd.N_mono HO_398001.out (fun _ hk => ⟨hk.1.1, ⟨hk.2, ⟨hk.1.2.1, ⟨hk.1.2.2.1, ⟨hk.1.2.2.2.2.2, ⟨hk.1.2.2.2.1, hk.1.2.2.2.2.1⟩⟩⟩⟩⟩⟩)), (by exact lR <| Kd.R_mono HO_398002.out (fun _ hk => ⟨hk.1.1, ⟨hk.2, hk.1.2⟩⟩)), (by exact lR <| Kd.R_mono HO_398003.out (fun _ hk => ⟨hk.1.1, ⟨hk.2, hk.1.2⟩⟩)), ⟨_, rfl⟩, (by exact lK BK390.out), (by exact lK BK397.out), (by exact IsS69.j HI0.out), (by exact jK HK.out), (by exact jB HB.out)⟩)
           ·skip
            refine goes_ Try.func20 (by kernel_rfl) rfl #[.pointer (some ⟨g, 0, none⟩), .int .i64 6] (by rfl) rfl rfl (by (try simp only [mA, mC, mN]); first | done | rfl | (simp only [ld, lt]; rfl)) ?_
            with_reducible refine (spec_l20Rd_pick.calls k2 g s0_0 x1001_2 6 t412 t413 w0 _ ?side1 ?side2 A31.out).mono ?_
            (case side1 => exact IsS69.j HI0.out)
            (case side2 => exact jB HB.out)
            rintro e w37 ⟨rfl, hi, hb, hk⟩
            refine ⟨_, rfl, ?_⟩
            replace HO_398001 := aM (Kd.N_mono (Kd.N_keep (Kd.N_mono (ok := fun k_ => (((w.heap.size ≤ k_)) ∧ (some k_ ≠ (u398002 : Value).ownBlock ∧ (some k_ ≠ ownBlock (.slice Ao35 x398003_2.length co35) ∧ (k_ ≠ gb390 ∧ (k_ ≠ gb397 ∧ k_ ≠ g)))))) (by exact lN <| HO_398001.out) (fun k_ hk_ => (⟨hk_, hk_.2.2.2.2.2⟩ : _ ∧ k_ ≠ g))) hk (fun _ h => h.2)) (fun _ h => h.1))
            replace HO_398002 := aM (IsS69.kp (f1 := x1001_2) (by exact IsS69.j HI0.out) (lR HO_398002.out) hk)
            replace HO_398003 := aM (IsS69.kp (f1 := x1001_2) (by exact IsS69.j HI0.out) (lR HO_398003.out) hk)
            replace BK390 := aM (kb hk BK390.out NB390_0.out)
            replace BK397 := aM (kb hk BK397.out NB397_0.out)
            replace HK := aM (kt HK.out hk)
            replace HB := aM (hb)
            replace HI0 := aM (hi)
            (try clear hb)
            (try clear hb2)
            (try clear hk)
            (try clear hi)
            refine hK.out _ _ ⟨(blk_cell BK397.out 0).trans rfl, (blk_cell BK397.out 1).trans rfl, (blk_cell BK397.out 2).trans rfl, (blk_cell BK397.out 3).trans rfl⟩ (fun hHeld => ?_)
            clear hK K
            refine norm_ (a' := ?_) ?_ ?_
            rotate_left
            ·show Act.put _ (some 37) _ = _
             simp only [Act.put, sA, s0, sS, i64_w, i32_w]
             rfl
            refine one_ (i := 2) (N := some 35) #[true, true, true, true, true, false, false, false, false, false, false] rfl rfl (one_of HT_.out (by kernel_rfl)) (by decide) (fun K hK => ?_)
            refine Kd.R_lit_step (Kd.int .i64) _ 3 ?hg (N := 35) ?hd (xs := ([0, 5, 20, 60, 200, (-8)] : List Int)) (inner := [.int .i64 0, .int .i64 5, .int .i64 20, .int .i64 60, .int .i64 200, .int .i64 (-8)]) (ok := fun _ => True) (okp := fun _ => True) ?hr ?hp (fun _ hk => hk) trivial (Below.refl _ _) (Nat.le_refl _) (by simp) ?_; (case hd => rfl); (case hg => rfl); (case hr => first | (go_simp; done) | (go_simp; rfl)); (case hp => exact (Reps.one (show Kd.M (Kd.int .i64) _ _ _ 0 [.int .i64 0] from rfl) (Reps.one (show Kd.M (Kd.int .i64) _ _ _ 5 [.int .i64 5] from rfl) (Reps.one (show Kd.M (Kd.int .i64) _ _ _ 20 [.int .i64 20] from rfl) (Reps.one (show Kd.M (Kd.int .i64) _ _ _ 60 [.int .i64 60] from rfl) (Reps.one (show Kd.M (Kd.int .i64) _ _ _ 200 [.int .i64 200] from rfl) (Reps.one (show Kd.M (Kd.int .i64) _ _ _ (-8) [.int .i64 (-8)] from rfl) (Reps.none _ _))))))))
            intro v410 w38 ho39 hb hg_ hnew_
            clear hg_ hnew_
            (first | rw [← Ny409.out] at ho39 | (simp only [Int.reduceToNat] at ho39; rw [← Ny409.out] at ho39))
            replace HO_398001 := aM (Kd.N_elder' (by exact lN <| HO_398001.out) (Kd.R_base ho39) hb)
            have HO411 := aM (Kd.R_lower (Kd.R_new' (Kd.R_new' (Kd.R_newM (M := fun k_ => (w.heap.size ≤ k_)) ho39 (keep_size (w := w) (g := g) (row := none) (by exact jK HK.out)) (fun k_ h_ => h_)) (rl HO_398002.out)) (rl HO_398003.out)) (keep_size (w := w) (g := g) (row := none) (by exact jK HK.out)))
            replace HO_398002 := aM (Kd.R_elder' (by exact lR HO_398002.out) (Kd.R_base ho39) hb)
            replace HO_398003 := aM (Kd.R_elder' (by exact lR HO_398003.out) (Kd.R_base ho39) hb)
            replace BK390 := aM (bb BK390.out hb)
            replace BK397 := aM (bb BK397.out hb)
            replace HI0 := aM (IsS69.below (by exact IsS69.j HI0.out) hb)
            replace HK := aM (kbl HK.out hb)
            replace HB := aM (bj HB.out hb)
            clear hb ho39
            obtain ⟨Ao40, co40, eo40⟩ := Kd.R_slice HO411.out
            subst eo40
            obtain ⟨ado40, fo40, _⟩ := Kd.at_int (Kd.R_reads' HO411.out).2.2 0 (by decide) (by rw [Ny409.out]; simp)
            cases fo40
            refine hK.out _ _ ⟨(blk_cell BK397.out 0).trans rfl, (blk_cell BK397.out 1).trans rfl, (blk_cell BK397.out 2).trans rfl, (blk_cell BK397.out 3).trans rfl⟩ (fun hHeld => ?_)
            clear hK K
            refine norm_ (a' := ?_) ?_ ?_
            rotate_left
            ·show Act.put _ (some 35) _ = _
             simp only [Act.put, sA, s0, sS, i64_w, i32_w]
             rfl
            exact norm_ (by simp only [putAll, Act.put, List.setIfInBounds_toArray, List.set_cons_zero, List.set_cons_succ]) (hCont (.slice (some ado40) y409.length co40, ado40) _ ⟨hHeld, (by exact lR <| Kd.R_mono HO411.out (fun _ hk => ⟨hk.1.1.1, ⟨hk.1.2, hk.2⟩⟩)), (by exact lN <| Kd.N_mono HO_398001.out (fun _ hk => ⟨hk.1.1, ⟨hk.2, ⟨hk.1.2.1, ⟨hk.1.2.2.1, ⟨hk.1.2.2.2.2.2, ⟨hk.1.2.2.2.1, hk.1.2.2.2.2.1⟩⟩⟩⟩⟩⟩)), (by exact lR <| Kd.R_mono HO_398002.out (fun _ hk => ⟨hk.1.1, ⟨hk.2, hk.1.2⟩⟩)), (by exact lR <| Kd.R_mono HO_398003.out (fun _ hk => ⟨hk.1.1, ⟨hk.2, hk.1.2⟩⟩)), ⟨_, rfl⟩, (by exact lK BK390.out), (by exact lK BK397.out), (by exact IsS69.j HI0.out), (by exact jK HK.out), (by exact jB HB.out)⟩)
          rintro ⟨v410, adz_v410⟩ w41 ⟨hS_, h0_, h1_, h2_, h3_, h4_, h5_, h6_, h7_, h8_, h9_⟩
          have HO411 : Aside0 (Kd.R (Kd.int .i64) 3 w41 w.heap.size (fun k_ => (w.heap.size ≤ k_) ∧ some k_ ≠ (u398002 : Value).ownBlock ∧ some k_ ≠ ownBlock (.slice Ao35 x398003_2.length co35)) v410 y409) := ⟨h0_⟩
          replace HO_398001 : Aside0 (Kd.N (Kd.slice 45 k45) 33 w41 w.heap.size (fun k_ => (w.heap.size ≤ k_) ∧ some k_ ≠ v410.ownBlock ∧ some k_ ≠ (u398002 : Value).ownBlock ∧ some k_ ≠ ownBlock (.slice Ao35 x398003_2.length co35) ∧ k_ ≠ g ∧ k_ ≠ gb390 ∧ k_ ≠ gb397) (.slice Ao8 t393.length co8) t393) := ⟨h1_⟩
          replace HO_398002 : Aside0 (Kd.R (Kd.int .i64) 3 w41 w.heap.size (fun k_ => (w.heap.size ≤ k_) ∧ some k_ ≠ v410.ownBlock ∧ some k_ ≠ ownBlock (.slice Ao35 x398003_2.length co35)) u398002 x398002_1) := ⟨h2_⟩
          replace HO_398003 : Aside0 (Kd.R (Kd.int .i64) 3 w41 w.heap.size (fun k_ => (w.heap.size ≤ k_) ∧ some k_ ≠ v410.ownBlock ∧ some k_ ≠ (u398002 : Value).ownBlock) (.slice Ao35 x398003_2.length co35) x398003_2) := ⟨h3_⟩
          have HA_HO411 : Aside0 (∃ c_, (v410 : Value) = .slice (some adz_v410) y409.length c_) := ⟨h4_⟩
          replace BK390 : Aside0 (w41.heap[gb390]? = some (.cells #[.int .i64 0, .slice none 0 0, .slice none 0 0, .slice none 0 0] 26 (0, 0))) := ⟨h5_⟩
          replace BK397 : Aside0 (w41.heap[gb397]? = some (.cells #[.int .i64 (wrap64 (1 + t391)), .slice Ao8 t393.length co8, u398002, .slice Ao35 x398003_2.length co35] 26 (0, 0))) := ⟨h6_⟩
          replace HI0 : Aside0 (IsS69 w0 w41 g s0_0 t413) := ⟨h7_⟩
          replace HK : Aside0 (KeepBut w w41 g none) := ⟨h8_⟩
          replace HB : Aside0 (Below w0.heap.size w0 w41) := ⟨h9_⟩
          clear h0_ h1_ h2_ h3_ h4_ h5_ h6_ h7_ h8_ h9_
          have hHeld : w41.cell? ⟨gb397, 0, none⟩ = some (.int .i64 (wrap64 (1 + t391))) ∧ w41.cell? ⟨gb397, 1, none⟩ = some (.slice Ao8 t393.length co8) ∧ w41.cell? ⟨gb397, 2, none⟩ = some (u398002) ∧ w41.cell? ⟨gb397, 3, none⟩ = some (.slice Ao35 x398003_2.length co35) := hS_
          obtain ⟨co42, eo42⟩ := HA_HO411.out
          clear HA_HO411
          subst eo42
          refine norm_ (a' := ?_) ?_ ?_
          rotate_left
          ·simp only [putAll, Act.put, List.setIfInBounds_toArray, List.set_cons_zero, List.set_cons_succ]
           rfl
          refine pure_ (i := 5) (N := some 38) (v := ?_) (a' := ?_) #[true, true, true, true, true, true, false, false, false, false, false] rfl rfl (any_of HT_.out (by kernel_rfl)) (fun _ _ _ h => h) (Or.inl ⟨by rfl, ?_⟩) ?_ ?_
          rotate_left
          ·intro w'
           go_simp
           with_reducible rfl
          rotate_left
          ·simp only [Act.put, sA, s0, sS, i64_w, i32_w]
           rfl
          refine one_ (i := 6) (N := some 39) #[true, true, true, true, true, true, true, false, false, false, false] rfl rfl (one_of HT_.out (by kernel_rfl)) (by decide) (fun K hK => ?_)
          (have p414 : 0 ≤ (t412 : Int) := of_decide_eq_true (by first | (with_reducible assumption) | assumption); have q414 : t412 < (y409.length : Int) := of_decide_eq_true (by first | (with_reducible assumption) | assumption); obtain ⟨ad414, e414, hx414_0⟩ := Kd.at_int (Kd.R_reads' HO411.out).2.2 t412 p414 q414; obtain rfl : adz_v410 = ad414 := (by injection e414))
          refine value_ (w1 := ?_) (v := ?_) (by rfl) rfl ?_ ?_
          rotate_left 2
          ·go_simp
           constructor
           ·rfl
           ·rfl
          clear hx414_0
          refine hK.out _ _ ⟨(blk_cell BK397.out 0).trans rfl, (blk_cell BK397.out 1).trans rfl, (blk_cell BK397.out 2).trans rfl, (blk_cell BK397.out 3).trans rfl⟩ (fun hHeld => ?_)
          clear hK K
          refine norm_ (a' := ?_) ?_ ?_
          rotate_left
          ·show Act.put _ (some 39) _ = _
           simp only [Act.put, sA, s0, sS, i64_w, i32_w]
           rfl
          refine one_ (i := 7) (N := some 40) #[true, true, true, true, true, true, true, true, false, false, false] rfl rfl (one_of HT_.out (by kernel_rfl)) (by decide) (fun K hK => ?_)
          refine value_ (w1 := ?_) (v := ?_) (by rfl) rfl ?_ ?_
          rotate_left 2
          ·go_simp
           constructor
           ·rfl
           ·rfl
          refine hK.out _ _ ⟨(blk_cell (blk_alloc BK397.out _) 0).trans rfl, (blk_cell (blk_alloc BK397.out _) 1).trans rfl, (blk_cell (blk_alloc BK397.out _) 2).trans rfl, (blk_cell (blk_alloc BK397.out _) 3).trans rfl⟩ (fun hHeld => ?_)
          clear hK K
          refine norm_ (a' := ?_) ?_ ?_
          rotate_left
          ·show Act.put _ (some 40) _ = _
           simp only [Act.put, sA, s0, sS, i64_w, i32_w]
           rfl
          refine one_ (i := 8) (N := some 41) #[true, true, true, true, true, true, true, true, true, false, false] rfl rfl (one_of HT_.out (by kernel_rfl)) (by decide) (fun K hK => ?_)
          refine Kd.R_append_step (Kd.int .i64) w.heap.size (by rfl) (.tmp 34) (.tmp 40) 24 3 (.int .i64 0) 8 rfl Try.underlying24 info3 rfl (by decide) (by omega) (.slice Ao35 x398003_2.length co35) x398003_2 (rd y409 t412) [.int .i64 (rd y409 t412)] (fun k_ => (w.heap.size ≤ k_) ∧ some k_ ≠ (u398002 : Value).ownBlock ∧ some k_ ≠ ownBlock (.slice (some adz_v410) y409.length co42)) (fun _ => False) rfl rfl ?aP (fun _ hk => hk.elim) ?aF ?aO (Below.refl _ _) ?aS ?aL ?_
          (case aP => exact rfl)
          (case aF => exact (fun k_ hk => ⟨(Nat.le_trans (keep_size (w := w) (g := g) (row := none) (by exact jK HK.out)) hk), Kd.fresh' (rl HO_398002.out) k_ hk, Kd.fresh' (rl HO411.out) k_ hk⟩))
          (case aO => exact (by exact lR <| Kd.R_mono HO_398003.out (fun _ hk => ⟨hk.1, ⟨hk.2.2, hk.2.1⟩⟩)))
          (case aS => exact (keep_size (w := w) (g := g) (row := none) (by exact jK HK.out)))
          (case aL => have := LMc34.out; omega)
          intro v416 w43 ho hb hg hat
          rw [← Ny415.out] at ho
          replace HO_398001 := aM (Kd.N_afterv (ok := (fun k_ => (w.heap.size ≤ k_) ∧ some k_ ≠ (u398002 : Value).ownBlock ∧ some k_ ≠ ownBlock (.slice (some adz_v410) y409.length co42) ∧ k_ ≠ g ∧ k_ ≠ gb390 ∧ k_ ≠ gb397)) (by exact lN <| Kd.N_mono HO_398001.out (fun _ hk => ⟨⟨hk.1, ⟨hk.2.2.1, ⟨hk.2.1, ⟨hk.2.2.2.2.1, ⟨hk.2.2.2.2.2.1, hk.2.2.2.2.2.2⟩⟩⟩⟩⟩, hk.2.2.2.1⟩)) hg hat)
          replace HO_398002 := aM (Kd.R_after (ok := (fun k_ => (w.heap.size ≤ k_) ∧ some k_ ≠ ownBlock (.slice (some adz_v410) y409.length co42))) (by exact lR <| Kd.R_mono HO_398002.out (fun _ hk => ⟨⟨hk.1, hk.2.1⟩, hk.2.2⟩)) hg hat)
          replace BK390 := aM (blk_grown (g := gb390) (o := .cells #[.int .i64 0, .slice none 0 0, .slice none 0 0, .slice none 0 0] 26 (0, 0)) (by exact lK BK390.out) hg (Kd.R_ne HO_398003.out BK390.out (by decide)))
          replace BK397 := aM (blk_grown (g := gb397) (o := .cells #[.int .i64 (wrap64 (1 + t391)), .slice Ao8 t393.length co8, u398002, .slice Ao35 x398003_2.length co35] 26 (0, 0)) (by exact lK BK397.out) hg (Kd.R_ne HO_398003.out BK397.out (by decide)))
          replace HI0 := aM (IsS69.grown (by exact IsS69.j HI0.out) hg (IsS69.own_ne HI0.out HO_398003.out (by decide)))
          replace HO411 := aM (Kd.R_after (ok := (fun k_ => (w.heap.size ≤ k_) ∧ some k_ ≠ (u398002 : Value).ownBlock)) (by exact lR <| Kd.R_mono HO411.out (fun _ hk => ⟨⟨hk.1, hk.2.1⟩, hk.2.2⟩)) hg hat)
          replace HB := aM (below_weaken (by exact jB HB.out) HL.out hb)
          replace HK := aM (KeepBut.trans (by exact jK HK.out) (KeepBut.of_grown hg g) (Kd.R_base2 HO_398003.out))
          have HO417 := aM (ho)
          clear HO_398003 ho hb hg hat
          obtain ⟨Ao44, co44, eo44⟩ := Kd.R_slice HO417.out
          (first | subst eo44 | (injection eo44 with f1_ f2_ f3_; have f4_ := f1_.symm; have f5_ := f3_.symm; clear f1_ f2_ f3_; subst f4_; subst f5_))
          refine hK.out _ _ ⟨(blk_cell BK397.out 0).trans rfl, (blk_cell BK397.out 1).trans rfl, (blk_cell BK397.out 2).trans rfl, (blk_cell BK397.out 3).trans rfl⟩ (fun hHeld => ?_)
          clear hK K
          refine norm_ (a' := ?_) ?_ ?_
          rotate_left
          ·show Act.put _ (some 41) _ = _
           simp only [Act.put, sA, s0, sS, i64_w, i32_w]
           rfl
          refine pure_ (i := 9) (N := some 42) (v := ?_) (a' := ?_) #[true, true, true, true, true, true, true, true, true, true, false] rfl rfl (any_of HT_.out (by kernel_rfl)) (fun _ _ _ h => h) (Or.inl ⟨by rfl, ?_⟩) ?_ ?_
          rotate_left
          ·intro w'
           go_simp
           with_reducible rfl
          rotate_left
          ·simp only [Act.put, sA, s0, sS, i64_w, i32_w]
           rfl
          refine last_ (i := 10) (N := none) #[true, true, true, true, true, true, true, true, true, true, true] rfl rfl (one_of HT_.out (by kernel_rfl)) (by decide) (fun K hK => ?_)
          have hs45 : w43.cell? ⟨gb397, 3, none⟩ = some (.slice Ao35 x398003_2.length co35) := (blk_cell BK397.out 3).trans rfl
          have hfs45 := blk_frozen BK397.out 3
          have hns45_0 := NB390_397.out
          have hms45_0 := NB397_390.out
          refine skip_ (w1 := ?_) (by rfl) rfl ?_ ?_
          rotate_left
          ·go_simp
           rfl
          refine hK.out _ _ ?_
          clear hK K
          refine done_ (done_of HT_.out (by kernel_rfl)) ?_
          try go_wp2
          go_roundg k2
          case measure => have := HK1.out; have := HK2.out; omega
          case rel => exact ⟨(wrap64 (x5_2 + 1)), (t413), (y415), (.slice Ao44 y415.length co44), (by first | rfl | (simp; done) | (simp [*]; done)), H', ⟨by have := HK1.out; have := HK2.out; omega⟩, ⟨by exact lN <| Kd.N_mono (Kd.N_far (p := ⟨gb397, 3, none⟩) (Kd.N_mono HO_398001.out (fun k_ hk => (⟨hk, hk.1.2.2.2.2.2⟩ : _ ∧ k_ ≠ gb397))) (fun _ hk => hk.2) (.slice Ao44 y415.length co44)) (fun _ hk => ⟨hk.1.1.1, ⟨hk.1.1.2.1, ⟨hk.1.2, ⟨hk.1.1.2.2.2.2.1, ⟨hk.1.1.2.2.2.2.2, hk.1.1.2.2.2.1⟩⟩⟩⟩⟩)⟩, ⟨by exact lR <| Kd.R_mono (Kd.R_far (p := ⟨gb397, 3, none⟩) (Kd.R_types HO_398002.out BK397.out (by decide)) (fun _ hk => hk.2) (.slice Ao44 y415.length co44)) (fun _ hk => ⟨hk.1.1.1, hk.1.2⟩)⟩, ⟨by exact lR <| Kd.R_mono (Kd.R_far (p := ⟨gb397, 3, none⟩) (Kd.R_types HO417.out BK397.out (by decide)) (fun _ hk => hk.2) (.slice Ao44 y415.length co44)) (fun _ hk => ⟨hk.1.1, hk.1.2.1⟩)⟩, ⟨by (with_reducible repeat first | refine kN ?_ _ | refine kD ?_ | refine kA ?_ _); refine blk_far ?_ NB390_397.out _; exact lK <| BK390.out⟩, ⟨by (with_reducible repeat first | refine kN ?_ _ | refine kD ?_ | refine kA ?_ _); refine blk_put (cs := #[.int .i64 (wrap64 (1 + t391)), .slice Ao8 t393.length co8, u398002, .slice Ao35 x398003_2.length co35]) ?_ 3 _ rfl; exact lK <| BK397.out⟩, ⟨by exact IsS69.j HI0.out⟩, ⟨by exact jK HK.out⟩, ⟨by exact jB HB.out⟩⟩
         ·rw [if_neg c34] at H
          exact absurd H (by simp)
        ·rw [if_neg c33] at H
         exact absurd H (by simp)
       ·rw [if_neg c32] at H
        exact absurd H (by simp)
      ·rw [if_neg c30] at H
       have c30b0 := decide_eq_false c30
       clear c30
       simp only [Option.some.injEq, Prod.mk.injEq] at H
       obtain ⟨rfl, rfl, rfl, rfl, rfl⟩ := H
       have hnb46 := NB397_390.out
       have hnc46 := NB390_397.out
       have hnb47 := NB397_0.out
       have hnc47 := NB0_397.out
       have hcz48_0 : wr.cell? ⟨gb397, 0, none⟩ = some (.int .i64 (wrap64 (1 + t391))) := (blk_cell BK397.out 0).trans rfl
       have hcz48_1 : wr.cell? ⟨gb397, 1, none⟩ = some (.slice Ao8 t393.length co8) := (blk_cell BK397.out 1).trans rfl
       have hcz48_2 : wr.cell? ⟨gb397, 2, none⟩ = some (u398002) := (blk_cell BK397.out 2).trans rfl
       have hcz48_3 : wr.cell? ⟨gb397, 3, none⟩ = some (u398003) := (blk_cell BK397.out 3).trans rfl
       have hfz48_0 := blk_frozen BK397.out 0
       have hfz48_1 := blk_frozen BK397.out 1
       have hfz48_2 := blk_frozen BK397.out 2
       have hfz48_3 := blk_frozen BK397.out 3
       have hnb49 := NB390_0.out
       have hnc49 := NB0_390.out
       have hcz50_0 : wr.cell? ⟨gb390, 0, none⟩ = some (.int .i64 0) := (blk_cell BK390.out 0).trans rfl
       have hcz50_1 : wr.cell? ⟨gb390, 1, none⟩ = some (.slice none 0 0) := (blk_cell BK390.out 1).trans rfl
       have hcz50_2 : wr.cell? ⟨gb390, 2, none⟩ = some (.slice none 0 0) := (blk_cell BK390.out 2).trans rfl
       have hcz50_3 : wr.cell? ⟨gb390, 3, none⟩ = some (.slice none 0 0) := (blk_cell BK390.out 3).trans rfl
       have hfz50_0 := blk_frozen BK390.out 0
       have hfz50_1 := blk_frozen BK390.out 1
       have hfz50_2 := blk_frozen BK390.out 2
       have hfz50_3 := blk_frozen BK390.out 3
       obtain ⟨Ao51, co51, eo51⟩ := Kd.R_slice HO_398002.out
       subst eo51
       obtain ⟨Ao52, co52, eo52⟩ := Kd.R_slice HO_398003.out
       subst eo52
       go_wp2
       refine bodyPost_ret (results_cell_row rfl _ _ gb390 26 #[.int .i64 (wrap64 (1 + t391)), .slice Ao8 t393.length co8, .slice Ao51 x398002_1.length co51, .slice Ao52 x398003_2.length co52] (0, 0) _ rfl (by exact p4 (lK BK390.out)) Try.underlying26 rfl (by kernel_rfl)) rfl ?_
       exact ⟨_, _, _, er, by exact lN <| Kd.N_mono (Kd.N_far (p := ⟨gb390, 3, none⟩) (Kd.N_far (p := ⟨gb390, 2, none⟩) (Kd.N_far (p := ⟨gb390, 1, none⟩) (Kd.N_far (p := ⟨gb390, 0, none⟩) (Kd.N_mono HO_398001.out (fun k_ hk => (⟨hk, hk.2.2.2.1⟩ : _ ∧ k_ ≠ gb390))) (fun _ hk => by first | exact hk.2 | exact fun e_ => hk.2 (e_.trans (ob _ _ _ _))) (.int .i64 (wrap64 (1 + t391)))) (fun _ hk => by first | exact hk.2 | exact fun e_ => hk.2 (e_.trans (ob _ _ _ _))) (.slice Ao8 t393.length co8)) (fun _ hk => by first | exact hk.2 | exact fun e_ => hk.2 (e_.trans (ob _ _ _ _))) (.slice Ao51 x398002_1.length co51)) (fun _ hk => by first | exact hk.2 | exact fun e_ => hk.2 (e_.trans (ob _ _ _ _))) (.slice Ao52 x398003_2.length co52)) (fun _ hk => ⟨(by first | exact hk.1.1 | exact fun e_ => hk.1.1 (e_.trans (ob _ _ _ _))), ⟨(by first | exact hk.1.2.1 | exact fun e_ => hk.1.2.1 (e_.trans (ob _ _ _ _))), (by first | exact hk.1.2.2.1 | exact fun e_ => hk.1.2.2.1 (e_.trans (ob _ _ _ _)))⟩⟩), by exact lR <| Kd.R_mono (Kd.R_far (p := ⟨gb390, 3, none⟩) (Kd.R_far (p := ⟨gb390, 2, none⟩) (Kd.R_far (p := ⟨gb390, 1, none⟩) (Kd.R_far (p := ⟨gb390, 0, none⟩) (Kd.R_types HO_398002.out BK390.out (by decide)) (fun _ hk => by first | exact hk.2 | exact fun e_ => hk.2 (e_.trans (ob _ _ _ _))) (.int .i64 (wrap64 (1 + t391)))) (fun _ hk => by first | exact hk.2 | exact fun e_ => hk.2 (e_.trans (ob _ _ _ _))) (.slice Ao8 t393.length co8)) (fun _ hk => by first | exact hk.2 | exact fun e_ => hk.2 (e_.trans (ob _ _ _ _))) (.slice Ao51 x398002_1.length co51)) (fun _ hk => by first | exact hk.2 | exact fun e_ => hk.2 (e_.trans (ob _ _ _ _))) (.slice Ao52 x398003_2.length co52)) (fun _ hk => ⟨(by first | exact hk.1.1 | exact fun e_ => hk.1.1 (e_.trans (ob _ _ _ _))), (by first | exact hk.1.2 | exact fun e_ => hk.1.2 (e_.trans (ob _ _ _ _)))⟩), by exact lR <| Kd.R_mono (Kd.R_far (p := ⟨gb390, 3, none⟩) (Kd.R_far (p := ⟨gb390, 2, none⟩) (Kd.R_far (p := ⟨gb390, 1, none⟩) (Kd.R_far (p := ⟨gb390, 0, none⟩) (Kd.R_types HO_398003.out BK390.out (by decide)) (fun _ hk => by first | exact hk.2 | exact fun e_ => hk.2 (e_.trans (ob _ _ _ _))) (.int .i64 (wrap64 (1 + t391)))) (fun _ hk => by first | exact hk.2 | exact fun e_ => hk.2 (e_.trans (ob _ _ _ _))) (.slice Ao8 t393.length co8)) (fun _ hk => by first | exact hk.2 | exact fun e_ => hk.2 (e_.trans (ob _ _ _ _))) (.slice Ao51 x398002_1.length co51)) (fun _ hk => by first | exact hk.2 | exact fun e_ => hk.2 (e_.trans (ob _ _ _ _))) (.slice Ao52 x398003_2.length co52)) (fun _ hk => ⟨(by first | exact hk.1.1 | exact fun e_ => hk.1.1 (e_.trans (ob _ _ _ _))), (by first | exact hk.1.2 | exact fun e_ => hk.1.2 (e_.trans (ob _ _ _ _)))⟩), by exact IsS69.j HI0.out, by exact jB HB.out, by exact jK HK.out⟩

end Go.Proofs.Ytgalnmgkcdmnkaa.QFnPlnHome

-- shorter
