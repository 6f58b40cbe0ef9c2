/- Plain functions, and that the Go code computes them: written by a program of this session over the seat's translation; the conditions stand in each theorem. -/
import Derived.Test.YtgalnmgkcdmnkaaQFnActSkipx0
import Derived.Test.YtgalnmgkcdmnkaaQFnActSkipx1
import Derived.Test.YtgalnmgkcdmnkaaQFnActSkipx3
namespace Go.Proofs.Ytgalnmgkcdmnkaa.QFnActSkip
open Go.RowKit Go.Proofs.YtgalnmgkcdmnkaaW.PrintWords Go.Proofs.YtgalnmgkcdmnkaaW.PrintLast Go.Proofs.YtgalnmgkcdmnkaaW.PrintMore Go.Proofs.Ytgalnmgkcdmnkaa.HWords
open Value (ownBlock)
attribute [local go_sem] max2_int min2_int max_two min_two max_three min_three max_four min_four   -- for this text's walks alone
set_option linter.unusedVariables false
set_option linter.unusedSimpArgs false

/-! ### spec_l20Form: function 54 -/
def spec_l20Form.j0 : Nat → Int → List Int → Int → List Int → List Int → Int → Option (List Int × List Int × Int × Int)
 | 0, _, _, _, _, _, _ => none
 | k + 1, x1, x1000, x1001, x407000, x407001, x407002 => (spec_l20Rd_pick.f k x1000 x1001 x1).bind fun bt418 => (if bt418.1 > 0 then (some (x407000, x407001, x407002, bt418.2)) else ((spec_l20Rd_pick.f k x1000 bt418.2 4).bind fun bt420 => (if bt420.1 = 0 then (if 2 ≤ (x407000.length : Int) then (some ((x407000.take (2 : Int).toNat), x407001, x407002, bt420.2)) else (none)) else (if bt420.1 = 1 then (if x407001.length < 17592186044416 then (some (x407000, (x407001 ++ [0]), x407002, bt420.2)) else (none)) else (if bt420.1 = 2 then ((some (([10000001, (-10000001), 10000000] : List Int) : List Int)).bind fun y428 => ((spec_l20Rd_pick.f k x1000 bt420.2 3).bind fun bt431 => (if 0 ≤ bt431.1 then (if bt431.1 < (y428.length : Int) then (some (x407000, x407001, rd y428 bt431.1, bt431.2)) else (none)) else (none)))) else ((spec_l20Rd_pick.f k x1000 bt420.2 3).bind fun bt434 => ((some (([10000001, (-10000001)] : List Int) : List Int)).bind fun y436 => ((spec_l20Rd_pick.f k x1000 bt434.2 2).bind fun bt439 => (if 0 ≤ bt439.1 then (if bt439.1 < (y436.length : Int) then (if 0 ≤ bt434.1 then (if bt434.1 < (x407000.length : Int) then (some ((x407000.set (bt434.1 : Int).toNat (rd y436 bt439.1)), x407001, x407002, bt439.2)) else (none)) else (none)) else (none)) else (none))))))))))
def spec_l20Form.f (k : Nat) (s0_0 : List Int) (s0_1 : Int) (a1 : Int) : Option (List Int × List Int × Int × Int) := (spec_l20Small.f k s0_0 s0_1).bind fun bt398 => ((spec_l20Rd_pick.f k s0_0 bt398.2.2.2 4).bind fun bt407 => (if bt407.1 = 0 then ((spec_l20Rd_pick.f k s0_0 bt407.2 3).bind fun bt409 => ((some (([10000000, (-10000000), 1000, 77] : List Int) : List Int)).bind fun y411 => ((spec_l20Rd_pick.f k s0_0 bt409.2 4).bind fun bt414 => (if 0 ≤ bt414.1 then (if bt414.1 < (y411.length : Int) then (if 0 ≤ bt409.1 then (if bt409.1 < (bt398.1.length : Int) then (spec_l20Form.j0 k a1 s0_0 bt414.2 (bt398.1.set (bt409.1 : Int).toNat (rd y411 bt414.1)) bt398.2.1 bt398.2.2.1) else (none)) else (none)) else (none)) else (none))))) else (spec_l20Form.j0 k a1 s0_0 bt407.2 bt398.1 bt398.2.1 bt398.2.2.1)))
theorem spec_l20Form.mono_l : ∀ k, (∀ y0 y1 y2 y3 y4 y5, LeO (spec_l20Form.j0 k y0 y1 y2 y3 y4 y5) (spec_l20Form.j0 (k + 1) y0 y1 y2 y3 y4 y5))
 | 0 => fun _ _ _ _ _ _ r h => by simp [spec_l20Form.j0] at h
 | k + 1 => by
  have ih0 := spec_l20Form.mono_l k
  ·intro y0 y1 y2 y3 y4 y5
   unfold spec_l20Form.j0
   repeat' first
   | (with_reducible exact ih0 _ _ _ _ _ _)
   | (with_reducible exact spec_l20Rd_pick.mono _ _ _ _)
   | (with_reducible exact spec_l20Small.mono _ _ _)
   | (with_reducible exact LeO.refl _)
   | (with_reducible exact LeO.none _)
   | (with_reducible refine LeO.ite ?_ ?_)
   | (with_reducible refine LeO.bind ?_ (fun _ => ?_))
   | exact LeO.none _
   | refine LeO.ite ?_ ?_
   | refine LeO.bind ?_ (fun _ => ?_)
theorem spec_l20Form.mono : ∀ a0 a1 a2 k, LeO (spec_l20Form.f k a0 a1 a2) (spec_l20Form.f (k + 1) a0 a1 a2) := by
 intro a0 a1 a2 k
 have ih0 := spec_l20Form.mono_l k
 unfold spec_l20Form.f
 repeat' first
   | (with_reducible exact ih0 _ _ _ _ _ _)
   | (with_reducible exact spec_l20Rd_pick.mono _ _ _ _)
   | (with_reducible exact spec_l20Small.mono _ _ _)
   | (with_reducible exact LeO.refl _)
   | (with_reducible exact LeO.none _)
   | (with_reducible refine LeO.ite ?_ ?_)
   | (with_reducible refine LeO.bind ?_ (fun _ => ?_))
   | exact LeO.none _
   | refine LeO.ite ?_ ?_
   | refine LeO.bind ?_ (fun _ => ?_)
def spec_l20Form.T3 : Bool × List (List Nat × List Nat) := (true, [([], []), ([0], [0]), ([], []), ([2], [2]), ([], []), ([], []), ([5, 3], [5]), ([4, 6], [4, 6]), ([7], [7]), ([1, 3, 0, 1, 2, 3, 4, 5, 6, 7, 8], [1, 3]), ([9, 8, 6, 0, 1, 2, 3, 4, 5, 6, 7, 8], [8, 9])])
def spec_l20Form.B3 : List Nat := [0, 1, 0, 4, 0, 0, 44, 124, 252, 511, 1023]
theorem spec_l20Form.tab3 : rtab .any (opsOf Try.f54 3) = spec_l20Form.T3 := by kernel_rfl
theorem spec_l20Form.bits3 : waitsOk spec_l20Form.T3.2 spec_l20Form.B3 = true := by kernel_rfl
def spec_l20Form.T7 : Bool × List (List Nat × List Nat) := (true, [([], []), ([0], [0]), ([], []), ([2], [2]), ([], []), ([], []), ([5, 3], [5]), ([4, 6], [4, 6]), ([7], [7]), ([1, 3, 0, 1, 2, 3, 4, 5, 6, 7, 8], [1, 3]), ([9, 8, 6, 0, 1, 2, 3, 4, 5, 6, 7, 8], [8, 9])])
def spec_l20Form.B7 : List Nat := [0, 1, 0, 4, 0, 0, 44, 124, 252, 511, 1023]
theorem spec_l20Form.tab7 : rtab .any (opsOf Try.f54 7) = spec_l20Form.T7 := by kernel_rfl
theorem spec_l20Form.bits7 : waitsOk spec_l20Form.T7.2 spec_l20Form.B7 = true := by kernel_rfl
set_option maxHeartbeats 8000000 in
set_option maxRecDepth 100000 in
theorem spec_l20Form.calls (k : Nat) (g : Nat) (s0_0 : List Int) (s0_1 : Int) (a1 : Int) (r1 : List Int) (r2 : List Int) (r3 : Int) (r4 : Int) (w0 w : World) (hI : IsS69 w0 w g s0_0 s0_1) (hB : Below w0.heap.size w0 w) (h : spec_l20Form.f k s0_0 s0_1 a1 = some (r1, r2, r3, r4)) :
  Calls Try.prog 54 #[.pointer (some ⟨g, 0, none⟩), .int .i64 a1] w fun e w' => ∃ v0_ v1_ : Value, e = .returned (.agg #[v0_, v1_, .int .i64 r3]) ∧ Kd.R (Kd.int .i64) 3 w' w.heap.size (fun k_ => some k_ ≠ (v1_ : Value).ownBlock) v0_ r1 ∧ Kd.R (Kd.int .i64) 3 w' w.heap.size (fun k_ => some k_ ≠ (v0_ : Value).ownBlock) v1_ r2 ∧ IsS69 w0 w' g s0_0 r4 ∧ Below w0.heap.size w0 w' ∧ KeepBut w w' g none := by
 have hu43 := Try.underlying43
 have HI0 := Aside0.mk hI
 have IHI0 : Nonempty _ := ⟨IsS69.ge hI⟩
 have HK := Aside0.mk (KeepBut.refl w g none)
 have HL := Aside0.mk hB.size
 clear hI
 have HW0 := Aside0.mk hB.size
 have HB := Aside0.mk hB
 clear hB
 have H : ((spec_l20Small.f k s0_0 s0_1).bind fun bt398 => ((spec_l20Rd_pick.f k s0_0 bt398.2.2.2 4).bind fun bt407 => (if bt407.1 = 0 then ((spec_l20Rd_pick.f k s0_0 bt407.2 3).bind fun bt409 => ((some (([10000000, (-10000000), 1000, 77] : List Int) : List Int)).bind fun y411 => ((spec_l20Rd_pick.f k s0_0 bt409.2 4).bind fun bt414 => (if 0 ≤ bt414.1 then (if bt414.1 < (y411.length : Int) then (if 0 ≤ bt409.1 then (if bt409.1 < (bt398.1.length : Int) then (spec_l20Form.j0 k a1 s0_0 bt414.2 (bt398.1.set (bt409.1 : Int).toNat (rd y411 bt414.1)) bt398.2.1 bt398.2.2.1) else (none)) else (none)) else (none)) else (none))))) else (spec_l20Form.j0 k a1 s0_0 bt407.2 bt398.1 bt398.2.1 bt398.2.2.1)))) = some (r1, r2, r3, r4) := h
 clear h
 obtain ⟨⟨t398, t401, t404, t405⟩, A3, H⟩ := bS H
 try dsimp only at H
 obtain ⟨⟨t407, t408⟩, A4, H⟩ := bS H
 try dsimp only at H
 have HC5 := Aside0.mk H
 clear H
 go_enter Try.func54, Try.ntmps54
 go_upto_if 10 with (first | ((with_reducible refine gate_dst (N := 4) rfl ?_); refine bx 4 #[.slice none 0 0, .slice none 0 0, .int .i64 0] 43 ?_; intro gb397 hg w6 hbox hb; replace HB := Aside0.mk (bj HB.out hb); have BK397 := Aside0.mk (hbox); have GW397 := Aside0.mk ((gk hg HK.out)); have IGW397 : Nonempty _ := ⟨GW397.out⟩; have GE397 := Aside0.mk ((Nat.le_trans HW0.out (gk hg HK.out) : w0.heap.size ≤ gb397)); have IGE397 : Nonempty _ := ⟨GE397.out⟩; replace HK := Aside0.mk (kbl HK.out hb); have NB0_397 := Aside0.mk ((by rw [hg]; exact Nat.ne_of_lt (IsS69.lt (show IsS69 w0 _ g s0_0 s0_1 from by exact IsS69.j HI0.out)) : g ≠ gb397)); have INB0_397 : Nonempty _ := ⟨NB0_397.out⟩; have NB397_0 := Aside0.mk ((by rw [hg]; exact Nat.ne_of_gt (IsS69.lt (show IsS69 w0 _ g s0_0 s0_1 from by exact IsS69.j HI0.out)) : gb397 ≠ g)); replace HI0 := Aside0.mk (IsS69.below (by exact IsS69.j HI0.out) hb); clear hb hbox hg) | ((with_reducible refine gate_callee (f := 55) rfl ?_); refine gL (some 7) Try.func55 #[.pointer (some ⟨g, 0, none⟩)] ?_; (with_reducible refine (spec_l20Small.calls k g s0_0 s0_1 t398 t401 t404 t405 w0 _ ?side1 ?side2 A3.out).mono ?_); (case side1 => exact IsS69.j HI0.out); (case side2 => exact jB HB.out); rintro e w7 ⟨v399, v402, rfl, ho0, ho1, hi, hb, hk⟩; refine ⟨_, rfl, ?_⟩; replace BK397 := Aside0.mk (kb hk BK397.out NB397_0.out); have HO400 := Aside0.mk (lw ho0 HK.out); have HO403 := Aside0.mk (lw ho1 HK.out); replace HK := Aside0.mk (kt HK.out hk); replace HB := Aside0.mk (hb); replace HI0 := Aside0.mk (hi); (try clear hb hk hi); (try clear ho0); (try clear ho1)) | ((with_reducible refine gate_dst (N := 5) rfl ?_); refine bx 5 #[.slice none 0 0, .slice none 0 0, .int .i64 0] 43 ?_; intro gb406 hg w8 hbox hb; replace HO400 := Aside0.mk (rb HO400.out hb); replace HO403 := Aside0.mk (rb HO403.out hb); replace HB := Aside0.mk (bj HB.out hb); have BK406 := Aside0.mk (hbox); have GW406 := Aside0.mk ((gk hg HK.out)); have IGW406 : Nonempty _ := ⟨GW406.out⟩; have GE406 := Aside0.mk ((Nat.le_trans HW0.out (gk hg HK.out) : w0.heap.size ≤ gb406)); have IGE406 : Nonempty _ := ⟨GE406.out⟩; replace HK := Aside0.mk (kbl HK.out hb); have NB397_406 := Aside0.mk ((neL hg (lK BK397.out) : gb397 ≠ gb406)); have NB406_397 := Aside0.mk ((neG hg (lK BK397.out) : gb406 ≠ gb397)); replace BK397 := Aside0.mk (bb BK397.out hb); have NB0_406 := Aside0.mk ((by rw [hg]; exact Nat.ne_of_lt (IsS69.lt (show IsS69 w0 _ g s0_0 t405 from by exact IsS69.j HI0.out)) : g ≠ gb406)); have INB0_406 : Nonempty _ := ⟨NB0_406.out⟩; have NB406_0 := Aside0.mk ((by rw [hg]; exact Nat.ne_of_gt (IsS69.lt (show IsS69 w0 _ g s0_0 t405 from by exact IsS69.j HI0.out)) : gb406 ≠ g)); replace HI0 := Aside0.mk (IsS69.below (by exact IsS69.j HI0.out) hb); clear hb hbox hg; obtain ⟨Ao9, co9, eo9⟩ := Kd.R_slice HO400.out; subst eo9; have hnb10 := NB406_397.out; have hnc10 := NB397_406.out; have hnb11 := NB406_0.out; have hnc11 := NB0_406.out; obtain ⟨hcz12_0, hcz12_1, hcz12_2, hfz12_0, hfz12_1, hfz12_2⟩ := cf3 BK406.out; obtain ⟨Ao13, co13, eo13⟩ := Kd.R_slice HO403.out; subst eo13) | ((with_reducible refine gate_callee (f := 20) rfl ?_); refine gL (some 9) Try.func20 #[.pointer (some ⟨g, 0, none⟩), .int .i64 4] ?_; (with_reducible refine (spec_l20Rd_pick.calls k g s0_0 t405 4 t407 t408 w0 _ ?side1 ?side2 A4.out).mono ?_); (case side1 => exact IsS69.j HI0.out); (case side2 => exact jB HB.out); rintro e w14 ⟨rfl, hi, hb, hk⟩; refine ⟨_, rfl, ?_⟩; replace BK397 := Aside0.mk (KeepBut.blk hk (g' := gb397) (o := .cells #[.slice none 0 0, .slice none 0 0, .int .i64 0] 43 (0, 0)) (by exact f3 (lK BK397.out) NB397_406.out) NB397_0.out (by simp)); replace HO400 := Aside0.mk (Kd.R_mono (Kd.R_keep (IsS69.apart (show IsS69 w0 _ g s0_0 t405 from by exact IsS69.j HI0.out) (by (with_reducible repeat (first | apply ra | apply rn | apply re)); exact (R3 HO400.out BK406.out)) (by decide)) hk (fun _ h => h.2)) (fun _ h => h.1)); replace HO403 := Aside0.mk (Kd.R_mono (Kd.R_keep (IsS69.apart (show IsS69 w0 _ g s0_0 t405 from by exact IsS69.j HI0.out) (by (with_reducible repeat (first | apply ra | apply rn | apply re)); exact (R3 HO403.out BK406.out)) (by decide)) hk (fun _ h => h.2)) (fun _ h => h.1)); replace BK406 := Aside0.mk (KeepBut.blk hk (g' := gb406) (o := .cells #[.slice Ao9 t398.length co9, .slice Ao13 t401.length co13, .int .i64 t404] 43 (0, 0)) (by exact p3 (lK BK406.out)) NB406_0.out (by simp)); replace HK := Aside0.mk (kt HK.out hk); replace HB := Aside0.mk (hb); replace HI0 := Aside0.mk (hi); (try clear hb hk hi)))
 (try simp only [Act.put, sA, s0, sS])
 go_cut [] (fun wc => ∃ (kq : Nat) (x1001_4 : Int) (x407000_4 : List Int) (x407001_4 : List Int) (u407000 : Value) (u407001 : Value), Aside0 (spec_l20Form.j0 kq a1 s0_0 x1001_4 x407000_4 x407001_4 t404 = some (r1, r2, r3, r4)) ∧ Aside0 (kq ≤ k) ∧ Aside0 (Kd.R (Kd.int .i64) 3 wc w.heap.size (fun k_ => some k_ ≠ (u407001 : Value).ownBlock) u407000 x407000_4) ∧ Aside0 (Kd.R (Kd.int .i64) 3 wc w.heap.size (fun k_ => some k_ ≠ (u407000 : Value).ownBlock) u407001 x407001_4) ∧ Aside0 (wc.heap[gb397]? = some (.cells #[(.slice none 0 0), (.slice none 0 0), .int .i64 0] 43 (0, 0))) ∧ Aside0 (wc.heap[gb406]? = some (.cells #[u407000, u407001, .int .i64 t404] 43 (0, 0))) ∧ Aside0 (IsS69 w0 wc g s0_0 x1001_4) ∧ Aside0 (KeepBut w wc g none) ∧ Aside0 (Below w0.heap.size w0 wc))
 case first =>
  have H := HC5.out
  clear HC5
  by_cases c15 : t407 = 0
  ·rw [if_pos c15] at H
   have c15b0 := beq_iff_eq.mpr c15
   have c15b1 := bne_eq_false_iff_eq.mpr c15
   clear c15
   (first | rw [c15b0] | (simp only [i64_w, i32_w]; rw [c15b0]) | skip)
   obtain ⟨⟨t409, t410⟩, A16, H⟩ := bS H
   try dsimp only at H
   obtain ⟨y411, hy411⟩ : ∃ y_ : List Int, y_ = (([10000000, (-10000000), 1000, 77] : List Int)) := ⟨_, rfl⟩
   replace H : ((spec_l20Rd_pick.f k s0_0 t410 4).bind fun bt414 => (if 0 ≤ bt414.1 then (if bt414.1 < (y411.length : Int) then (if 0 ≤ t409 then (if t409 < (t398.length : Int) then (spec_l20Form.j0 k a1 s0_0 bt414.2 (t398.set (t409 : Int).toNat (rd y411 bt414.1)) t401 t404) else (none)) else (none)) else (none)) else (none))) = some (r1, r2, r3, r4) := by first | (rw [hy411]; exact H) | exact H
   have Ny411 := Aside0.mk hy411
   clear hy411
   obtain ⟨⟨t414, t415⟩, A17, H⟩ := bS H
   try dsimp only at H
   by_cases c18 : 0 ≤ t414
   ·rw [if_pos c18] at H
    have c18b0 := decide_eq_true c18
    clear c18
    by_cases c19 : t414 < (y411.length : Int)
    ·rw [if_pos c19] at H
     have c19b0 := decide_eq_true c19
     clear c19
     by_cases c20 : 0 ≤ t409
     ·rw [if_pos c20] at H
      have c20b0 := decide_eq_true c20
      clear c20
      by_cases c21 : t409 < (t398.length : Int)
      ·rw [if_pos c21] at H
       have c21b0 := decide_eq_true c21
       clear c21
       obtain ⟨y417, hy417⟩ : ∃ y_ : List Int, y_ = (t398.set (t409 : Int).toNat (rd y411 t414)) := ⟨_, rfl⟩
       replace H : (spec_l20Form.j0 k a1 s0_0 t415 y417 t401 t404) = some (r1, r2, r3, r4) := by first | (rw [hy417]; exact H) | exact H
       have Ny417 := Aside0.mk hy417
       clear hy417
       have H' := Aside0.mk H
       clear H
       try go_wp2
       have pi416 : (0 ≤ (t414 : Int)) = True := eq_true (of_decide_eq_true (by first | (with_reducible assumption) | assumption))
       have qi416 : (t414 < (y411.length : Int)) = True := eq_true (of_decide_eq_true (by first | (with_reducible assumption) | assumption))
       replace HO400 := Aside0.mk (Kd.R_drew HO400.out)
       replace HO403 := Aside0.mk (Kd.R_drew HO403.out)
       replace BK397 := Aside0.mk (blk_drew BK397.out)
       replace BK406 := Aside0.mk (blk_drew BK406.out)
       replace HI0 := Aside0.mk (IsS69.drew HI0.out)
       replace HK := Aside0.mk (keep_drew HK.out)
       replace HB := Aside0.mk (below_drew1 HB.out)
       refine start_ (n := 11) (S := fun w' => w'.cell? ⟨gb406, 0, none⟩ = some (.slice Ao9 t398.length co9) ∧ w'.cell? ⟨gb406, 1, none⟩ = some (.slice Ao13 t401.length co13) ∧ w'.cell? ⟨gb406, 2, none⟩ = some (.int .i64 t404)) (ds := [10]) #[false, false, false, false, false, false, false, false, false, false, false] (by kernel_rfl) rfl rfl (cz3 BK406.out) (fun hHeld => ?_); refine with_tabW spec_l20Form.tab3 spec_l20Form.bits3 (fun HT_ HW_ => ?_)
       generalize w14.drew = w23 at HO400 HO403 BK397 BK406 HI0 HK HB hHeld ⊢
       refine pure_ (i := 0) (N := some 11) (v := ?_) (a' := ?_) #[true, false, false, false, false, false, false, false, false, false, false] rfl rfl (any_of HT_.out (by kernel_rfl)) (fun _ _ _ h => h) (Or.inl ⟨by rfl, ?_⟩) ?_ ?_
       rotate_left
       ·intro w'
        go_simp
        with_reducible rfl
       rotate_left
       ·simp only [Act.put, sA, s0, sS, i64_w, i32_w]
        rfl
       refine pure_ (i := 2) (N := some 13) (v := ?_) (a' := ?_) #[true, false, true, false, false, false, false, false, false, false, false] rfl rfl (any_of HT_.out (by kernel_rfl)) (fun _ _ _ h => h) (Or.inl ⟨by rfl, ?_⟩) ?_ ?_
       rotate_left
       ·intro w'
        go_simp
        with_reducible rfl
       rotate_left
       ·simp only [Act.put, sA, s0, sS, i64_w, i32_w]
        rfl
       refine pure_ (i := 5) (N := some 16) (v := ?_) (a' := ?_) #[true, false, true, false, false, true, false, false, false, false, false] rfl rfl (any_of HT_.out (by kernel_rfl)) (fun _ _ _ h => h) (Or.inl ⟨by rfl, ?_⟩) ?_ ?_
       rotate_left
       ·intro w'
        go_simp
        with_reducible rfl
       rotate_left
       ·simp only [Act.put, sA, s0, sS, i64_w, i32_w]
        rfl
       refine take_ (i := 1) (N := some 12) (v := ?_) (a' := ?_) #[true, true, true, false, false, true, false, false, false, false, false] rfl rfl (take_ofW HT_.out HW_.out (by kernel_rfl)) (fun _ _ _ h => h) (Or.inl ⟨by rfl, ?_⟩) hHeld ?_ ?_
       rotate_left
       ·rintro w' ⟨s0, s1, s2⟩
        go_simp
        with_reducible rfl
       rotate_left
       ·simp only [Act.put, sA, s0, sS, i64_w, i32_w]
        rfl
       refine join_ (σ := Value × Addr) 4 #[true, true, true, true, true, true, true, false, false, false, false] (fun s_ => [(14, .int .i64 t409), (15, s_.1), (17, .int .i64 t414)]) (fun s_ w' => (w'.cell? ⟨gb406, 0, none⟩ = some (.slice Ao9 t398.length co9) ∧ w'.cell? ⟨gb406, 1, none⟩ = some (.slice Ao13 t401.length co13) ∧ w'.cell? ⟨gb406, 2, none⟩ = some (.int .i64 t404)) ∧ (Kd.R (Kd.int .i64) 3 w' w.heap.size (fun k_ => some k_ ≠ ownBlock (.slice Ao13 t401.length co13) ∧ some k_ ≠ (s_.1 : Value).ownBlock) (.slice Ao9 t398.length co9) t398) ∧ (Kd.R (Kd.int .i64) 3 w' w.heap.size (fun k_ => some k_ ≠ ownBlock (.slice Ao9 t398.length co9) ∧ some k_ ≠ (s_.1 : Value).ownBlock) (.slice Ao13 t401.length co13) t401) ∧ (Kd.R (Kd.int .i64) 3 w' w.heap.size (fun k_ => some k_ ≠ ownBlock (.slice Ao9 t398.length co9) ∧ some k_ ≠ ownBlock (.slice Ao13 t401.length co13)) s_.1 y411) ∧ (∃ c_, (s_.1 : Value) = .slice (some s_.2) y411.length c_) ∧ (w'.heap[gb397]? = some (.cells #[.slice none 0 0, .slice none 0 0, .int .i64 0] 43 (0, 0))) ∧ (w'.heap[gb406]? = some (.cells #[.slice Ao9 t398.length co9, .slice Ao13 t401.length co13, .int .i64 t404] 43 (0, 0))) ∧ (IsS69 w0 w' g s0_0 t415) ∧ (KeepBut w w' g none) ∧ (Below w0.heap.size w0 w')) ?_ ?_
       rotate_left
       ·intro hCont
        refine two_ (i := 3) (j := 4) (Ni := some 14) (Nj := some 15) #[true, true, true, true, false, true, false, false, false, false, false] #[true, true, true, false, true, true, false, false, false, false, false] rfl rfl rfl rfl (two_of HT_.out (by kernel_rfl)) (by decide) (by decide) (fun K hK => ?_) (fun K hK => ?_)
        ·skip
         refine goes_ Try.func20 (by kernel_rfl) rfl #[.pointer (some ⟨g, 0, none⟩), .int .i64 3] (by rfl) rfl rfl (by (try simp only [mA, mC, mN]); first | done | rfl | (simp only [ld, lt]; rfl)) ?_
         with_reducible refine (spec_l20Rd_pick.calls k g s0_0 t408 3 t409 t410 w0 _ ?side1 ?side2 A16.out).mono ?_
         (case side1 => exact IsS69.j HI0.out)
         (case side2 => exact jB HB.out)
         rintro e w24 ⟨rfl, hi, hb, hk⟩
         refine ⟨_, rfl, ?_⟩
         replace BK397 := Aside0.mk (kb hk BK397.out NB397_0.out)
         replace HO400 := Aside0.mk (IsS69.kp (f1 := t408) (by exact IsS69.j HI0.out) (lR HO400.out) hk)
         replace HO403 := Aside0.mk (IsS69.kp (f1 := t408) (by exact IsS69.j HI0.out) (lR HO403.out) hk)
         replace BK406 := Aside0.mk (kb hk BK406.out NB406_0.out)
         replace HK := Aside0.mk (kt HK.out hk)
         replace HB := Aside0.mk (hb)
         replace HI0 := Aside0.mk (hi)
         (try clear hb)
         (try clear hb2)
         (try clear hk)
         (try clear hi)
         refine hK.out _ _ (cz3 BK406.out) (fun hHeld => ?_)
         clear hK K
         refine norm_ (a' := ?_) ?_ ?_
         rotate_left
         ·show Act.put _ (some 14) _ = _
          simp only [Act.put, sA, s0, sS, i64_w, i32_w]
          rfl
         refine two_ (i := 4) (j := 6) (Ni := some 15) (Nj := some 17) #[true, true, true, true, true, true, false, false, false, false, false] #[true, true, true, true, false, true, true, false, false, false, false] rfl rfl rfl rfl (two_of HT_.out (by kernel_rfl)) (by decide) (by decide) (fun K hK => ?_) (fun K hK => ?_)
         ·skip
          refine Kd.R_lit_step (Kd.int .i64) _ 3 ?hg (N := 15) ?hd (xs := ([10000000, (-10000000), 1000, 77] : List Int)) (inner := [.int .i64 10000000, .int .i64 (-10000000), .int .i64 1000, .int .i64 77]) (ok := fun _ => True) (okp := fun _ => True) ?hr ?hp (fun _ hk => hk) trivial (Below.refl _ _) (Nat.le_refl _) (by simp) ?_; (case hd => rfl); (case hg => rfl); (case hr => first | (go_simp; done) | (go_simp; rfl)); (case hp => exact (Reps.one (show Kd.M (Kd.int .i64) _ _ _ 10000000 [.int .i64 10000000] from rfl) (Reps.one (show Kd.M (Kd.int .i64) _ _ _ (-10000000) [.int .i64 (-10000000)] from rfl) (Reps.one (show Kd.M (Kd.int .i64) _ _ _ 1000 [.int .i64 1000] from rfl) (Reps.one (show Kd.M (Kd.int .i64) _ _ _ 77 [.int .i64 77] from rfl) (Reps.none _ _))))))
          intro v412 w25 ho26 hb hg_ hnew_
          clear hg_ hnew_
          (first | rw [← Ny411.out] at ho26 | (simp only [Int.reduceToNat] at ho26; rw [← Ny411.out] at ho26))
          have HO413 := Aside0.mk (Kd.R_lower (Kd.R_new' (Kd.R_new' ho26 (rl HO400.out)) (rl HO403.out)) (keep_size (w := w) (g := g) (row := none) (by exact jK HK.out)))
          replace HO400 := Aside0.mk (Kd.R_elder' (by exact lR HO400.out) (Kd.R_base ho26) hb)
          replace HO403 := Aside0.mk (Kd.R_elder' (by exact lR HO403.out) (Kd.R_base ho26) hb)
          replace HI0 := Aside0.mk (IsS69.below (by exact IsS69.j HI0.out) hb)
          replace BK397 := Aside0.mk (bb BK397.out hb)
          replace BK406 := Aside0.mk (bb BK406.out hb)
          replace HK := Aside0.mk (kbl HK.out hb)
          replace HB := Aside0.mk (bj HB.out hb)
          clear hb ho26
          obtain ⟨Ao27, co27, eo27⟩ := Kd.R_slice HO413.out
          subst eo27
          obtain ⟨ado27, fo27, _⟩ := Kd.at_int (Kd.R_reads' HO413.out).2.2 0 (by decide) (by rw [Ny411.out]; simp)
          cases fo27
          refine hK.out _ _ (cz3 BK406.out) (fun hHeld => ?_)
          clear hK K
          refine norm_ (a' := ?_) ?_ ?_
          rotate_left
          ·show Act.put _ (some 15) _ = _
           simp only [Act.put, sA, s0, sS, i64_w, i32_w]
           rfl
          refine one_ (i := 6) (N := some 17) #[true, true, true, true, true, true, true, false, false, false, false] rfl rfl (one_of HT_.out (by kernel_rfl)) (by decide) (fun K hK => ?_)
          refine goes_ Try.func20 (by kernel_rfl) rfl #[.pointer (some ⟨g, 0, none⟩), .int .i64 4] (by rfl) rfl rfl (by (try simp only [mA, mC, mN]); first | done | rfl | (simp only [ld, lt]; rfl)) ?_
          with_reducible refine (spec_l20Rd_pick.calls k g s0_0 t410 4 t414 t415 w0 _ ?side1 ?side2 A17.out).mono ?_
          (case side1 => exact IsS69.j HI0.out)
          (case side2 => exact jB HB.out)
          rintro e w28 ⟨rfl, hi, hb, hk⟩
          refine ⟨_, rfl, ?_⟩
          replace BK397 := Aside0.mk (kb hk BK397.out NB397_0.out)
          replace HO400 := Aside0.mk (IsS69.kp (f1 := t410) (by exact IsS69.j HI0.out) (lR HO400.out) hk)
          replace HO403 := Aside0.mk (IsS69.kp (f1 := t410) (by exact IsS69.j HI0.out) (lR HO403.out) hk)
          replace BK406 := Aside0.mk (kb hk BK406.out NB406_0.out)
          replace HO413 := Aside0.mk (IsS69.kp (f1 := t410) (by exact IsS69.j HI0.out) (lR HO413.out) hk)
          replace HK := Aside0.mk (kt HK.out hk)
          replace HB := Aside0.mk (hb)
          replace HI0 := Aside0.mk (hi)
          (try clear hb)
          (try clear hb2)
          (try clear hk)
          (try clear hi)
          refine hK.out _ _ (cz3 BK406.out) (fun hHeld => ?_)
          clear hK K
          refine norm_ (a' := ?_) ?_ ?_
          rotate_left
          ·show Act.put _ (some 17) _ = _
           simp only [Act.put, sA, s0, sS, i64_w, i32_w]
           rfl
          exact norm_ (by simp only [putAll, Act.put, List.setIfInBounds_toArray, List.set_cons_zero, List.set_cons_succ]) (hCont (.slice (some ado27) y411.length co27, ado27) _ ⟨hHeld, (by exact lR HO400.out), (by exact lR HO403.out), (by exact lR <| Kd.R_mono HO413.out (fun _ hk => ⟨hk.1.2, hk.2⟩)), ⟨_, rfl⟩, (by exact lK BK397.out), (by exact lK BK406.out), (by exact IsS69.j HI0.out), (by exact jK HK.out), (by exact jB HB.out)⟩)
         ·skip
          refine goes_ Try.func20 (by kernel_rfl) rfl #[.pointer (some ⟨g, 0, none⟩), .int .i64 4] (by rfl) rfl rfl (by (try simp only [mA, mC, mN]); first | done | rfl | (simp only [ld, lt]; rfl)) ?_
          with_reducible refine (spec_l20Rd_pick.calls k g s0_0 t410 4 t414 t415 w0 _ ?side1 ?side2 A17.out).mono ?_
          (case side1 => exact IsS69.j HI0.out)
          (case side2 => exact jB HB.out)
          rintro e w25 ⟨rfl, hi, hb, hk⟩
          refine ⟨_, rfl, ?_⟩
          replace BK397 := Aside0.mk (kb hk BK397.out NB397_0.out)
          replace HO400 := Aside0.mk (IsS69.kp (f1 := t410) (by exact IsS69.j HI0.out) (lR HO400.out) hk)
          replace HO403 := Aside0.mk (IsS69.kp (f1 := t410) (by exact IsS69.j HI0.out) (lR HO403.out) hk)
          replace BK406 := Aside0.mk (kb hk BK406.out NB406_0.out)
          replace HK := Aside0.mk (kt HK.out hk)
          replace HB := Aside0.mk (hb)
          replace HI0 := Aside0.mk (hi)
          (try clear hb)
          (try clear hb2)
          (try clear hk)
          (try clear hi)
          refine hK.out _ _ (cz3 BK406.out) (fun hHeld => ?_)
          clear hK K
          refine norm_ (a' := ?_) ?_ ?_
          rotate_left
          ·show Act.put _ (some 17) _ = _
           simp only [Act.put, sA, s0, sS, i64_w, i32_w]
           rfl
          refine one_ (i := 4) (N := some 15) #[true, true, true, true, true, true, true, false, false, false, false] rfl rfl (one_of HT_.out (by kernel_rfl)) (by decide) (fun K hK => ?_)
          refine Kd.R_lit_step (Kd.int .i64) _ 3 ?hg (N := 15) ?hd (xs := ([10000000, (-10000000), 1000, 77] : List Int)) (inner := [.int .i64 10000000, .int .i64 (-10000000), .int .i64 1000, .int .i64 77]) (ok := fun _ => True) (okp := fun _ => True) ?hr ?hp (fun _ hk => hk) trivial (Below.refl _ _) (Nat.le_refl _) (by simp) ?_; (case hd => rfl); (case hg => rfl); (case hr => first | (go_simp; done) | (go_simp; rfl)); (case hp => exact (Reps.one (show Kd.M (Kd.int .i64) _ _ _ 10000000 [.int .i64 10000000] from rfl) (Reps.one (show Kd.M (Kd.int .i64) _ _ _ (-10000000) [.int .i64 (-10000000)] from rfl) (Reps.one (show Kd.M (Kd.int .i64) _ _ _ 1000 [.int .i64 1000] from rfl) (Reps.one (show Kd.M (Kd.int .i64) _ _ _ 77 [.int .i64 77] from rfl) (Reps.none _ _))))))
          intro v412 w26 ho27 hb hg_ hnew_
          clear hg_ hnew_
          (first | rw [← Ny411.out] at ho27 | (simp only [Int.reduceToNat] at ho27; rw [← Ny411.out] at ho27))
          have HO413 := Aside0.mk (Kd.R_lower (Kd.R_new' (Kd.R_new' ho27 (rl HO400.out)) (rl HO403.out)) (keep_size (w := w) (g := g) (row := none) (by exact jK HK.out)))
          replace HO400 := Aside0.mk (Kd.R_elder' (by exact lR HO400.out) (Kd.R_base ho27) hb)
          replace HO403 := Aside0.mk (Kd.R_elder' (by exact lR HO403.out) (Kd.R_base ho27) hb)
          replace HI0 := Aside0.mk (IsS69.below (by exact IsS69.j HI0.out) hb)
          replace BK397 := Aside0.mk (bb BK397.out hb)
          replace BK406 := Aside0.mk (bb BK406.out hb)
          replace HK := Aside0.mk (kbl HK.out hb)
          replace HB := Aside0.mk (bj HB.out hb)
          clear hb ho27
          obtain ⟨Ao28, co28, eo28⟩ := Kd.R_slice HO413.out
          subst eo28
          obtain ⟨ado28, fo28, _⟩ := Kd.at_int (Kd.R_reads' HO413.out).2.2 0 (by decide) (by rw [Ny411.out]; simp)
          cases fo28
          refine hK.out _ _ (cz3 BK406.out) (fun hHeld => ?_)
          clear hK K
          refine norm_ (a' := ?_) ?_ ?_
          rotate_left
          ·show Act.put _ (some 15) _ = _
           simp only [Act.put, sA, s0, sS, i64_w, i32_w]
           rfl
          exact norm_ (by simp only [putAll, Act.put, List.setIfInBounds_toArray, List.set_cons_zero, List.set_cons_succ]) (hCont (.slice (some ado28) y411.length co28, ado28) _ ⟨hHeld, (by exact lR HO400.out), (by exact lR HO403.out), (by exact lR <| Kd.R_mono HO413.out (fun _ hk => ⟨hk.1.2, hk.2⟩)), ⟨_, rfl⟩, (by exact lK BK397.out), (by exact lK BK406.out), (by exact IsS69.j HI0.out), (by exact jK HK.out), (by exact jB HB.out)⟩)
        ·skip
         refine Kd.R_lit_step (Kd.int .i64) _ 3 ?hg (N := 15) ?hd (xs := ([10000000, (-10000000), 1000, 77] : List Int)) (inner := [.int .i64 10000000, .int .i64 (-10000000), .int .i64 1000, .int .i64 77]) (ok := fun _ => True) (okp := fun _ => True) ?hr ?hp (fun _ hk => hk) trivial (Below.refl _ _) (Nat.le_refl _) (by simp) ?_; (case hd => rfl); (case hg => rfl); (case hr => first | (go_simp; done) | (go_simp; rfl)); (case hp => exact (Reps.one (show Kd.M (Kd.int .i64) _ _ _ 10000000 [.int .i64 10000000] from rfl) (Reps.one (show Kd.M (Kd.int .i64) _ _ _ (-10000000) [.int .i64 (-10000000)] from rfl) (Reps.one (show Kd.M (Kd.int .i64) _ _ _ 1000 [.int .i64 1000] from rfl) (Reps.one (show Kd.M (Kd.int .i64) _ _ _ 77 [.int .i64 77] from rfl) (Reps.none _ _))))))
         intro v412 w24 ho25 hb hg_ hnew_
         clear hg_ hnew_
         (first | rw [← Ny411.out] at ho25 | (simp only [Int.reduceToNat] at ho25; rw [← Ny411.out] at ho25))
         have HO413 := Aside0.mk (Kd.R_lower (Kd.R_new' (Kd.R_new' ho25 (rl HO400.out)) (rl HO403.out)) (keep_size (w := w) (g := g) (row := none) (by exact jK HK.out)))
         replace HO400 := Aside0.mk (Kd.R_elder' (by exact lR HO400.out) (Kd.R_base ho25) hb)
         replace HO403 := Aside0.mk (Kd.R_elder' (by exact lR HO403.out) (Kd.R_base ho25) hb)
         replace HI0 := Aside0.mk (IsS69.below (by exact IsS69.j HI0.out) hb)
         replace BK397 := Aside0.mk (bb BK397.out hb)
         replace BK406 := Aside0.mk (bb BK406.out hb)
         replace HK := Aside0.mk (kbl HK.out hb)
         replace HB := Aside0.mk (bj HB.out hb)
         clear hb ho25
         obtain ⟨Ao26, co26, eo26⟩ := Kd.R_slice HO413.out
         subst eo26
         obtain ⟨ado26, fo26, _⟩ := Kd.at_int (Kd.R_reads' HO413.out).2.2 0 (by decide) (by rw [Ny411.out]; simp)
         cases fo26
         refine hK.out _ _ (cz3 BK406.out) (fun hHeld => ?_)
         clear hK K
         refine norm_ (a' := ?_) ?_ ?_
         rotate_left
         ·show Act.put _ (some 15) _ = _
          simp only [Act.put, sA, s0, sS, i64_w, i32_w]
          rfl
         refine one_ (i := 3) (N := some 14) #[true, true, true, true, true, true, false, false, false, false, false] rfl rfl (one_of HT_.out (by kernel_rfl)) (by decide) (fun K hK => ?_)
         refine goes_ Try.func20 (by kernel_rfl) rfl #[.pointer (some ⟨g, 0, none⟩), .int .i64 3] (by rfl) rfl rfl (by (try simp only [mA, mC, mN]); first | done | rfl | (simp only [ld, lt]; rfl)) ?_
         with_reducible refine (spec_l20Rd_pick.calls k g s0_0 t408 3 t409 t410 w0 _ ?side1 ?side2 A16.out).mono ?_
         (case side1 => exact IsS69.j HI0.out)
         (case side2 => exact jB HB.out)
         rintro e w27 ⟨rfl, hi, hb, hk⟩
         refine ⟨_, rfl, ?_⟩
         replace BK397 := Aside0.mk (kb hk BK397.out NB397_0.out)
         replace HO400 := Aside0.mk (IsS69.kp (f1 := t408) (by exact IsS69.j HI0.out) (lR HO400.out) hk)
         replace HO403 := Aside0.mk (IsS69.kp (f1 := t408) (by exact IsS69.j HI0.out) (lR HO403.out) hk)
         replace BK406 := Aside0.mk (kb hk BK406.out NB406_0.out)
         replace HO413 := Aside0.mk (IsS69.kp (f1 := t408) (by exact IsS69.j HI0.out) (lR HO413.out) hk)
         replace HK := Aside0.mk (kt HK.out hk)
         replace HB := Aside0.mk (hb)
         replace HI0 := Aside0.mk (hi)
         (try clear hb)
         (try clear hb2)
         (try clear hk)
         (try clear hi)
         refine hK.out _ _ (cz3 BK406.out) (fun hHeld => ?_)
         clear hK K
         refine norm_ (a' := ?_) ?_ ?_
         rotate_left
         ·show Act.put _ (some 14) _ = _
          simp only [Act.put, sA, s0, sS, i64_w, i32_w]
          rfl
         refine one_ (i := 6) (N := some 17) #[true, true, true, true, true, true, true, false, false, false, false] rfl rfl (one_of HT_.out (by kernel_rfl)) (by decide) (fun K hK => ?_)
         refine goes_ Try.func20 (by kernel_rfl) rfl #[.pointer (some ⟨g, 0, none⟩), .int .i64 4] (by rfl) rfl rfl (by (try simp only [mA, mC, mN]); first | done | rfl | (simp only [ld, lt]; rfl)) ?_
         with_reducible refine (spec_l20Rd_pick.calls k g s0_0 t410 4 t414 t415 w0 _ ?side1 ?side2 A17.out).mono ?_
         (case side1 => exact IsS69.j HI0.out)
         (case side2 => exact jB HB.out)
         rintro e w28 ⟨rfl, hi, hb, hk⟩
         refine ⟨_, rfl, ?_⟩
         replace BK397 := Aside0.mk (kb hk BK397.out NB397_0.out)
         replace HO400 := Aside0.mk (IsS69.kp (f1 := t410) (by exact IsS69.j HI0.out) (lR HO400.out) hk)
         replace HO403 := Aside0.mk (IsS69.kp (f1 := t410) (by exact IsS69.j HI0.out) (lR HO403.out) hk)
         replace BK406 := Aside0.mk (kb hk BK406.out NB406_0.out)
         replace HO413 := Aside0.mk (IsS69.kp (f1 := t410) (by exact IsS69.j HI0.out) (lR HO413.out) hk)
         replace HK := Aside0.mk (kt HK.out hk)
         replace HB := Aside0.mk (hb)
         replace HI0 := Aside0.mk (hi)
         (try clear hb)
         (try clear hb2)
         (try clear hk)
         (try clear hi)
         refine hK.out _ _ (cz3 BK406.out) (fun hHeld => ?_)
         clear hK K
         refine norm_ (a' := ?_) ?_ ?_
         rotate_left
         ·show Act.put _ (some 17) _ = _
          simp only [Act.put, sA, s0, sS, i64_w, i32_w]
          rfl
         exact norm_ (by simp only [putAll, Act.put, List.setIfInBounds_toArray, List.set_cons_zero, List.set_cons_succ]) (hCont (.slice (some ado26) y411.length co26, ado26) _ ⟨hHeld, (by exact lR HO400.out), (by exact lR HO403.out), (by exact lR <| Kd.R_mono HO413.out (fun _ hk => ⟨hk.1.2, hk.2⟩)), ⟨_, rfl⟩, (by exact lK BK397.out), (by exact lK BK406.out), (by exact IsS69.j HI0.out), (by exact jK HK.out), (by exact jB HB.out)⟩)
       rintro ⟨v412, adz_v412⟩ w29 ⟨hS_, h0_, h1_, h2_, h3_, h4_, h5_, h6_, h7_, h8_⟩
       replace HO400 : Aside0 (Kd.R (Kd.int .i64) 3 w29 w.heap.size (fun k_ => some k_ ≠ ownBlock (.slice Ao13 t401.length co13) ∧ some k_ ≠ v412.ownBlock) (.slice Ao9 t398.length co9) t398) := ⟨h0_⟩
       replace HO403 : Aside0 (Kd.R (Kd.int .i64) 3 w29 w.heap.size (fun k_ => some k_ ≠ ownBlock (.slice Ao9 t398.length co9) ∧ some k_ ≠ v412.ownBlock) (.slice Ao13 t401.length co13) t401) := ⟨h1_⟩
       have HO413 : Aside0 (Kd.R (Kd.int .i64) 3 w29 w.heap.size (fun k_ => some k_ ≠ ownBlock (.slice Ao9 t398.length co9) ∧ some k_ ≠ ownBlock (.slice Ao13 t401.length co13)) v412 y411) := ⟨h2_⟩
       have HA_HO413 : Aside0 (∃ c_, (v412 : Value) = .slice (some adz_v412) y411.length c_) := ⟨h3_⟩
       replace BK397 : Aside0 (w29.heap[gb397]? = some (.cells #[.slice none 0 0, .slice none 0 0, .int .i64 0] 43 (0, 0))) := ⟨h4_⟩
       replace BK406 : Aside0 (w29.heap[gb406]? = some (.cells #[.slice Ao9 t398.length co9, .slice Ao13 t401.length co13, .int .i64 t404] 43 (0, 0))) := ⟨h5_⟩
       replace HI0 : Aside0 (IsS69 w0 w29 g s0_0 t415) := ⟨h6_⟩
       replace HK : Aside0 (KeepBut w w29 g none) := ⟨h7_⟩
       replace HB : Aside0 (Below w0.heap.size w0 w29) := ⟨h8_⟩
       clear h0_ h1_ h2_ h3_ h4_ h5_ h6_ h7_ h8_
       have hHeld : w29.cell? ⟨gb406, 0, none⟩ = some (.slice Ao9 t398.length co9) ∧ w29.cell? ⟨gb406, 1, none⟩ = some (.slice Ao13 t401.length co13) ∧ w29.cell? ⟨gb406, 2, none⟩ = some (.int .i64 t404) := hS_
       obtain ⟨co30, eo30⟩ := HA_HO413.out
       clear HA_HO413
       subst eo30
       have p22 : 0 ≤ (t409 : Int) := of_decide_eq_true (by first | (with_reducible assumption) | assumption)
       have q22 : (t409 : Int) < ((t398.length : Int) : Int) := of_decide_eq_true (by first | (with_reducible assumption) | assumption)
       obtain ⟨go22, co22, eo22, gb22, gl22, cl22, HG22⟩ := Kd.R_form HO400.out (by omega)
       (first | cases eo22 | (injection eo22 with ea_ en_ ec_; (first | subst ea_ | (injection ea_ with ea_; subst ea_)); subst ec_; clear en_))
       have GB22 := Aside0.mk gb22
       have IGB22 : Nonempty _ := ⟨GB22.out⟩
       have GG22 := Aside0.mk HG22
       clear gb22 gl22 HG22
       obtain ⟨hx22_0, hf22_0⟩ := Kd.R_celln 0 HO400.out (t409 : Int) p22 q22
       replace p22 := eq_true p22
       replace q22 := eq_true q22
       have HN0_go22 := Aside0.mk (show g ≠ go22 from by have h_ := IsS69.own_ne HI0.out HO400.out (by decide); intro e_; exact h_ (by rw [e_]; rfl))
       have IHN0_go22 : Nonempty _ := ⟨HN0_go22.out⟩
       have HP31 := Kd.R_putn HO400.out (t409 : Int) (rd y411 t414)
       rw [← Ny417.out] at HP31
       have HQ31 := Aside0.mk HP31
       clear HP31
       refine norm_ (a' := ?_) ?_ ?_
       rotate_left
       ·simp only [putAll, Act.put, List.setIfInBounds_toArray, List.set_cons_zero, List.set_cons_succ]
        rfl
       refine pure_ (i := 7) (N := some 18) (v := ?_) (a' := ?_) #[true, true, true, true, true, true, true, true, false, false, false] rfl rfl (any_of HT_.out (by kernel_rfl)) (fun _ _ _ h => h) (Or.inl ⟨by rfl, ?_⟩) ?_ ?_
       rotate_left
       ·intro w'
        go_simp
        with_reducible rfl
       rotate_left
       ·simp only [Act.put, sA, s0, sS, i64_w, i32_w]
        rfl
       refine one_ (i := 8) (N := some 19) #[true, true, true, true, true, true, true, true, true, false, false] rfl rfl (one_of HT_.out (by kernel_rfl)) (by decide) (fun K hK => ?_)
       (have p416 : 0 ≤ (t414 : Int) := of_decide_eq_true (by first | (with_reducible assumption) | assumption); have q416 : t414 < (y411.length : Int) := of_decide_eq_true (by first | (with_reducible assumption) | assumption); obtain ⟨ad416, e416, hx416_0⟩ := Kd.at_int (Kd.R_reads' HO413.out).2.2 t414 p416 q416; obtain rfl : adz_v412 = ad416 := (by injection e416))
       refine value_ (w1 := ?_) (v := ?_) (by rfl) rfl ?_ ?_
       rotate_left 2
       ·go_simp
        constructor
        ·rfl
        ·rfl
       clear hx416_0
       refine hK.out _ _ (cz3 BK406.out) (fun hHeld => ?_)
       clear hK K
       refine norm_ (a' := ?_) ?_ ?_
       rotate_left
       ·show Act.put _ (some 19) _ = _
        simp only [Act.put, sA, s0, sS, i64_w, i32_w]
        rfl
       refine pure_ (i := 9) (N := some 20) (v := ?_) (a' := ?_) #[true, true, true, true, true, true, true, true, true, true, false] rfl rfl (any_of HT_.out (by kernel_rfl)) (fun _ _ _ h => h) (Or.inl ⟨by rfl, ?_⟩) ?_ ?_
       rotate_left
       ·intro w'
        go_simp
        with_reducible rfl
       rotate_left
       ·simp only [Act.put, sA, s0, sS, i64_w, i32_w]
        rfl
       refine last_ (i := 10) (N := none) #[true, true, true, true, true, true, true, true, true, true, true] rfl rfl (one_of HT_.out (by kernel_rfl)) (by decide) (fun K hK => ?_)
       refine skip_ (w1 := ?_) (by rfl) rfl ?_ ?_
       rotate_left
       ·go_simp
        rfl
       refine hK.out _ _ ?_
       clear hK K
       refine done_ (done_of HT_.out (by kernel_rfl)) ?_
       try go_wp2
       go_meet
       case rel => exact ⟨_, (t415), (y417), (t401), (.slice (some ⟨go22, 0, none⟩) t398.length co9), (.slice Ao13 t401.length co13), H', ⟨by first | omega | exact Nat.le_refl _⟩, ⟨by exact lR <| Kd.R_mono HQ31.out (fun _ hk => hk.1)⟩, ⟨by exact lR <| Kd.R_mono (Kd.R_far (p := ⟨go22, (t409 : Int).toNat, none⟩) (Kd.R_mono HO403.out (fun k_ hk => (⟨hk, fun e_ => hk.1 (by rw [e_]; rfl)⟩ : _ ∧ k_ ≠ go22))) (fun _ hk => hk.2) (.int .i64 (rd y411 t414))) (fun _ hk => hk.1.1)⟩, ⟨by (with_reducible repeat first | refine kN ?_ _ | refine kD ?_ | refine kA ?_ _); refine blk_far ?_ (by have h_ := Kd.R_ne HO400.out BK397.out (by decide); intro e_; exact h_ (by rw [e_]; rfl)) _; exact lK <| BK397.out⟩, ⟨by (with_reducible repeat first | refine kN ?_ _ | refine kD ?_ | refine kA ?_ _); refine blk_far ?_ (by have h_ := Kd.R_ne HO400.out BK406.out (by decide); intro e_; exact h_ (by rw [e_]; rfl)) _; exact lK <| BK406.out⟩, ⟨by exact IsS69.j HI0.out⟩, ⟨by exact jK HK.out⟩, ⟨by repeat (first | (with_reducible first | exact HB.out | apply below_alloc | apply pw_below_drewN | apply below_drew1 | refine below_set ?_ (Nat.le_trans HL.out GB22.out) | refine below_set ?_ (IsS69.ge HI0.out) | refine below_set ?_ GE397.out | refine below_set ?_ GE406.out) | exact HB.out)⟩⟩
      ·rw [if_neg c21] at H
       exact absurd H (by simp)
     ·rw [if_neg c20] at H
      exact absurd H (by simp)
    ·rw [if_neg c19] at H
     exact absurd H (by simp)
   ·rw [if_neg c18] at H
    exact absurd H (by simp)
  ·rw [if_neg c15] at H
   have c15b0 := beq_eq_false_iff_ne.mpr c15
   have c15b1 := bne_iff_ne.mpr c15
   (first | rw [c15b0] | (simp only [i64_w, i32_w]; rw [c15b0]) | skip)
   have H' := Aside0.mk H
   clear H
   go_wp2
   go_meet
   case rel => exact ⟨_, (t408), (t398), (t401), (.slice Ao9 t398.length co9), (.slice Ao13 t401.length co13), H', ⟨by first | omega | exact Nat.le_refl _⟩, ⟨by exact lR <| HO400.out⟩, ⟨by exact lR <| HO403.out⟩, ⟨by exact lK <| BK397.out⟩, ⟨by exact lK <| BK406.out⟩, ⟨by exact IsS69.j HI0.out⟩, ⟨by exact jK HK.out⟩, ⟨by exact jB HB.out⟩⟩
 case rest =>
  clear HC5
  try clear c1
  try clear c2
  try clear p2
  try clear q2
  try clear hx2
  try clear hf2
  try clear p4
  try clear q4
  try clear hx4
  try clear qi4
  try clear c5
  try clear c10
  try clear c11
  try clear c15
  try clear c15b0
  try clear c15b1
  try clear c18
  try clear c18b0
  try clear c19
  try clear c19b0
  try clear c20
  try clear c20b0
  try clear c21
  try clear c21b0
  try clear p22
  try clear q22
  try clear hx22
  try clear hf22
  try clear hcz12_0
  try clear hcz12_1
  try clear hcz12_2
  try clear hfz12_0
  try clear hfz12_1
  try clear hfz12_2
  try clear hx22_0
  try clear hx416_0
  try clear p22
  try clear p416
  try clear q22
  try clear q416
  obtain ⟨kq, x1001_4, x407000_4, x407001_4, u407000, u407001, HA, HJ4, HO_407000, HO_407001, BK397, BK406, HI0, HK, HB⟩ := hcut
  cases kq with
  | zero => exact absurd HA.out (by simp [spec_l20Form.j0])
  | succ kj4 =>
   have H := HA.out
   clear HA
   simp only [spec_l20Form.j0] at H
   obtain ⟨⟨t418, t419⟩, A32, H⟩ := bS H
   try dsimp only at H
   by_cases c33 : t418 > 0
   ·rw [if_pos c33] at H
    have c33b0 := decide_eq_true c33
    clear c33
    simp only [Option.some.injEq, Prod.mk.injEq] at H
    obtain ⟨rfl, rfl, rfl, rfl⟩ := H
    go_wp2_with (first | ((with_reducible refine gate_callee (f := 20) rfl ?_); refine gL (some 23) Try.func20 #[.pointer (some ⟨g, 0, none⟩), .int .i64 a1] ?_; (with_reducible refine (spec_l20Rd_pick.calls kj4 g s0_0 x1001_4 a1 t418 t419 w0 _ ?side1 ?side2 A32.out).mono ?_); (case side1 => exact IsS69.j HI0.out); (case side2 => exact jB HB.out); rintro e w34 ⟨rfl, hi, hb, hk⟩; refine ⟨_, rfl, ?_⟩; replace HO_407000 := Aside0.mk (IsS69.kp (f1 := x1001_4) (by exact IsS69.j HI0.out) (lR HO_407000.out) hk); replace HO_407001 := Aside0.mk (IsS69.kp (f1 := x1001_4) (by exact IsS69.j HI0.out) (lR HO_407001.out) hk); replace BK397 := Aside0.mk (kb hk BK397.out NB397_0.out); replace BK406 := Aside0.mk (kb hk BK406.out NB406_0.out); replace HK := Aside0.mk (kt HK.out hk); replace HB := Aside0.mk (hb); replace HI0 := Aside0.mk (hi); (try clear hb hk hi); have hnb35 := NB406_397.out; have hnc35 := NB397_406.out; have hnb36 := NB406_0.out; have hnc36 := NB0_406.out; obtain ⟨hcz37_0, hcz37_1, hcz37_2, hfz37_0, hfz37_1, hfz37_2⟩ := cf3 BK406.out; obtain ⟨Ao38, co38, eo38⟩ := Kd.R_slice HO_407000.out; subst eo38; have hnb39 := NB397_0.out; have hnc39 := NB0_397.out; obtain ⟨hcz40_0, hcz40_1, hcz40_2, hfz40_0, hfz40_1, hfz40_2⟩ := cf3 BK397.out; obtain ⟨Ao41, co41, eo41⟩ := Kd.R_slice HO_407001.out; subst eo41))
    refine bodyPost_ret (results_cell_row rfl _ _ gb397 43 #[.slice Ao38 x407000_4.length co38, .slice Ao41 x407001_4.length co41, .int .i64 t404] (0, 0) _ rfl (by exact p3 (lK BK397.out)) Try.underlying43 rfl (by kernel_rfl)) rfl ?_
    exact ⟨_, _, by first | rfl | (simp [errW_none, errW_some] <;> rfl) | (simp [*, errW_none, errW_some] <;> rfl), by exact lR <| Kd.R_mono (Kd.R_far (p := ⟨gb397, 2, none⟩) (Kd.R_far (p := ⟨gb397, 1, none⟩) (Kd.R_far (p := ⟨gb397, 0, none⟩) (Kd.R_types HO_407000.out BK397.out (by decide)) (fun _ hk => by first | exact hk.2 | exact fun e_ => hk.2 (e_.trans (ob _ _ _ _))) (.slice Ao38 x407000_4.length co38)) (fun _ hk => by first | exact hk.2 | exact fun e_ => hk.2 (e_.trans (ob _ _ _ _))) (.slice Ao41 x407001_4.length co41)) (fun _ hk => by first | exact hk.2 | exact fun e_ => hk.2 (e_.trans (ob _ _ _ _))) (.int .i64 t404)) (fun _ hk => by first | exact hk.1 | exact fun e_ => hk.1 (e_.trans (ob _ _ _ _))), by exact lR <| Kd.R_mono (Kd.R_far (p := ⟨gb397, 2, none⟩) (Kd.R_far (p := ⟨gb397, 1, none⟩) (Kd.R_far (p := ⟨gb397, 0, none⟩) (Kd.R_types HO_407001.out BK397.out (by decide)) (fun _ hk => by first | exact hk.2 | exact fun e_ => hk.2 (e_.trans (ob _ _ _ _))) (.slice Ao38 x407000_4.length co38)) (fun _ hk => by first | exact hk.2 | exact fun e_ => hk.2 (e_.trans (ob _ _ _ _))) (.slice Ao41 x407001_4.length co41)) (fun _ hk => by first | exact hk.2 | exact fun e_ => hk.2 (e_.trans (ob _ _ _ _))) (.int .i64 t404)) (fun _ hk => by first | exact hk.1 | exact fun e_ => hk.1 (e_.trans (ob _ _ _ _))), by exact IsS69.j HI0.out, by exact jB HB.out, by exact jK HK.out⟩
   ·rw [if_neg c33] at H
    have c33b0 := decide_eq_false c33
    clear c33
    obtain ⟨⟨t420, t421⟩, A42, H⟩ := bS H
    try dsimp only at H
    by_cases c43 : t420 = 0
    ·rw [if_pos c43] at H
     have c43b0 := beq_iff_eq.mpr c43
     have c43b1 := bne_eq_false_iff_eq.mpr c43
     clear c43
     by_cases c44 : 2 ≤ (x407000_4.length : Int)
     ·rw [if_pos c44] at H
      have c44b0 := eq_true c44
      have c44b1 := decide_eq_true c44
      clear c44
      obtain ⟨y422, hy422⟩ : ∃ y_ : List Int, y_ = (x407000_4.take (2 : Int).toNat) := ⟨_, rfl⟩
      replace H : (some (y422, x407001_4, t404, t421)) = some (r1, r2, r3, r4) := by first | (rw [hy422]; exact H) | exact H
      have Ny422 := Aside0.mk hy422
      clear hy422
      simp only [Option.some.injEq, Prod.mk.injEq] at H
      obtain ⟨rfl, rfl, rfl, rfl⟩ := H
      go_wp2_with (first | ((with_reducible refine gate_callee (f := 20) rfl ?_); refine gL (some 23) Try.func20 #[.pointer (some ⟨g, 0, none⟩), .int .i64 a1] ?_; (with_reducible refine (spec_l20Rd_pick.calls kj4 g s0_0 x1001_4 a1 t418 t419 w0 _ ?side1 ?side2 A32.out).mono ?_); (case side1 => exact IsS69.j HI0.out); (case side2 => exact jB HB.out); rintro e w45 ⟨rfl, hi, hb, hk⟩; refine ⟨_, rfl, ?_⟩; replace HO_407000 := Aside0.mk (IsS69.kp (f1 := x1001_4) (by exact IsS69.j HI0.out) (lR HO_407000.out) hk); replace HO_407001 := Aside0.mk (IsS69.kp (f1 := x1001_4) (by exact IsS69.j HI0.out) (lR HO_407001.out) hk); replace BK397 := Aside0.mk (kb hk BK397.out NB397_0.out); replace BK406 := Aside0.mk (kb hk BK406.out NB406_0.out); replace HK := Aside0.mk (kt HK.out hk); replace HB := Aside0.mk (hb); replace HI0 := Aside0.mk (hi); (try clear hb hk hi)) | ((with_reducible refine gate_callee (f := 20) rfl ?_); refine gL (some 27) Try.func20 #[.pointer (some ⟨g, 0, none⟩), .int .i64 4] ?_; (with_reducible refine (spec_l20Rd_pick.calls kj4 g s0_0 t419 4 t420 t421 w0 _ ?side1 ?side2 A42.out).mono ?_); (case side1 => exact IsS69.j HI0.out); (case side2 => exact jB HB.out); rintro e w46 ⟨rfl, hi, hb, hk⟩; refine ⟨_, rfl, ?_⟩; replace HO_407000 := Aside0.mk (IsS69.kp (f1 := t419) (by exact IsS69.j HI0.out) (lR HO_407000.out) hk); replace HO_407001 := Aside0.mk (IsS69.kp (f1 := t419) (by exact IsS69.j HI0.out) (lR HO_407001.out) hk); replace BK397 := Aside0.mk (kb hk BK397.out NB397_0.out); replace BK406 := Aside0.mk (kb hk BK406.out NB406_0.out); replace HK := Aside0.mk (kt HK.out hk); replace HB := Aside0.mk (hb); replace HI0 := Aside0.mk (hi); (try clear hb hk hi); have hnb47 := NB406_397.out; have hnc47 := NB397_406.out; have hnb48 := NB406_0.out; have hnc48 := NB0_406.out; obtain ⟨hcz49_0, hcz49_1, hcz49_2, hfz49_0, hfz49_1, hfz49_2⟩ := cf3 BK406.out; obtain ⟨Ao50, co50, eo50⟩ := Kd.R_slice HO_407000.out; subst eo50; have q51 : (2 : Int) ≤ ((x407000_4.length : Int) : Int) := of_decide_eq_true (by first | (with_reducible assumption) | assumption); obtain ⟨i051, hi051, _, hsz51, _⟩ := info_parts info3; have hcut51 := cut_to (P := Try.prog) 24 3 .i64 Try.underlying24 hi051 Ao50 x407000_4.length co50 2 (by omega) q51 (Kd.R_reads' HO_407000.out).2.1; have hr51 := Kd.R_take (m := (2 : Int).toNat) HO_407000.out (by omega); have hy51 : y422.length = (2 : Int).toNat := (by rw [Ny422.out, List.length_take]; omega); rw [← Ny422.out] at hr51; rw [← hy51] at hr51 hcut51; clear hy51 hi051 hsz51 HO_407000; have HO424 := Aside0.mk hr51; clear hr51; replace q51 := eq_true q51; have hnb52 := NB397_0.out; have hnc52 := NB0_397.out; obtain ⟨hcz53_0, hcz53_1, hcz53_2, hfz53_0, hfz53_1, hfz53_2⟩ := cf3 BK397.out; obtain ⟨Ao54, co54, eo54⟩ := Kd.R_slice HO_407001.out; subst eo54))
      refine bodyPost_ret (results_cell_row rfl _ _ gb397 43 #[.slice Ao50 y422.length co50, .slice Ao54 x407001_4.length co54, .int .i64 t404] (0, 0) _ rfl (by (with_reducible repeat first | refine kN ?_ _ | refine kD ?_ | refine kA ?_ _); refine blk_put (cs := #[.slice Ao50 y422.length co50, .slice Ao54 x407001_4.length co54, .int .i64 0]) ?_ 2 _ rfl; (with_reducible repeat first | refine kN ?_ _ | refine kD ?_ | refine kA ?_ _); refine blk_put (cs := #[.slice Ao50 y422.length co50, .slice none 0 0, .int .i64 0]) ?_ 1 _ rfl; (with_reducible repeat first | refine kN ?_ _ | refine kD ?_ | refine kA ?_ _); refine blk_put (cs := #[.slice none 0 0, .slice none 0 0, .int .i64 0]) ?_ 0 _ rfl; (with_reducible repeat first | refine kN ?_ _ | refine kD ?_ | refine kA ?_ _); refine blk_far ?_ NB397_406.out _; exact lK BK397.out) Try.underlying43 rfl (by kernel_rfl)) rfl ?_
      exact ⟨_, _, by first | rfl | (simp [errW_none, errW_some] <;> rfl) | (simp [*, errW_none, errW_some] <;> rfl), by exact lR <| Kd.R_mono (Kd.R_far (p := ⟨gb397, 2, none⟩) (Kd.R_far (p := ⟨gb397, 1, none⟩) (Kd.R_far (p := ⟨gb397, 0, none⟩) (Kd.R_far (p := ⟨gb406, 0, none⟩) (Kd.R_types (Kd.R_types HO424.out BK406.out (by decide)) BK397.out (by decide)) (fun _ hk => by first | exact hk.1.2 | exact fun e_ => hk.1.2 (e_.trans (ob _ _ _ _))) (.slice Ao50 y422.length co50)) (fun _ hk => by first | exact hk.2 | exact fun e_ => hk.2 (e_.trans (ob _ _ _ _))) (.slice Ao50 y422.length co50)) (fun _ hk => by first | exact hk.2 | exact fun e_ => hk.2 (e_.trans (ob _ _ _ _))) (.slice Ao54 x407001_4.length co54)) (fun _ hk => by first | exact hk.2 | exact fun e_ => hk.2 (e_.trans (ob _ _ _ _))) (.int .i64 t404)) (fun _ hk => by first | exact hk.1.1 | exact fun e_ => hk.1.1 (e_.trans (ob _ _ _ _))), by exact lR <| Kd.R_mono (Kd.R_far (p := ⟨gb397, 2, none⟩) (Kd.R_far (p := ⟨gb397, 1, none⟩) (Kd.R_far (p := ⟨gb397, 0, none⟩) (Kd.R_far (p := ⟨gb406, 0, none⟩) (Kd.R_types (Kd.R_types HO_407001.out BK406.out (by decide)) BK397.out (by decide)) (fun _ hk => by first | exact hk.1.2 | exact fun e_ => hk.1.2 (e_.trans (ob _ _ _ _))) (.slice Ao50 y422.length co50)) (fun _ hk => by first | exact hk.2 | exact fun e_ => hk.2 (e_.trans (ob _ _ _ _))) (.slice Ao50 y422.length co50)) (fun _ hk => by first | exact hk.2 | exact fun e_ => hk.2 (e_.trans (ob _ _ _ _))) (.slice Ao54 x407001_4.length co54)) (fun _ hk => by first | exact hk.2 | exact fun e_ => hk.2 (e_.trans (ob _ _ _ _))) (.int .i64 t404)) (fun _ hk => by first | exact hk.1.1 | exact fun e_ => hk.1.1 (e_.trans (ob _ _ _ _))), by exact IsS69.j HI0.out, by exact jB HB.out, by exact jK HK.out⟩
     ·rw [if_neg c44] at H
      exact absurd H (by simp)
    ·rw [if_neg c43] at H
     have c43b0 := beq_eq_false_iff_ne.mpr c43
     have c43b1 := bne_iff_ne.mpr c43
     by_cases c55 : t420 = 1
     ·rw [if_pos c55] at H
      have c55b0 := beq_iff_eq.mpr c55
      have c55b1 := bne_eq_false_iff_eq.mpr c55
      clear c55
      by_cases c56 : x407001_4.length < 17592186044416
      ·rw [if_pos c56] at H
       have LMc56 := Aside0.mk c56
       clear c56
       obtain ⟨y425, hy425⟩ : ∃ y_ : List Int, y_ = (x407001_4 ++ [0]) := ⟨_, rfl⟩
       replace H : (some (x407000_4, y425, t404, t421)) = some (r1, r2, r3, r4) := by first | (rw [hy425]; exact H) | exact H
       have Ny425 := Aside0.mk hy425
       clear hy425
       simp only [Option.some.injEq, Prod.mk.injEq] at H
       obtain ⟨rfl, rfl, rfl, rfl⟩ := H
       go_wp2_with (first | ((with_reducible refine gate_callee (f := 20) rfl ?_); refine gL (some 23) Try.func20 #[.pointer (some ⟨g, 0, none⟩), .int .i64 a1] ?_; (with_reducible refine (spec_l20Rd_pick.calls kj4 g s0_0 x1001_4 a1 t418 t419 w0 _ ?side1 ?side2 A32.out).mono ?_); (case side1 => exact IsS69.j HI0.out); (case side2 => exact jB HB.out); rintro e w57 ⟨rfl, hi, hb, hk⟩; refine ⟨_, rfl, ?_⟩; replace HO_407000 := Aside0.mk (IsS69.kp (f1 := x1001_4) (by exact IsS69.j HI0.out) (lR HO_407000.out) hk); replace HO_407001 := Aside0.mk (IsS69.kp (f1 := x1001_4) (by exact IsS69.j HI0.out) (lR HO_407001.out) hk); replace BK397 := Aside0.mk (kb hk BK397.out NB397_0.out); replace BK406 := Aside0.mk (kb hk BK406.out NB406_0.out); replace HK := Aside0.mk (kt HK.out hk); replace HB := Aside0.mk (hb); replace HI0 := Aside0.mk (hi); (try clear hb hk hi)) | ((with_reducible refine gate_callee (f := 20) rfl ?_); refine gL (some 27) Try.func20 #[.pointer (some ⟨g, 0, none⟩), .int .i64 4] ?_; (with_reducible refine (spec_l20Rd_pick.calls kj4 g s0_0 t419 4 t420 t421 w0 _ ?side1 ?side2 A42.out).mono ?_); (case side1 => exact IsS69.j HI0.out); (case side2 => exact jB HB.out); rintro e w58 ⟨rfl, hi, hb, hk⟩; refine ⟨_, rfl, ?_⟩; replace HO_407000 := Aside0.mk (IsS69.kp (f1 := t419) (by exact IsS69.j HI0.out) (lR HO_407000.out) hk); replace HO_407001 := Aside0.mk (IsS69.kp (f1 := t419) (by exact IsS69.j HI0.out) (lR HO_407001.out) hk); replace BK397 := Aside0.mk (kb hk BK397.out NB397_0.out); replace BK406 := Aside0.mk (kb hk BK406.out NB406_0.out); replace HK := Aside0.mk (kt HK.out hk); replace HB := Aside0.mk (hb); replace HI0 := Aside0.mk (hi); (try clear hb hk hi); have hnb59 := NB406_397.out; have hnc59 := NB397_406.out; have hnb60 := NB406_0.out; have hnc60 := NB0_406.out; obtain ⟨hcz61_0, hcz61_1, hcz61_2, hfz61_0, hfz61_1, hfz61_2⟩ := cf3 BK406.out) | ((with_reducible refine gate_builtin (b := .append) (xs := #[.tmp 47, .tmp 48]) rfl ?_); at_builtin; refine Kd.R_append (Kd.int .i64) w.heap.size rfl (.tmp 47) (.tmp 48) 24 3 (.int .i64 0) 8 rfl Try.underlying24 info3 rfl (by decide) (by omega) u407001 x407001_4 0 [.int .i64 0] (fun k_ => some k_ ≠ (u407000 : Value).ownBlock) (fun _ => False) rfl rfl ?aP (fun _ hk => hk.elim) ?aF ?aO (Below.refl _ _) ?aS ?aL ?_; (case aP => exact rfl); (case aF => exact (fun k_ hk => Kd.fresh' (rl HO_407000.out) k_ hk)); (case aO => exact (by exact lR HO_407001.out)); (case aS => exact (keep_size (w := w) (g := g) (row := none) (by exact jK HK.out))); (case aL => have := LMc56.out; omega); intro v426 w62 ho hb hg hat; rw [← Ny425.out] at ho; replace HO_407000 := Aside0.mk (Kd.R_after (ok := (fun _ => True)) (by exact lR <| Kd.R_mono HO_407000.out (fun _ hk => ⟨trivial, hk⟩)) hg hat); replace BK397 := Aside0.mk (blk_grown (g := gb397) (o := .cells #[.slice none 0 0, .slice none 0 0, .int .i64 0] 43 (0, 0)) (by exact lK BK397.out) hg (Kd.R_ne HO_407001.out BK397.out (by decide))); replace BK406 := Aside0.mk (blk_grown (g := gb406) (o := .cells #[u407000, u407001, .int .i64 t404] 43 (0, 0)) (by exact lK BK406.out) hg (Kd.R_ne HO_407001.out BK406.out (by decide))); replace HI0 := Aside0.mk (IsS69.grown (by exact IsS69.j HI0.out) hg (IsS69.own_ne HI0.out HO_407001.out (by decide))); replace HB := Aside0.mk (below_weaken (by exact jB HB.out) HL.out hb); replace HK := Aside0.mk (KeepBut.trans (by exact jK HK.out) (KeepBut.of_grown hg g) (Kd.R_base2 HO_407001.out)); have HO427 := Aside0.mk (ho); clear HO_407001 ho hb hg hat; obtain ⟨Ao63, co63, eo63⟩ := Kd.R_slice HO427.out; subst eo63; obtain ⟨hcz64_0, hcz64_1, hcz64_2, hfz64_0, hfz64_1, hfz64_2⟩ := cf3 BK406.out; obtain ⟨Ao65, co65, eo65⟩ := Kd.R_slice HO_407000.out; subst eo65; have hnb66 := NB397_0.out; have hnc66 := NB0_397.out; obtain ⟨hcz67_0, hcz67_1, hcz67_2, hfz67_0, hfz67_1, hfz67_2⟩ := cf3 BK397.out))
       refine bodyPost_ret (results_cell_row rfl _ _ gb397 43 #[.slice Ao65 x407000_4.length co65, .slice Ao63 y425.length co63, .int .i64 t404] (0, 0) _ rfl (by (with_reducible repeat first | refine kN ?_ _ | refine kD ?_ | refine kA ?_ _); refine blk_put (cs := #[.slice Ao65 x407000_4.length co65, .slice Ao63 y425.length co63, .int .i64 0]) ?_ 2 _ rfl; (with_reducible repeat first | refine kN ?_ _ | refine kD ?_ | refine kA ?_ _); refine blk_put (cs := #[.slice Ao65 x407000_4.length co65, .slice none 0 0, .int .i64 0]) ?_ 1 _ rfl; (with_reducible repeat first | refine kN ?_ _ | refine kD ?_ | refine kA ?_ _); refine blk_put (cs := #[.slice none 0 0, .slice none 0 0, .int .i64 0]) ?_ 0 _ rfl; (with_reducible repeat first | refine kN ?_ _ | refine kD ?_ | refine kA ?_ _); refine blk_far ?_ NB397_406.out _; exact lK BK397.out) Try.underlying43 rfl (by kernel_rfl)) rfl ?_
       exact ⟨_, _, by first | rfl | (simp [errW_none, errW_some] <;> rfl) | (simp [*, errW_none, errW_some] <;> rfl), by exact lR <| Kd.R_mono (Kd.R_far (p := ⟨gb397, 2, none⟩) (Kd.R_far (p := ⟨gb397, 1, none⟩) (Kd.R_far (p := ⟨gb397, 0, none⟩) (Kd.R_far (p := ⟨gb406, 1, none⟩) (Kd.R_types (Kd.R_types HO_407000.out BK406.out (by decide)) BK397.out (by decide)) (fun _ hk => by first | exact hk.1.2 | exact fun e_ => hk.1.2 (e_.trans (ob _ _ _ _))) (.slice Ao63 y425.length co63)) (fun _ hk => by first | exact hk.2 | exact fun e_ => hk.2 (e_.trans (ob _ _ _ _))) (.slice Ao65 x407000_4.length co65)) (fun _ hk => by first | exact hk.2 | exact fun e_ => hk.2 (e_.trans (ob _ _ _ _))) (.slice Ao63 y425.length co63)) (fun _ hk => by first | exact hk.2 | exact fun e_ => hk.2 (e_.trans (ob _ _ _ _))) (.int .i64 t404)) (fun _ hk => by first | exact hk.1.1.2 | exact fun e_ => hk.1.1.2 (e_.trans (ob _ _ _ _))), by exact lR <| Kd.R_mono (Kd.R_far (p := ⟨gb397, 2, none⟩) (Kd.R_far (p := ⟨gb397, 1, none⟩) (Kd.R_far (p := ⟨gb397, 0, none⟩) (Kd.R_far (p := ⟨gb406, 1, none⟩) (Kd.R_types (Kd.R_types HO427.out BK406.out (by decide)) BK397.out (by decide)) (fun _ hk => by first | exact hk.1.2 | exact fun e_ => hk.1.2 (e_.trans (ob _ _ _ _))) (.slice Ao63 y425.length co63)) (fun _ hk => by first | exact hk.2 | exact fun e_ => hk.2 (e_.trans (ob _ _ _ _))) (.slice Ao65 x407000_4.length co65)) (fun _ hk => by first | exact hk.2 | exact fun e_ => hk.2 (e_.trans (ob _ _ _ _))) (.slice Ao63 y425.length co63)) (fun _ hk => by first | exact hk.2 | exact fun e_ => hk.2 (e_.trans (ob _ _ _ _))) (.int .i64 t404)) (fun _ hk => by first | exact hk.1.1 | exact fun e_ => hk.1.1 (e_.trans (ob _ _ _ _))), by exact IsS69.j HI0.out, by exact jB HB.out, by exact jK HK.out⟩
      ·rw [if_neg c56] at H
       exact absurd H (by simp)
     ·rw [if_neg c55] at H
      have c55b0 := beq_eq_false_iff_ne.mpr c55
      have c55b1 := bne_iff_ne.mpr c55
      by_cases c68 : t420 = 2
      ·rw [if_pos c68] at H
       have c68b0 := beq_iff_eq.mpr c68
       have c68b1 := bne_eq_false_iff_eq.mpr c68
       clear c68
       obtain ⟨y428, hy428⟩ : ∃ y_ : List Int, y_ = (([10000001, (-10000001), 10000000] : List Int)) := ⟨_, rfl⟩
       replace H : ((spec_l20Rd_pick.f kj4 s0_0 t421 3).bind fun bt431 => (if 0 ≤ bt431.1 then (if bt431.1 < (y428.length : Int) then (some (x407000_4, x407001_4, rd y428 bt431.1, bt431.2)) else (none)) else (none))) = some (r1, r2, r3, r4) := by first | (rw [hy428]; exact H) | exact H
       have Ny428 := Aside0.mk hy428
       clear hy428
       obtain ⟨⟨t431, t432⟩, A69, H⟩ := bS H
       try dsimp only at H
       by_cases c70 : 0 ≤ t431
       ·rw [if_pos c70] at H
        have c70b0 := decide_eq_true c70
        clear c70
        by_cases c71 : t431 < (y428.length : Int)
        ·rw [if_pos c71] at H
         have c71b0 := decide_eq_true c71
         clear c71
         simp only [Option.some.injEq, Prod.mk.injEq] at H
         obtain ⟨rfl, rfl, rfl, rfl⟩ := H
         go_wp2_with (first | ((with_reducible refine gate_callee (f := 20) rfl ?_); refine gL (some 23) Try.func20 #[.pointer (some ⟨g, 0, none⟩), .int .i64 a1] ?_; (with_reducible refine (spec_l20Rd_pick.calls kj4 g s0_0 x1001_4 a1 t418 t419 w0 _ ?side1 ?side2 A32.out).mono ?_); (case side1 => exact IsS69.j HI0.out); (case side2 => exact jB HB.out); rintro e w72 ⟨rfl, hi, hb, hk⟩; refine ⟨_, rfl, ?_⟩; replace HO_407000 := Aside0.mk (IsS69.kp (f1 := x1001_4) (by exact IsS69.j HI0.out) (lR HO_407000.out) hk); replace HO_407001 := Aside0.mk (IsS69.kp (f1 := x1001_4) (by exact IsS69.j HI0.out) (lR HO_407001.out) hk); replace BK397 := Aside0.mk (kb hk BK397.out NB397_0.out); replace BK406 := Aside0.mk (kb hk BK406.out NB406_0.out); replace HK := Aside0.mk (kt HK.out hk); replace HB := Aside0.mk (hb); replace HI0 := Aside0.mk (hi); (try clear hb hk hi)) | ((with_reducible refine gate_callee (f := 20) rfl ?_); refine gL (some 27) Try.func20 #[.pointer (some ⟨g, 0, none⟩), .int .i64 4] ?_; (with_reducible refine (spec_l20Rd_pick.calls kj4 g s0_0 t419 4 t420 t421 w0 _ ?side1 ?side2 A42.out).mono ?_); (case side1 => exact IsS69.j HI0.out); (case side2 => exact jB HB.out); rintro e w73 ⟨rfl, hi, hb, hk⟩; refine ⟨_, rfl, ?_⟩; replace HO_407000 := Aside0.mk (IsS69.kp (f1 := t419) (by exact IsS69.j HI0.out) (lR HO_407000.out) hk); replace HO_407001 := Aside0.mk (IsS69.kp (f1 := t419) (by exact IsS69.j HI0.out) (lR HO_407001.out) hk); replace BK397 := Aside0.mk (kb hk BK397.out NB397_0.out); replace BK406 := Aside0.mk (kb hk BK406.out NB406_0.out); replace HK := Aside0.mk (kt HK.out hk); replace HB := Aside0.mk (hb); replace HI0 := Aside0.mk (hi); (try clear hb hk hi)) | ((with_reducible refine gate_dst (N := 53) rfl ?_); refine Kd.R_lit (Kd.int .i64) _ 3 ?hg (N := 53) ?hd (xs := ([10000001, (-10000001), 10000000] : List Int)) (inner := [.int .i64 10000001, .int .i64 (-10000001), .int .i64 10000000]) (ok := fun _ => True) (okp := fun _ => True) ?hr ?hp (fun _ hk => hk) trivial (Below.refl _ _) (Nat.le_refl _) (by simp) ?_; (case hd => rfl); (case hg => rfl); (case hr => first | (go_simp; done) | (go_simp; rfl)); (case hp => exact (Reps.one (show Kd.M (Kd.int .i64) _ _ _ 10000001 [.int .i64 10000001] from rfl) (Reps.one (show Kd.M (Kd.int .i64) _ _ _ (-10000001) [.int .i64 (-10000001)] from rfl) (Reps.one (show Kd.M (Kd.int .i64) _ _ _ 10000000 [.int .i64 10000000] from rfl) (Reps.none _ _))))); intro v429 w74 ho75 hb hg_ hnew_; clear hg_ hnew_; (first | rw [← Ny428.out] at ho75 | (simp only [Int.reduceToNat] at ho75; rw [← Ny428.out] at ho75)); have HO430 := Aside0.mk (Kd.R_lower (Kd.R_new' (Kd.R_new' ho75 (rl HO_407000.out)) (rl HO_407001.out)) (keep_size (w := w) (g := g) (row := none) (by exact jK HK.out))); replace HO_407000 := Aside0.mk (Kd.R_elder' (by exact lR HO_407000.out) (Kd.R_base ho75) hb); replace HO_407001 := Aside0.mk (Kd.R_elder' (by exact lR HO_407001.out) (Kd.R_base ho75) hb); replace BK397 := Aside0.mk (bb BK397.out hb); replace BK406 := Aside0.mk (bb BK406.out hb); replace HI0 := Aside0.mk (IsS69.below (by exact IsS69.j HI0.out) hb); replace HK := Aside0.mk (kbl HK.out hb); replace HB := Aside0.mk (bj HB.out hb); clear hb ho75) | ((with_reducible refine gate_callee (f := 20) rfl ?_); refine gL (some 55) Try.func20 #[.pointer (some ⟨g, 0, none⟩), .int .i64 3] ?_; (with_reducible refine (spec_l20Rd_pick.calls kj4 g s0_0 t421 3 t431 t432 w0 _ ?side1 ?side2 A69.out).mono ?_); (case side1 => exact IsS69.j HI0.out); (case side2 => exact jB HB.out); rintro e w76 ⟨rfl, hi, hb, hk⟩; refine ⟨_, rfl, ?_⟩; replace HO_407000 := Aside0.mk (IsS69.kp (f1 := t421) (by exact IsS69.j HI0.out) (lR HO_407000.out) hk); replace HO_407001 := Aside0.mk (IsS69.kp (f1 := t421) (by exact IsS69.j HI0.out) (lR HO_407001.out) hk); replace BK397 := Aside0.mk (kb hk BK397.out NB397_0.out); replace BK406 := Aside0.mk (kb hk BK406.out NB406_0.out); replace HO430 := Aside0.mk (IsS69.kp (f1 := t421) (by exact IsS69.j HI0.out) (lR HO430.out) hk); replace HK := Aside0.mk (kt HK.out hk); replace HB := Aside0.mk (hb); replace HI0 := Aside0.mk (hi); (try clear hb hk hi); obtain ⟨Ao77, co77, eo77⟩ := Kd.R_slice HO430.out; subst eo77; have p433 : 0 ≤ (t431 : Int) := of_decide_eq_true (by first | (with_reducible assumption) | assumption); have q433 : t431 < (y428.length : Int) := of_decide_eq_true (by first | (with_reducible assumption) | assumption); obtain ⟨ad433, e433, hx433_0⟩ := Kd.at_int (Kd.R_reads' HO430.out).2.2 t431 p433 q433; cases e433; replace p433 := eq_true p433; replace q433 := eq_true q433; have hnb78 := NB406_397.out; have hnc78 := NB397_406.out; have hnb79 := NB406_0.out; have hnc79 := NB0_406.out; obtain ⟨hcz80_0, hcz80_1, hcz80_2, hfz80_0, hfz80_1, hfz80_2⟩ := cf3 BK406.out; obtain ⟨Ao81, co81, eo81⟩ := Kd.R_slice HO_407000.out; subst eo81; have hnb82 := NB397_0.out; have hnc82 := NB0_397.out; obtain ⟨hcz83_0, hcz83_1, hcz83_2, hfz83_0, hfz83_1, hfz83_2⟩ := cf3 BK397.out; obtain ⟨Ao84, co84, eo84⟩ := Kd.R_slice HO_407001.out; subst eo84))
         refine bodyPost_ret (results_cell_row rfl _ _ gb397 43 #[.slice Ao81 x407000_4.length co81, .slice Ao84 x407001_4.length co84, .int .i64 (rd y428 t431)] (0, 0) _ rfl (by (with_reducible repeat first | refine kN ?_ _ | refine kD ?_ | refine kA ?_ _); refine blk_put (cs := #[.slice Ao81 x407000_4.length co81, .slice Ao84 x407001_4.length co84, .int .i64 0]) ?_ 2 _ rfl; (with_reducible repeat first | refine kN ?_ _ | refine kD ?_ | refine kA ?_ _); refine blk_put (cs := #[.slice Ao81 x407000_4.length co81, .slice none 0 0, .int .i64 0]) ?_ 1 _ rfl; (with_reducible repeat first | refine kN ?_ _ | refine kD ?_ | refine kA ?_ _); refine blk_put (cs := #[.slice none 0 0, .slice none 0 0, .int .i64 0]) ?_ 0 _ rfl; (with_reducible repeat first | refine kN ?_ _ | refine kD ?_ | refine kA ?_ _); refine blk_far ?_ NB397_406.out _; exact lK BK397.out) Try.underlying43 rfl (by kernel_rfl)) rfl ?_
         exact ⟨_, _, by first | rfl | (simp [errW_none, errW_some] <;> rfl) | (simp [*, errW_none, errW_some] <;> rfl), by exact lR <| Kd.R_mono (Kd.R_far (p := ⟨gb397, 2, none⟩) (Kd.R_far (p := ⟨gb397, 1, none⟩) (Kd.R_far (p := ⟨gb397, 0, none⟩) (Kd.R_far (p := ⟨gb406, 2, none⟩) (Kd.R_types (Kd.R_types HO_407000.out BK406.out (by decide)) BK397.out (by decide)) (fun _ hk => by first | exact hk.1.2 | exact fun e_ => hk.1.2 (e_.trans (ob _ _ _ _))) (.int .i64 (rd y428 t431))) (fun _ hk => by first | exact hk.2 | exact fun e_ => hk.2 (e_.trans (ob _ _ _ _))) (.slice Ao81 x407000_4.length co81)) (fun _ hk => by first | exact hk.2 | exact fun e_ => hk.2 (e_.trans (ob _ _ _ _))) (.slice Ao84 x407001_4.length co84)) (fun _ hk => by first | exact hk.2 | exact fun e_ => hk.2 (e_.trans (ob _ _ _ _))) (.int .i64 (rd y428 t431))) (fun _ hk => by first | exact hk.1.1.1 | exact fun e_ => hk.1.1.1 (e_.trans (ob _ _ _ _))), by exact lR <| Kd.R_mono (Kd.R_far (p := ⟨gb397, 2, none⟩) (Kd.R_far (p := ⟨gb397, 1, none⟩) (Kd.R_far (p := ⟨gb397, 0, none⟩) (Kd.R_far (p := ⟨gb406, 2, none⟩) (Kd.R_types (Kd.R_types HO_407001.out BK406.out (by decide)) BK397.out (by decide)) (fun _ hk => by first | exact hk.1.2 | exact fun e_ => hk.1.2 (e_.trans (ob _ _ _ _))) (.int .i64 (rd y428 t431))) (fun _ hk => by first | exact hk.2 | exact fun e_ => hk.2 (e_.trans (ob _ _ _ _))) (.slice Ao81 x407000_4.length co81)) (fun _ hk => by first | exact hk.2 | exact fun e_ => hk.2 (e_.trans (ob _ _ _ _))) (.slice Ao84 x407001_4.length co84)) (fun _ hk => by first | exact hk.2 | exact fun e_ => hk.2 (e_.trans (ob _ _ _ _))) (.int .i64 (rd y428 t431))) (fun _ hk => by first | exact hk.1.1.1 | exact fun e_ => hk.1.1.1 (e_.trans (ob _ _ _ _))), by exact IsS69.j HI0.out, by exact jB HB.out, by exact jK HK.out⟩
        ·rw [if_neg c71] at H
         exact absurd H (by simp)
       ·rw [if_neg c70] at H
        exact absurd H (by simp)
      ·rw [if_neg c68] at H
       have c68b0 := beq_eq_false_iff_ne.mpr c68
       have c68b1 := bne_iff_ne.mpr c68
       obtain ⟨⟨t434, t435⟩, A85, H⟩ := bS H
       try dsimp only at H
       obtain ⟨y436, hy436⟩ : ∃ y_ : List Int, y_ = (([10000001, (-10000001)] : List Int)) := ⟨_, rfl⟩
       replace H : ((spec_l20Rd_pick.f kj4 s0_0 t435 2).bind fun bt439 => (if 0 ≤ bt439.1 then (if bt439.1 < (y436.length : Int) then (if 0 ≤ t434 then (if t434 < (x407000_4.length : Int) then (some ((x407000_4.set (t434 : Int).toNat (rd y436 bt439.1)), x407001_4, t404, bt439.2)) else (none)) else (none)) else (none)) else (none))) = some (r1, r2, r3, r4) := by first | (rw [hy436]; exact H) | exact H
       have Ny436 := Aside0.mk hy436
       clear hy436
       obtain ⟨⟨t439, t440⟩, A86, H⟩ := bS H
       try dsimp only at H
       by_cases c87 : 0 ≤ t439
       ·rw [if_pos c87] at H
        have c87b0 := decide_eq_true c87
        clear c87
        by_cases c88 : t439 < (y436.length : Int)
        ·rw [if_pos c88] at H
         have c88b0 := decide_eq_true c88
         clear c88
         by_cases c89 : 0 ≤ t434
         ·rw [if_pos c89] at H
          have c89b0 := decide_eq_true c89
          clear c89
          by_cases c90 : t434 < (x407000_4.length : Int)
          ·rw [if_pos c90] at H
           have c90b0 := decide_eq_true c90
           clear c90
           obtain ⟨y442, hy442⟩ : ∃ y_ : List Int, y_ = (x407000_4.set (t434 : Int).toNat (rd y436 t439)) := ⟨_, rfl⟩
           replace H : (some (y442, x407001_4, t404, t440)) = some (r1, r2, r3, r4) := by first | (rw [hy442]; exact H) | exact H
           have Ny442 := Aside0.mk hy442
           clear hy442
           simp only [Option.some.injEq, Prod.mk.injEq] at H
           obtain ⟨rfl, rfl, rfl, rfl⟩ := H
           try go_wp2_with (first | ((with_reducible refine gate_callee (f := 20) rfl ?_); refine gL (some 23) Try.func20 #[.pointer (some ⟨g, 0, none⟩), .int .i64 a1] ?_; (with_reducible refine (spec_l20Rd_pick.calls kj4 g s0_0 x1001_4 a1 t418 t419 w0 _ ?side1 ?side2 A32.out).mono ?_); (case side1 => exact IsS69.j HI0.out); (case side2 => exact jB HB.out); rintro e w92 ⟨rfl, hi, hb, hk⟩; refine ⟨_, rfl, ?_⟩; replace HO_407000 := Aside0.mk (IsS69.kp (f1 := x1001_4) (by exact IsS69.j HI0.out) (lR HO_407000.out) hk); replace HO_407001 := Aside0.mk (IsS69.kp (f1 := x1001_4) (by exact IsS69.j HI0.out) (lR HO_407001.out) hk); replace BK397 := Aside0.mk (kb hk BK397.out NB397_0.out); replace BK406 := Aside0.mk (kb hk BK406.out NB406_0.out); replace HK := Aside0.mk (kt HK.out hk); replace HB := Aside0.mk (hb); replace HI0 := Aside0.mk (hi); (try clear hb hk hi)) | ((with_reducible refine gate_callee (f := 20) rfl ?_); refine gL (some 27) Try.func20 #[.pointer (some ⟨g, 0, none⟩), .int .i64 4] ?_; (with_reducible refine (spec_l20Rd_pick.calls kj4 g s0_0 t419 4 t420 t421 w0 _ ?side1 ?side2 A42.out).mono ?_); (case side1 => exact IsS69.j HI0.out); (case side2 => exact jB HB.out); rintro e w93 ⟨rfl, hi, hb, hk⟩; refine ⟨_, rfl, ?_⟩; replace HO_407000 := Aside0.mk (IsS69.kp (f1 := t419) (by exact IsS69.j HI0.out) (lR HO_407000.out) hk); replace HO_407001 := Aside0.mk (IsS69.kp (f1 := t419) (by exact IsS69.j HI0.out) (lR HO_407001.out) hk); replace BK397 := Aside0.mk (kb hk BK397.out NB397_0.out); replace BK406 := Aside0.mk (kb hk BK406.out NB406_0.out); replace HK := Aside0.mk (kt HK.out hk); replace HB := Aside0.mk (hb); replace HI0 := Aside0.mk (hi); (try clear hb hk hi)))
           have pi441 : (0 ≤ (t439 : Int)) = True := eq_true (of_decide_eq_true (by first | (with_reducible assumption) | assumption))
           have qi441 : (t439 < (y436.length : Int)) = True := eq_true (of_decide_eq_true (by first | (with_reducible assumption) | assumption))
           replace HO_407000 := Aside0.mk (Kd.R_drew HO_407000.out)
           replace HO_407001 := Aside0.mk (Kd.R_drew HO_407001.out)
           replace BK397 := Aside0.mk (blk_drew BK397.out)
           replace BK406 := Aside0.mk (blk_drew BK406.out)
           replace HI0 := Aside0.mk (IsS69.drew HI0.out)
           replace HK := Aside0.mk (keep_drew HK.out)
           replace HB := Aside0.mk (below_drew1 HB.out)
           refine start_ (n := 11) (S := fun w' => w'.cell? ⟨gb406, 0, none⟩ = some (u407000) ∧ w'.cell? ⟨gb406, 1, none⟩ = some (u407001) ∧ w'.cell? ⟨gb406, 2, none⟩ = some (.int .i64 t404)) (ds := [10]) #[false, false, false, false, false, false, false, false, false, false, false] (by kernel_rfl) rfl rfl (cz3 BK406.out) (fun hHeld => ?_); refine with_tabW spec_l20Form.tab7 spec_l20Form.bits7 (fun HT_ HW_ => ?_)
           generalize w93.drew = w94 at HO_407000 HO_407001 BK397 BK406 HI0 HK HB hHeld ⊢
           refine pure_ (i := 0) (N := some 28) (v := ?_) (a' := ?_) #[true, false, false, false, false, false, false, false, false, false, false] rfl rfl (any_of HT_.out (by kernel_rfl)) (fun _ _ _ h => h) (Or.inl ⟨by rfl, ?_⟩) ?_ ?_
           rotate_left
           ·intro w'
            go_simp
            with_reducible rfl
           rotate_left
           ·simp only [Act.put, sA, s0, sS, i64_w, i32_w]
            rfl
           refine pure_ (i := 2) (N := some 30) (v := ?_) (a' := ?_) #[true, false, true, false, false, false, false, false, false, false, false] rfl rfl (any_of HT_.out (by kernel_rfl)) (fun _ _ _ h => h) (Or.inl ⟨by rfl, ?_⟩) ?_ ?_
           rotate_left
           ·intro w'
            go_simp
            with_reducible rfl
           rotate_left
           ·simp only [Act.put, sA, s0, sS, i64_w, i32_w]
            rfl
           refine pure_ (i := 5) (N := some 33) (v := ?_) (a' := ?_) #[true, false, true, false, false, true, false, false, false, false, false] rfl rfl (any_of HT_.out (by kernel_rfl)) (fun _ _ _ h => h) (Or.inl ⟨by rfl, ?_⟩) ?_ ?_
           rotate_left
           ·intro w'
            go_simp
            with_reducible rfl
           rotate_left
           ·simp only [Act.put, sA, s0, sS, i64_w, i32_w]
            rfl
           refine take_ (i := 1) (N := some 29) (v := ?_) (a' := ?_) #[true, true, true, false, false, true, false, false, false, false, false] rfl rfl (take_ofW HT_.out HW_.out (by kernel_rfl)) (fun _ _ _ h => h) (Or.inl ⟨by rfl, ?_⟩) hHeld ?_ ?_
           rotate_left
           ·rintro w' ⟨s0, s1, s2⟩
            go_simp
            with_reducible rfl
           rotate_left
           ·simp only [Act.put, sA, s0, sS, i64_w, i32_w]
            rfl
           refine join_ (σ := Value × Addr) 4 #[true, true, true, true, true, true, true, false, false, false, false] (fun s_ => [(31, .int .i64 t434), (32, s_.1), (34, .int .i64 t439)]) (fun s_ w' => (w'.cell? ⟨gb406, 0, none⟩ = some (u407000) ∧ w'.cell? ⟨gb406, 1, none⟩ = some (u407001) ∧ w'.cell? ⟨gb406, 2, none⟩ = some (.int .i64 t404)) ∧ (Kd.R (Kd.int .i64) 3 w' w.heap.size (fun k_ => some k_ ≠ (u407000 : Value).ownBlock ∧ some k_ ≠ (u407001 : Value).ownBlock) s_.1 y436) ∧ (Kd.R (Kd.int .i64) 3 w' w.heap.size (fun k_ => some k_ ≠ (s_.1 : Value).ownBlock ∧ some k_ ≠ (u407001 : Value).ownBlock) u407000 x407000_4) ∧ (Kd.R (Kd.int .i64) 3 w' w.heap.size (fun k_ => some k_ ≠ (s_.1 : Value).ownBlock ∧ some k_ ≠ (u407000 : Value).ownBlock) u407001 x407001_4) ∧ (∃ c_, (s_.1 : Value) = .slice (some s_.2) y436.length c_) ∧ (w'.heap[gb397]? = some (.cells #[.slice none 0 0, .slice none 0 0, .int .i64 0] 43 (0, 0))) ∧ (w'.heap[gb406]? = some (.cells #[u407000, u407001, .int .i64 t404] 43 (0, 0))) ∧ (IsS69 w0 w' g s0_0 t440) ∧ (KeepBut w w' g none) ∧ (Below w0.heap.size w0 w')) ?_ ?_
           rotate_left
           ·intro hCont
            refine two_ (i := 3) (j := 4) (Ni := some 31) (Nj := some 32) #[true, true, true, true, false, true, false, false, false, false, false] #[true, true, true, false, true, true, false, false, false, false, false] rfl rfl rfl rfl (two_of HT_.out (by kernel_rfl)) (by decide) (by decide) (fun K hK => ?_) (fun K hK => ?_)
            ·skip
             refine goes_ Try.func20 (by kernel_rfl) rfl #[.pointer (some ⟨g, 0, none⟩), .int .i64 3] (by rfl) rfl rfl (by (try simp only [mA, mC, mN]); first | done | rfl | (simp only [ld, lt]; rfl)) ?_
             with_reducible refine (spec_l20Rd_pick.calls kj4 g s0_0 t421 3 t434 t435 w0 _ ?side1 ?side2 A85.out).mono ?_
             (case side1 => exact IsS69.j HI0.out)
             (case side2 => exact jB HB.out)
             rintro e w95 ⟨rfl, hi, hb, hk⟩
             refine ⟨_, rfl, ?_⟩
             replace HO_407000 := Aside0.mk (IsS69.kp (f1 := t421) (by exact IsS69.j HI0.out) (lR HO_407000.out) hk)
             replace HO_407001 := Aside0.mk (IsS69.kp (f1 := t421) (by exact IsS69.j HI0.out) (lR HO_407001.out) hk)
             replace BK397 := Aside0.mk (kb hk BK397.out NB397_0.out)
             replace BK406 := Aside0.mk (kb hk BK406.out NB406_0.out)
             replace HK := Aside0.mk (kt HK.out hk)
             replace HB := Aside0.mk (hb)
             replace HI0 := Aside0.mk (hi)
             (try clear hb)
             (try clear hb2)
             (try clear hk)
             (try clear hi)
             refine hK.out _ _ (cz3 BK406.out) (fun hHeld => ?_)
             clear hK K
             refine norm_ (a' := ?_) ?_ ?_
             rotate_left
             ·show Act.put _ (some 31) _ = _
              simp only [Act.put, sA, s0, sS, i64_w, i32_w]
              rfl
             refine two_ (i := 4) (j := 6) (Ni := some 32) (Nj := some 34) #[true, true, true, true, true, true, false, false, false, false, false] #[true, true, true, true, false, true, true, false, false, false, false] rfl rfl rfl rfl (two_of HT_.out (by kernel_rfl)) (by decide) (by decide) (fun K hK => ?_) (fun K hK => ?_)
             ·skip
              refine Kd.R_lit_step (Kd.int .i64) _ 3 ?hg (N := 32) ?hd (xs := ([10000001, (-10000001)] : List Int)) (inner := [.int .i64 10000001, .int .i64 (-10000001)]) (ok := fun _ => True) (okp := fun _ => True) ?hr ?hp (fun _ hk => hk) trivial (Below.refl _ _) (Nat.le_refl _) (by simp) ?_; (case hd => rfl); (case hg => rfl); (case hr => first | (go_simp; done) | (go_simp; rfl)); (case hp => exact (Reps.one (show Kd.M (Kd.int .i64) _ _ _ 10000001 [.int .i64 10000001] from rfl) (Reps.one (show Kd.M (Kd.int .i64) _ _ _ (-10000001) [.int .i64 (-10000001)] from rfl) (Reps.none _ _))))
              intro v437 w96 ho97 hb hg_ hnew_
              clear hg_ hnew_
              (first | rw [← Ny436.out] at ho97 | (simp only [Int.reduceToNat] at ho97; rw [← Ny436.out] at ho97))
              have HO438 := Aside0.mk (Kd.R_lower (Kd.R_new' (Kd.R_new' ho97 (rl HO_407000.out)) (rl HO_407001.out)) (keep_size (w := w) (g := g) (row := none) (by exact jK HK.out)))
              replace HO_407000 := Aside0.mk (Kd.R_elder' (by exact lR HO_407000.out) (Kd.R_base ho97) hb)
              replace HO_407001 := Aside0.mk (Kd.R_elder' (by exact lR HO_407001.out) (Kd.R_base ho97) hb)
              replace BK397 := Aside0.mk (bb BK397.out hb)
              replace BK406 := Aside0.mk (bb BK406.out hb)
              replace HI0 := Aside0.mk (IsS69.below (by exact IsS69.j HI0.out) hb)
              replace HK := Aside0.mk (kbl HK.out hb)
              replace HB := Aside0.mk (bj HB.out hb)
              clear hb ho97
              obtain ⟨Ao98, co98, eo98⟩ := Kd.R_slice HO438.out
              subst eo98
              obtain ⟨ado98, fo98, _⟩ := Kd.at_int (Kd.R_reads' HO438.out).2.2 0 (by decide) (by rw [Ny436.out]; simp)
              cases fo98
              refine hK.out _ _ (cz3 BK406.out) (fun hHeld => ?_)
              clear hK K
              refine norm_ (a' := ?_) ?_ ?_
              rotate_left
              ·show Act.put _ (some 32) _ = _
               simp only [Act.put, sA, s0, sS, i64_w, i32_w]
               rfl
              refine one_ (i := 6) (N := some 34) #[true, true, true, true, true, true, true, false, false, false, false] rfl rfl (one_of HT_.out (by kernel_rfl)) (by decide) (fun K hK => ?_)
              refine goes_ Try.func20 (by kernel_rfl) rfl #[.pointer (some ⟨g, 0, none⟩), .int .i64 2] (by rfl) rfl rfl (by (try simp only [mA, mC, mN]); first | done | rfl | (simp only [ld, lt]; rfl)) ?_
              with_reducible refine (spec_l20Rd_pick.calls kj4 g s0_0 t435 2 t439 t440 w0 _ ?side1 ?side2 A86.out).mono ?_
              (case side1 => exact IsS69.j HI0.out)
              (case side2 => exact jB HB.out)
              rintro e w99 ⟨rfl, hi, hb, hk⟩
              refine ⟨_, rfl, ?_⟩
              replace HO_407000 := Aside0.mk (IsS69.kp (f1 := t435) (by exact IsS69.j HI0.out) (lR HO_407000.out) hk)
              replace HO_407001 := Aside0.mk (IsS69.kp (f1 := t435) (by exact IsS69.j HI0.out) (lR HO_407001.out) hk)
              replace BK397 := Aside0.mk (kb hk BK397.out NB397_0.out)
              replace BK406 := Aside0.mk (kb hk BK406.out NB406_0.out)
              replace HO438 := Aside0.mk (IsS69.kp (f1 := t435) (by exact IsS69.j HI0.out) (lR HO438.out) hk)
              replace HK := Aside0.mk (kt HK.out hk)
              replace HB := Aside0.mk (hb)
              replace HI0 := Aside0.mk (hi)
              (try clear hb)
              (try clear hb2)
              (try clear hk)
              (try clear hi)
              refine hK.out _ _ (cz3 BK406.out) (fun hHeld => ?_)
              clear hK K
              refine norm_ (a' := ?_) ?_ ?_
              rotate_left
              ·show Act.put _ (some 34) _ = _
               simp only [Act.put, sA, s0, sS, i64_w, i32_w]
               rfl
              exact norm_ (by simp only [putAll, Act.put, List.setIfInBounds_toArray, List.set_cons_zero, List.set_cons_succ]) (hCont (.slice (some ado98) y436.length co98, ado98) _ ⟨hHeld, (by exact lR <| Kd.R_mono HO438.out (fun _ hk => ⟨hk.1.2, hk.2⟩)), (by exact lR <| Kd.R_mono HO_407000.out (fun _ hk => ⟨hk.2, hk.1⟩)), (by exact lR <| Kd.R_mono HO_407001.out (fun _ hk => ⟨hk.2, hk.1⟩)), ⟨_, rfl⟩, (by exact lK BK397.out), (by exact lK BK406.out), (by exact IsS69.j HI0.out), (by exact jK HK.out), (by exact jB HB.out)⟩)
             ·skip
              refine goes_ Try.func20 (by kernel_rfl) rfl #[.pointer (some ⟨g, 0, none⟩), .int .i64 2] (by rfl) rfl rfl (by (try simp only [mA, mC, mN]); first | done | rfl | (simp only [ld, lt]; rfl)) ?_
              with_reducible refine (spec_l20Rd_pick.calls kj4 g s0_0 t435 2 t439 t440 w0 _ ?side1 ?side2 A86.out).mono ?_
              (case side1 => exact IsS69.j HI0.out)
              (case side2 => exact jB HB.out)
              rintro e w96 ⟨rfl, hi, hb, hk⟩
              refine ⟨_, rfl, ?_⟩
              replace HO_407000 := Aside0.mk (IsS69.kp (f1 := t435) (by exact IsS69.j HI0.out) (lR HO_407000.out) hk)
              replace HO_407001 := Aside0.mk (IsS69.kp (f1 := t435) (by exact IsS69.j HI0.out) (lR HO_407001.out) hk)
              replace BK397 := Aside0.mk (kb hk BK397.out NB397_0.out)
              replace BK406 := Aside0.mk (kb hk BK406.out NB406_0.out)
              replace HK := Aside0.mk (kt HK.out hk)
              replace HB := Aside0.mk (hb)
              replace HI0 := Aside0.mk (hi)
              (try clear hb)
              (try clear hb2)
              (try clear hk)
              (try clear hi)
              refine hK.out _ _ (cz3 BK406.out) (fun hHeld => ?_)
              clear hK K
              refine norm_ (a' := ?_) ?_ ?_
              rotate_left
              ·show Act.put _ (some 34) _ = _
               simp only [Act.put, sA, s0, sS, i64_w, i32_w]
               rfl
              refine one_ (i := 4) (N := some 32) #[true, true, true, true, true, true, true, false, false, false, false] rfl rfl (one_of HT_.out (by kernel_rfl)) (by decide) (fun K hK => ?_)
              refine Kd.R_lit_step (Kd.int .i64) _ 3 ?hg (N := 32) ?hd (xs := ([10000001, (-10000001)] : List Int)) (inner := [.int .i64 10000001, .int .i64 (-10000001)]) (ok := fun _ => True) (okp := fun _ => True) ?hr ?hp (fun _ hk => hk) trivial (Below.refl _ _) (Nat.le_refl _) (by simp) ?_; (case hd => rfl); (case hg => rfl); (case hr => first | (go_simp; done) | (go_simp; rfl)); (case hp => exact (Reps.one (show Kd.M (Kd.int .i64) _ _ _ 10000001 [.int .i64 10000001] from rfl) (Reps.one (show Kd.M (Kd.int .i64) _ _ _ (-10000001) [.int .i64 (-10000001)] from rfl) (Reps.none _ _))))
              intro v437 w97 ho98 hb hg_ hnew_
              clear hg_ hnew_
              (first | rw [← Ny436.out] at ho98 | (simp only [Int.reduceToNat] at ho98; rw [← Ny436.out] at ho98))
              have HO438 := Aside0.mk (Kd.R_lower (Kd.R_new' (Kd.R_new' ho98 (rl HO_407000.out)) (rl HO_407001.out)) (keep_size (w := w) (g := g) (row := none) (by exact jK HK.out)))
              replace HO_407000 := Aside0.mk (Kd.R_elder' (by exact lR HO_407000.out) (Kd.R_base ho98) hb)
              replace HO_407001 := Aside0.mk (Kd.R_elder' (by exact lR HO_407001.out) (Kd.R_base ho98) hb)
              replace BK397 := Aside0.mk (bb BK397.out hb)
              replace BK406 := Aside0.mk (bb BK406.out hb)
              replace HI0 := Aside0.mk (IsS69.below (by exact IsS69.j HI0.out) hb)
              replace HK := Aside0.mk (kbl HK.out hb)
              replace HB := Aside0.mk (bj HB.out hb)
              clear hb ho98
              obtain ⟨Ao99, co99, eo99⟩ := Kd.R_slice HO438.out
              subst eo99
              obtain ⟨ado99, fo99, _⟩ := Kd.at_int (Kd.R_reads' HO438.out).2.2 0 (by decide) (by rw [Ny436.out]; simp)
              cases fo99
              refine hK.out _ _ (cz3 BK406.out) (fun hHeld => ?_)
              clear hK K
              refine norm_ (a' := ?_) ?_ ?_
              rotate_left
              ·show Act.put _ (some 32) _ = _
               simp only [Act.put, sA, s0, sS, i64_w, i32_w]
               rfl
              exact norm_ (by simp only [putAll, Act.put, List.setIfInBounds_toArray, List.set_cons_zero, List.set_cons_succ]) (hCont (.slice (some ado99) y436.length co99, ado99) _ ⟨hHeld, (by exact lR <| Kd.R_mono HO438.out (fun _ hk => ⟨hk.1.2, hk.2⟩)), (by exact lR <| Kd.R_mono HO_407000.out (fun _ hk => ⟨hk.2, hk.1⟩)), (by exact lR <| Kd.R_mono HO_407001.out (fun _ hk => ⟨hk.2, hk.1⟩)), ⟨_, rfl⟩, (by exact lK BK397.out), (by exact lK BK406.out), (by exact IsS69.j HI0.out), (by exact jK HK.out), (by exact jB HB.out)⟩)
            ·skip
             refine Kd.R_lit_step (Kd.int .i64) _ 3 ?hg (N := 32) ?hd (xs := ([10000001, (-10000001)] : List Int)) (inner := [.int .i64 10000001, .int .i64 (-10000001)]) (ok := fun _ => True) (okp := fun _ => True) ?hr ?hp (fun _ hk => hk) trivial (Below.refl _ _) (Nat.le_refl _) (by simp) ?_; (case hd => rfl); (case hg => rfl); (case hr => first | (go_simp; done) | (go_simp; rfl)); (case hp => exact (Reps.one (show Kd.M (Kd.int .i64) _ _ _ 10000001 [.int .i64 10000001] from rfl) (Reps.one (show Kd.M (Kd.int .i64) _ _ _ (-10000001) [.int .i64 (-10000001)] from rfl) (Reps.none _ _))))
             intro v437 w95 ho96 hb hg_ hnew_
             clear hg_ hnew_
             (first | rw [← Ny436.out] at ho96 | (simp only [Int.reduceToNat] at ho96; rw [← Ny436.out] at ho96))
             have HO438 := Aside0.mk (Kd.R_lower (Kd.R_new' (Kd.R_new' ho96 (rl HO_407000.out)) (rl HO_407001.out)) (keep_size (w := w) (g := g) (row := none) (by exact jK HK.out)))
             replace HO_407000 := Aside0.mk (Kd.R_elder' (by exact lR HO_407000.out) (Kd.R_base ho96) hb)
             replace HO_407001 := Aside0.mk (Kd.R_elder' (by exact lR HO_407001.out) (Kd.R_base ho96) hb)
             replace BK397 := Aside0.mk (bb BK397.out hb)
             replace BK406 := Aside0.mk (bb BK406.out hb)
             replace HI0 := Aside0.mk (IsS69.below (by exact IsS69.j HI0.out) hb)
             replace HK := Aside0.mk (kbl HK.out hb)
             replace HB := Aside0.mk (bj HB.out hb)
             clear hb ho96
             obtain ⟨Ao97, co97, eo97⟩ := Kd.R_slice HO438.out
             subst eo97
             obtain ⟨ado97, fo97, _⟩ := Kd.at_int (Kd.R_reads' HO438.out).2.2 0 (by decide) (by rw [Ny436.out]; simp)
             cases fo97
             refine hK.out _ _ (cz3 BK406.out) (fun hHeld => ?_)
             clear hK K
             refine norm_ (a' := ?_) ?_ ?_
             rotate_left
             ·show Act.put _ (some 32) _ = _
              simp only [Act.put, sA, s0, sS, i64_w, i32_w]
              rfl
             refine one_ (i := 3) (N := some 31) #[true, true, true, true, true, true, false, false, false, false, false] rfl rfl (one_of HT_.out (by kernel_rfl)) (by decide) (fun K hK => ?_)
             refine goes_ Try.func20 (by kernel_rfl) rfl #[.pointer (some ⟨g, 0, none⟩), .int .i64 3] (by rfl) rfl rfl (by (try simp only [mA, mC, mN]); first | done | rfl | (simp only [ld, lt]; rfl)) ?_
             with_reducible refine (spec_l20Rd_pick.calls kj4 g s0_0 t421 3 t434 t435 w0 _ ?side1 ?side2 A85.out).mono ?_
             (case side1 => exact IsS69.j HI0.out)
             (case side2 => exact jB HB.out)
             rintro e w98 ⟨rfl, hi, hb, hk⟩
             refine ⟨_, rfl, ?_⟩
             replace HO_407000 := Aside0.mk (IsS69.kp (f1 := t421) (by exact IsS69.j HI0.out) (lR HO_407000.out) hk)
             replace HO_407001 := Aside0.mk (IsS69.kp (f1 := t421) (by exact IsS69.j HI0.out) (lR HO_407001.out) hk)
             replace BK397 := Aside0.mk (kb hk BK397.out NB397_0.out)
             replace BK406 := Aside0.mk (kb hk BK406.out NB406_0.out)
             replace HO438 := Aside0.mk (IsS69.kp (f1 := t421) (by exact IsS69.j HI0.out) (lR HO438.out) hk)
             replace HK := Aside0.mk (kt HK.out hk)
             replace HB := Aside0.mk (hb)
             replace HI0 := Aside0.mk (hi)
             (try clear hb)
             (try clear hb2)
             (try clear hk)
             (try clear hi)
             refine hK.out _ _ (cz3 BK406.out) (fun hHeld => ?_)
             clear hK K
             refine norm_ (a' := ?_) ?_ ?_
             rotate_left
             ·show Act.put _ (some 31) _ = _
              simp only [Act.put, sA, s0, sS, i64_w, i32_w]
              rfl
             refine one_ (i := 6) (N := some 34) #[true, true, true, true, true, true, true, false, false, false, false] rfl rfl (one_of HT_.out (by kernel_rfl)) (by decide) (fun K hK => ?_)
             refine goes_ Try.func20 (by kernel_rfl) rfl #[.pointer (some ⟨g, 0, none⟩), .int .i64 2] (by rfl) rfl rfl (by (try simp only [mA, mC, mN]); first | done | rfl | (simp only [ld, lt]; rfl)) ?_
             with_reducible refine (spec_l20Rd_pick.calls kj4 g s0_0 t435 2 t439 t440 w0 _ ?side1 ?side2 A86.out).mono ?_
             (case side1 => exact IsS69.j HI0.out)
             (case side2 => exact jB HB.out)
             rintro e w99 ⟨rfl, hi, hb, hk⟩
             refine ⟨_, rfl, ?_⟩
             replace HO_407000 := Aside0.mk (IsS69.kp (f1 := t435) (by exact IsS69.j HI0.out) (lR HO_407000.out) hk)
             replace HO_407001 := Aside0.mk (IsS69.kp (f1 := t435) (by exact IsS69.j HI0.out) (lR HO_407001.out) hk)
             replace BK397 := Aside0.mk (kb hk BK397.out NB397_0.out)
             replace BK406 := Aside0.mk (kb hk BK406.out NB406_0.out)
             replace HO438 := Aside0.mk (IsS69.kp (f1 := t435) (by exact IsS69.j HI0.out) (lR HO438.out) hk)
             replace HK := Aside0.mk (kt HK.out hk)
             replace HB := Aside0.mk (hb)
             replace HI0 := Aside0.mk (hi)
             (try clear hb)
             (try clear hb2)
             (try clear hk)
             (try clear hi)
             refine hK.out _ _ (cz3 BK406.out) (fun hHeld => ?_)
             clear hK K
             refine norm_ (a' := ?_) ?_ ?_
             rotate_left
             ·show Act.put _ (some 34) _ = _
              simp only [Act.put, sA, s0, sS, i64_w, i32_w]
              rfl
             exact norm_ (by simp only [putAll, Act.put, List.setIfInBounds_toArray, List.set_cons_zero, List.set_cons_succ]) (hCont (.slice (some ado97) y436.length co97, ado97) _ ⟨hHeld, (by exact lR <| Kd.R_mono HO438.out (fun _ hk => ⟨hk.1.2, hk.2⟩)), (by exact lR <| Kd.R_mono HO_407000.out (fun _ hk => ⟨hk.2, hk.1⟩)), (by exact lR <| Kd.R_mono HO_407001.out (fun _ hk => ⟨hk.2, hk.1⟩)), ⟨_, rfl⟩, (by exact lK BK397.out), (by exact lK BK406.out), (by exact IsS69.j HI0.out), (by exact jK HK.out), (by exact jB HB.out)⟩)
           rintro ⟨v437, adz_v437⟩ w100 ⟨hS_, h0_, h1_, h2_, h3_, h4_, h5_, h6_, h7_, h8_⟩
           have HO438 : Aside0 (Kd.R (Kd.int .i64) 3 w100 w.heap.size (fun k_ => some k_ ≠ (u407000 : Value).ownBlock ∧ some k_ ≠ (u407001 : Value).ownBlock) v437 y436) := ⟨h0_⟩
           replace HO_407000 : Aside0 (Kd.R (Kd.int .i64) 3 w100 w.heap.size (fun k_ => some k_ ≠ v437.ownBlock ∧ some k_ ≠ (u407001 : Value).ownBlock) u407000 x407000_4) := ⟨h1_⟩
           replace HO_407001 : Aside0 (Kd.R (Kd.int .i64) 3 w100 w.heap.size (fun k_ => some k_ ≠ v437.ownBlock ∧ some k_ ≠ (u407000 : Value).ownBlock) u407001 x407001_4) := ⟨h2_⟩
           have HA_HO438 : Aside0 (∃ c_, (v437 : Value) = .slice (some adz_v437) y436.length c_) := ⟨h3_⟩
           replace BK397 : Aside0 (w100.heap[gb397]? = some (.cells #[.slice none 0 0, .slice none 0 0, .int .i64 0] 43 (0, 0))) := ⟨h4_⟩
           replace BK406 : Aside0 (w100.heap[gb406]? = some (.cells #[u407000, u407001, .int .i64 t404] 43 (0, 0))) := ⟨h5_⟩
           replace HI0 : Aside0 (IsS69 w0 w100 g s0_0 t440) := ⟨h6_⟩
           replace HK : Aside0 (KeepBut w w100 g none) := ⟨h7_⟩
           replace HB : Aside0 (Below w0.heap.size w0 w100) := ⟨h8_⟩
           clear h0_ h1_ h2_ h3_ h4_ h5_ h6_ h7_ h8_
           have hHeld : w100.cell? ⟨gb406, 0, none⟩ = some (u407000) ∧ w100.cell? ⟨gb406, 1, none⟩ = some (u407001) ∧ w100.cell? ⟨gb406, 2, none⟩ = some (.int .i64 t404) := hS_
           obtain ⟨co101, eo101⟩ := HA_HO438.out
           clear HA_HO438
           subst eo101
           have p91 : 0 ≤ (t434 : Int) := of_decide_eq_true (by first | (with_reducible assumption) | assumption)
           have q91 : (t434 : Int) < ((x407000_4.length : Int) : Int) := of_decide_eq_true (by first | (with_reducible assumption) | assumption)
           obtain ⟨go91, co91, eo91, gb91, gl91, cl91, HG91⟩ := Kd.R_form HO_407000.out (by omega)
           (first | cases eo91 | (injection eo91 with ea_ en_ ec_; (first | subst ea_ | (injection ea_ with ea_; subst ea_)); subst ec_; clear en_))
           have GB91 := Aside0.mk gb91
           have IGB91 : Nonempty _ := ⟨GB91.out⟩
           have GG91 := Aside0.mk HG91
           clear gb91 gl91 HG91
           obtain ⟨hx91_0, hf91_0⟩ := Kd.R_celln 0 HO_407000.out (t434 : Int) p91 q91
           replace p91 := eq_true p91
           replace q91 := eq_true q91
           have HN0_go91 := Aside0.mk (show g ≠ go91 from by have h_ := IsS69.own_ne HI0.out HO_407000.out (by decide); intro e_; exact h_ (by rw [e_]; rfl))
           have IHN0_go91 : Nonempty _ := ⟨HN0_go91.out⟩
           have HP102 := Kd.R_putn HO_407000.out (t434 : Int) (rd y436 t439)
           rw [← Ny442.out] at HP102
           have HQ102 := Aside0.mk HP102
           clear HP102
           refine norm_ (a' := ?_) ?_ ?_
           rotate_left
           ·simp only [putAll, Act.put, List.setIfInBounds_toArray, List.set_cons_zero, List.set_cons_succ]
            rfl
           refine pure_ (i := 7) (N := some 35) (v := ?_) (a' := ?_) #[true, true, true, true, true, true, true, true, false, false, false] rfl rfl (any_of HT_.out (by kernel_rfl)) (fun _ _ _ h => h) (Or.inl ⟨by rfl, ?_⟩) ?_ ?_
           rotate_left
           ·intro w'
            go_simp
            with_reducible rfl
           rotate_left
           ·simp only [Act.put, sA, s0, sS, i64_w, i32_w]
            rfl
           refine one_ (i := 8) (N := some 36) #[true, true, true, true, true, true, true, true, true, false, false] rfl rfl (one_of HT_.out (by kernel_rfl)) (by decide) (fun K hK => ?_)
           (have p441 : 0 ≤ (t439 : Int) := of_decide_eq_true (by first | (with_reducible assumption) | assumption); have q441 : t439 < (y436.length : Int) := of_decide_eq_true (by first | (with_reducible assumption) | assumption); obtain ⟨ad441, e441, hx441_0⟩ := Kd.at_int (Kd.R_reads' HO438.out).2.2 t439 p441 q441; obtain rfl : adz_v437 = ad441 := (by injection e441))
           refine value_ (w1 := ?_) (v := ?_) (by rfl) rfl ?_ ?_
           rotate_left 2
           ·go_simp
            constructor
            ·rfl
            ·rfl
           clear hx441_0
           refine hK.out _ _ (cz3 BK406.out) (fun hHeld => ?_)
           clear hK K
           refine norm_ (a' := ?_) ?_ ?_
           rotate_left
           ·show Act.put _ (some 36) _ = _
            simp only [Act.put, sA, s0, sS, i64_w, i32_w]
            rfl
           refine pure_ (i := 9) (N := some 37) (v := ?_) (a' := ?_) #[true, true, true, true, true, true, true, true, true, true, false] rfl rfl (any_of HT_.out (by kernel_rfl)) (fun _ _ _ h => h) (Or.inl ⟨by rfl, ?_⟩) ?_ ?_
           rotate_left
           ·intro w'
            go_simp
            with_reducible rfl
           rotate_left
           ·simp only [Act.put, sA, s0, sS, i64_w, i32_w]
            rfl
           refine last_ (i := 10) (N := none) #[true, true, true, true, true, true, true, true, true, true, true] rfl rfl (one_of HT_.out (by kernel_rfl)) (by decide) (fun K hK => ?_)
           refine skip_ (w1 := ?_) (by rfl) rfl ?_ ?_
           rotate_left
           ·go_simp
            rfl
           refine hK.out _ _ ?_
           clear hK K
           refine done_ (done_of HT_.out (by kernel_rfl)) ?_
           have n0_ : Aside0 (Kd.R (Kd.int .i64) 3 (w100.setCell ⟨go91, (t434 : Int).toNat, none⟩ (.int .i64 (rd y436 t439))) w.heap.size (fun k_ => some k_ ≠ (u407001 : Value).ownBlock ∧ some k_ ≠ ownBlock (.slice (some adz_v437) y436.length co101)) (.slice (some ⟨go91, 0, none⟩) x407000_4.length co91) y442) := ⟨by exact lR <| Kd.R_mono HQ102.out (fun _ hk => ⟨hk.2, hk.1⟩)⟩
           have n1_ : Aside0 (Kd.R (Kd.int .i64) 3 (w100.setCell ⟨go91, (t434 : Int).toNat, none⟩ (.int .i64 (rd y436 t439))) w.heap.size (fun k_ => some k_ ≠ ownBlock (.slice (some ⟨go91, 0, none⟩) x407000_4.length co91) ∧ some k_ ≠ ownBlock (.slice (some adz_v437) y436.length co101)) u407001 x407001_4) := ⟨by exact lR <| Kd.R_mono (Kd.R_far (p := ⟨go91, (t434 : Int).toNat, none⟩) (Kd.R_mono HO_407001.out (fun k_ hk => (⟨hk, fun e_ => hk.2 (by rw [e_]; rfl)⟩ : _ ∧ k_ ≠ go91))) (fun _ hk => hk.2) (.int .i64 (rd y436 t439))) (fun _ hk => ⟨hk.1.2, hk.1.1⟩)⟩
           have n2_ : Aside0 (Kd.R (Kd.int .i64) 3 (w100.setCell ⟨go91, (t434 : Int).toNat, none⟩ (.int .i64 (rd y436 t439))) w.heap.size (fun k_ => some k_ ≠ ownBlock (.slice (some ⟨go91, 0, none⟩) x407000_4.length co91) ∧ some k_ ≠ (u407001 : Value).ownBlock) (.slice (some adz_v437) y436.length co101) y436) := ⟨by exact lR <| Kd.R_mono (Kd.R_far (p := ⟨go91, (t434 : Int).toNat, none⟩) (Kd.R_mono HO438.out (fun k_ hk => (⟨hk, fun e_ => hk.1 (by rw [e_]; rfl)⟩ : _ ∧ k_ ≠ go91))) (fun _ hk => hk.2) (.int .i64 (rd y436 t439))) (fun _ hk => ⟨hk.1.1, hk.1.2⟩)⟩
           have n3_ : Aside0 ((w100.setCell ⟨go91, (t434 : Int).toNat, none⟩ (.int .i64 (rd y436 t439))).heap[gb397]? = some (.cells #[.slice none 0 0, .slice none 0 0, .int .i64 0] 43 (0, 0))) := ⟨by (with_reducible repeat first | refine kN ?_ _ | refine kD ?_ | refine kA ?_ _); refine blk_far ?_ (by have h_ := Kd.R_ne HO_407000.out BK397.out (by decide); intro e_; exact h_ (by rw [e_]; rfl)) _; exact lK <| BK397.out⟩
           have n4_ : Aside0 ((w100.setCell ⟨go91, (t434 : Int).toNat, none⟩ (.int .i64 (rd y436 t439))).heap[gb406]? = some (.cells #[.slice (some ⟨go91, 0, none⟩) x407000_4.length co91, u407001, .int .i64 t404] 43 (0, 0))) := ⟨by (with_reducible repeat first | refine kN ?_ _ | refine kD ?_ | refine kA ?_ _); refine blk_far ?_ (by have h_ := Kd.R_ne HO_407000.out BK406.out (by decide); intro e_; exact h_ (by rw [e_]; rfl)) _; exact lK <| BK406.out⟩
           have n5_ : Aside0 (IsS69 w0 (w100.setCell ⟨go91, (t434 : Int).toNat, none⟩ (.int .i64 (rd y436 t439))) g s0_0 t440) := ⟨by exact IsS69.j HI0.out⟩
           have n6_ : Aside0 (KeepBut w (w100.setCell ⟨go91, (t434 : Int).toNat, none⟩ (.int .i64 (rd y436 t439))) g none) := ⟨by exact jK HK.out⟩
           have n7_ : Aside0 (Below w0.heap.size w0 (w100.setCell ⟨go91, (t434 : Int).toNat, none⟩ (.int .i64 (rd y436 t439)))) := ⟨by repeat (first | (with_reducible first | exact HB.out | apply below_alloc | apply pw_below_drewN | apply below_drew1 | refine below_set ?_ (Nat.le_trans HL.out GB91.out) | refine below_set ?_ (IsS69.ge HI0.out) | refine below_set ?_ GE397.out | refine below_set ?_ GE406.out) | exact HB.out)⟩
           (try clear HO_407000)
           (try clear HO_407001)
           (try clear HO438)
           (try clear BK397)
           (try clear BK406)
           (try clear HI0)
           (try clear HK)
           (try clear HB)
           generalize (w100.setCell ⟨go91, (t434 : Int).toNat, none⟩ (.int .i64 (rd y436 t439))) = w103 at n0_ n1_ n2_ n3_ n4_ n5_ n6_ n7_ ⊢
           have HO_407000 := n0_
           have HO_407001 := n1_
           have HO438 := n2_
           have BK397 := n3_
           have BK406 := n4_
           have HI0 := n5_
           have HK := n6_
           have HB := n7_
           clear n0_ n1_ n2_ n3_ n4_ n5_ n6_ n7_
           have hnb104 := NB406_397.out
           have hnc104 := NB397_406.out
           have hnb105 := NB406_0.out
           have hnc105 := NB0_406.out
           obtain ⟨hcz106_0, hcz106_1, hcz106_2, hfz106_0, hfz106_1, hfz106_2⟩ := cf3 BK406.out
           have hnb107 := NB397_0.out
           have hnc107 := NB0_397.out
           obtain ⟨hcz108_0, hcz108_1, hcz108_2, hfz108_0, hfz108_1, hfz108_2⟩ := cf3 BK397.out
           obtain ⟨Ao109, co109, eo109⟩ := Kd.R_slice HO_407001.out
           subst eo109
           try go_wp2
           refine bodyPost_ret (results_cell_row rfl _ _ gb397 43 #[.slice (some ⟨go91, 0, none⟩) x407000_4.length co91, .slice Ao109 x407001_4.length co109, .int .i64 t404] (0, 0) _ rfl (by exact p3 (lK BK397.out)) Try.underlying43 rfl (by kernel_rfl)) rfl ?_
           exact ⟨_, _, by first | rfl | (simp [errW_none, errW_some] <;> rfl) | (simp [*, errW_none, errW_some] <;> rfl), by exact lR <| Kd.R_mono (Kd.R_far (p := ⟨gb397, 2, none⟩) (Kd.R_far (p := ⟨gb397, 1, none⟩) (Kd.R_far (p := ⟨gb397, 0, none⟩) (Kd.R_types HO_407000.out BK397.out (by decide)) (fun _ hk => by first | exact hk.2 | exact fun e_ => hk.2 (e_.trans (ob _ _ _ _))) (.slice (some ⟨go91, 0, none⟩) x407000_4.length co91)) (fun _ hk => by first | exact hk.2 | exact fun e_ => hk.2 (e_.trans (ob _ _ _ _))) (.slice Ao109 x407001_4.length co109)) (fun _ hk => by first | exact hk.2 | exact fun e_ => hk.2 (e_.trans (ob _ _ _ _))) (.int .i64 t404)) (fun _ hk => by first | exact hk.1.1 | exact fun e_ => hk.1.1 (e_.trans (ob _ _ _ _))), by exact lR <| Kd.R_mono (Kd.R_far (p := ⟨gb397, 2, none⟩) (Kd.R_far (p := ⟨gb397, 1, none⟩) (Kd.R_far (p := ⟨gb397, 0, none⟩) (Kd.R_types HO_407001.out BK397.out (by decide)) (fun _ hk => by first | exact hk.2 | exact fun e_ => hk.2 (e_.trans (ob _ _ _ _))) (.slice (some ⟨go91, 0, none⟩) x407000_4.length co91)) (fun _ hk => by first | exact hk.2 | exact fun e_ => hk.2 (e_.trans (ob _ _ _ _))) (.slice Ao109 x407001_4.length co109)) (fun _ hk => by first | exact hk.2 | exact fun e_ => hk.2 (e_.trans (ob _ _ _ _))) (.int .i64 t404)) (fun _ hk => by first | exact hk.1.1 | exact fun e_ => hk.1.1 (e_.trans (ob _ _ _ _))), by exact IsS69.j HI0.out, by exact jB HB.out, by exact jK HK.out⟩
          ·rw [if_neg c90] at H
           exact absurd H (by simp)
         ·rw [if_neg c89] at H
          exact absurd H (by simp)
        ·rw [if_neg c88] at H
         exact absurd H (by simp)
       ·rw [if_neg c87] at H
        exact absurd H (by simp)

end Go.Proofs.Ytgalnmgkcdmnkaa.QFnActSkip

-- shorter
