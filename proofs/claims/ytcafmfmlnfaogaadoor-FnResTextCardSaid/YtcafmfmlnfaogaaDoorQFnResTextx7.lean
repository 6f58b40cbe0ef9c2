/- Plain functions, and that the Go code computes them: written by a program of this session over the seat's translation; the conditions stand in each theorem. -/
import Derived.Test.YtcafmfmlnfaogaaDoorQFnResTextx0
import Derived.Test.YtcafmfmlnfaogaaDoorQFnResTextx6
namespace Go.Proofs.YtcafmfmlnfaogaaDoor.QFnResText
open Go.RowKit Go.Proofs.YtcafmfmlnfaogaaDoorW.PrintWords Go.Proofs.YtcafmfmlnfaogaaDoorW.PrintLast Go.Proofs.YtcafmfmlnfaogaaDoorW.PrintMore Go.Proofs.YtcafmfmlnfaogaaDoor.HWords
open Value (ownBlock)
attribute [local go_sem] max2_int min2_int max_two min_two max_three min_three max_four min_four   -- for this text's walks alone
set_option maxRecDepth 100000
set_option maxHeartbeats 8000000
set_option linter.unusedVariables false
set_option linter.unusedSimpArgs false

/-! ### spec_l20Res: function 38 -/
mutual
def spec_l20Res.j1 : Nat → Int → List Int → Int → Int → List Int → Option (Int × List Int × Int)
 | 0, _, _, _, _, _ => none
 | k + 1, x1, x1000, x1001, x197000, x197001 => (spec_l20Rd_pick.f k x1000 x1001 x1).bind fun bt208 => (if bt208.1 > 0 then (some (x197000, x197001, bt208.2)) else ((spec_l20Rd_pick.f k x1000 bt208.2 3).bind fun bt210 => (if bt210.1 = 0 then ((some (([0, 4, (-1)] : List Int) : List Int)).bind fun y212 => ((spec_l20Rd_pick.f k x1000 bt210.2 3).bind fun bt215 => (if 0 ≤ bt215.1 then (if bt215.1 < (y212.length : Int) then (some (rd y212 bt215.1, x197001, bt215.2)) else (none)) else (none)))) else (if bt210.1 = 1 then (if x197001.length < 17592186044416 then (some (x197000, (x197001 ++ [1]), bt210.2)) else (none)) else ((some (([(([1, 2, 3, 4, 5, 6, 7] : List Int)), (([999999999999] : List Int)), (([(-999999999999)] : List Int)), (([1000000000000] : List Int)), (([(-9223372036854775808)] : List Int))] : List (List Int)) : List (List Int))).bind fun y236 => ((spec_l20Rd_pick.f k x1000 bt210.2 5).bind fun bt239 => (if 0 ≤ bt239.1 then (if bt239.1 < (y236.length : Int) then (some (x197000, rd_L3 y236 bt239.1, bt239.2)) else (none)) else (none))))))))
def spec_l20Res.l0 : Nat → Int → Int → List Int → Int → Int → List Int → Option (Int × List Int × Int)
 | 0, _, _, _, _, _, _ => none
 | k + 1, x1, x6, x1000, x1001, x197000, x197001 => if x6 > 0 then ((some (([0, 7, (-7), 12345] : List Int) : List Int)).bind fun y199 => ((spec_l20Rd_pick.f k x1000 x1001 4).bind fun bt202 => (if 0 ≤ bt202.1 then (if bt202.1 < (y199.length : Int) then (if x197001.length < 17592186044416 then (spec_l20Res.l0 k x1 (wrap64 (x6 - 1)) x1000 bt202.2 x197000 (x197001 ++ [rd y199 bt202.1])) else (none)) else (none)) else (none)))) else (spec_l20Res.j1 k x1 x1000 x1001 x197000 x197001)
end
def spec_l20Res.f (k : Nat) (s0_0 : List Int) (s0_1 : Int) (a1 : Int) : Option (Int × List Int × Int) := (spec_l20Rd_pick.f k s0_0 s0_1 3).bind fun bt194 => (if (wrap64 (1 + bt194.1)) = 1 then ((spec_l20Rd_pick.f k s0_0 bt194.2 3).bind fun bt197 => (spec_l20Res.l0 k a1 bt197.1 s0_0 bt197.2 (wrap64 (1 + bt194.1)) ([] : List Int))) else (spec_l20Res.j1 k a1 s0_0 bt194.2 (wrap64 (1 + bt194.1)) ([] : List Int)))
theorem spec_l20Res.mono_l : ∀ k, (∀ y0 y1 y2 y3 y4, LeO (spec_l20Res.j1 k y0 y1 y2 y3 y4) (spec_l20Res.j1 (k + 1) y0 y1 y2 y3 y4)) ∧ (∀ y0 y1 y2 y3 y4 y5, LeO (spec_l20Res.l0 k y0 y1 y2 y3 y4 y5) (spec_l20Res.l0 (k + 1) y0 y1 y2 y3 y4 y5))
 | 0 => ⟨fun _ _ _ _ _ r h => by simp [spec_l20Res.j1] at h, fun _ _ _ _ _ _ r h => by simp [spec_l20Res.l0] at h⟩
 | k + 1 => by
  obtain ⟨ih0, ih1⟩ := spec_l20Res.mono_l k
  refine ⟨?_, ?_⟩
  ·intro y0 y1 y2 y3 y4
   unfold spec_l20Res.j1
   repeat' first
   | (with_reducible exact ih0 _ _ _ _ _)
   | (with_reducible exact ih1 _ _ _ _ _ _)
   | (with_reducible exact spec_l20Rd_pick.mono _ _ _ _)
   | (with_reducible exact LeO.refl _)
   | (with_reducible exact LeO.none _)
   | (with_reducible refine LeO.ite ?_ ?_)
   | (with_reducible refine LeO.bind ?_ (fun _ => ?_))
   | exact LeO.none _
   | refine LeO.ite ?_ ?_
   | refine LeO.bind ?_ (fun _ => ?_)
  ·intro y0 y1 y2 y3 y4 y5
   unfold spec_l20Res.l0
   repeat' first
   | (with_reducible exact ih0 _ _ _ _ _)
   | (with_reducible exact ih1 _ _ _ _ _ _)
   | (with_reducible exact spec_l20Rd_pick.mono _ _ _ _)
   | (with_reducible exact LeO.refl _)
   | (with_reducible exact LeO.none _)
   | (with_reducible refine LeO.ite ?_ ?_)
   | (with_reducible refine LeO.bind ?_ (fun _ => ?_))
   | exact LeO.none _
   | refine LeO.ite ?_ ?_
   | refine LeO.bind ?_ (fun _ => ?_)
theorem spec_l20Res.mono : ∀ a0 a1 a2 k, LeO (spec_l20Res.f k a0 a1 a2) (spec_l20Res.f (k + 1) a0 a1 a2) := by
 intro a0 a1 a2 k
 obtain ⟨ih0, ih1⟩ := spec_l20Res.mono_l k
 unfold spec_l20Res.f
 repeat' first
   | (with_reducible exact ih0 _ _ _ _ _)
   | (with_reducible exact ih1 _ _ _ _ _ _)
   | (with_reducible exact spec_l20Rd_pick.mono _ _ _ _)
   | (with_reducible exact LeO.refl _)
   | (with_reducible exact LeO.none _)
   | (with_reducible refine LeO.ite ?_ ?_)
   | (with_reducible refine LeO.bind ?_ (fun _ => ?_))
   | exact LeO.none _
   | refine LeO.ite ?_ ?_
   | refine LeO.bind ?_ (fun _ => ?_)
def spec_l20Res.T6 : Bool × List (List Nat × List Nat) := (true, [([], []), ([0], [0]), ([], []), ([], []), ([3], [3]), ([2, 4], [2, 4]), ([5], [5]), ([6], [6]), ([1, 7, 4], [1, 7]), ([0, 1, 2, 3, 4, 5, 6, 7, 8], []), ([9, 8, 8, 0, 1, 2, 3, 4, 5, 6, 7, 8], [8, 9])])
def spec_l20Res.B6 : List Nat := [0, 1, 0, 0, 8, 28, 60, 124, 255, 511, 1023]
theorem spec_l20Res.tab6 : rtab .any (opsOf Tryd.f38 6) = spec_l20Res.T6 := by kernel_rfl
theorem spec_l20Res.bits6 : waitsOk spec_l20Res.T6.2 spec_l20Res.B6 = true := by kernel_rfl
theorem spec_l20Res.calls (k : Nat) (g : Nat) (s0_0 : List Int) (s0_1 : Int) (a1 : Int) (r1 : Int) (r2 : List Int) (r3 : Int) (w0 w : World) (hI : IsS74 w0 w g s0_0 s0_1) (hB : Below w0.heap.size w0 w) (h : spec_l20Res.f k s0_0 s0_1 a1 = some (r1, r2, r3)) :
  Calls Tryd.prog 38 #[.pointer (some ⟨g, 0, none⟩), .int .i64 a1] w fun e w' => ∃ v1_ : Value, e = .returned (.agg #[.int .i64 r1, v1_]) ∧ Kd.V (Kd.int .i64) 3 w' w.heap.size (fun k_ => (w.heap.size ≤ k_)) v1_ r2 ∧ IsS74 w0 w' g s0_0 r3 ∧ Below w0.heap.size w0 w' ∧ KeepBut w w' g none := by
 have hu27 := Tryd.underlying27
 have HI0 := aM hI
 have IHI0 : Nonempty _ := ⟨IsS74.ge hI⟩
 have HK := aM (KeepBut.refl w g none)
 have HL := aM hB.size
 clear hI
 have HW0 := aM hB.size
 have HB := aM hB
 clear hB
 have H : ((spec_l20Rd_pick.f k s0_0 s0_1 3).bind fun bt194 => (if (wrap64 (1 + bt194.1)) = 1 then ((spec_l20Rd_pick.f k s0_0 bt194.2 3).bind fun bt197 => (spec_l20Res.l0 k a1 bt197.1 s0_0 bt197.2 (wrap64 (1 + bt194.1)) ([] : List Int))) else (spec_l20Res.j1 k a1 s0_0 bt194.2 (wrap64 (1 + bt194.1)) ([] : List Int)))) = some (r1, r2, r3) := h
 clear h
 obtain ⟨⟨t194, t195⟩, A3, H⟩ := bS H
 try dsimp only at H
 have HC4 := aM H
 clear H
 go_enter Tryd.func38, Tryd.ntmps38
 go_upto_if 13 with (first | ((with_reducible refine gate_dst (N := 4) rfl ?_); refine bx 4 #[.int .i64 0, .slice none 0 0] 27 ?_; intro gb193 hg w5 hbox hb; replace HB := aM (bj HB.out hb); have BK193 := aM (hbox); have GW193 := aM ((gk hg HK.out)); have IGW193 : Nonempty _ := ⟨GW193.out⟩; have GE193 := aM ((Nat.le_trans HW0.out (gk hg HK.out) : w0.heap.size ≤ gb193)); have IGE193 : Nonempty _ := ⟨GE193.out⟩; replace HK := aM (kbl HK.out hb); have NB0_193 := aM ((by rw [hg]; exact Nat.ne_of_lt (IsS74.lt (show IsS74 w0 _ g s0_0 s0_1 from by exact IsS74.j HI0.out)) : g ≠ gb193)); have INB0_193 : Nonempty _ := ⟨NB0_193.out⟩; have NB193_0 := aM ((by rw [hg]; exact Nat.ne_of_gt (IsS74.lt (show IsS74 w0 _ g s0_0 s0_1 from by exact IsS74.j HI0.out)) : gb193 ≠ g)); replace HI0 := aM (IsS74.below (by exact IsS74.j HI0.out) hb); clear hb hbox hg) | ((with_reducible refine gate_callee (f := 49) rfl ?_); refine gL (some 8) Tryd.func49 #[.pointer (some ⟨g, 0, none⟩), .int .i64 3] ?_; (with_reducible refine (spec_l20Rd_pick.calls k g s0_0 s0_1 3 t194 t195 w0 _ ?side1 ?side2 A3.out).mono ?_); (case side1 => exact IsS74.j HI0.out); (case side2 => exact jB HB.out); rintro e w6 ⟨rfl, hi, hb, hk⟩; refine ⟨_, rfl, ?_⟩; replace BK193 := aM (kb hk BK193.out NB193_0.out); replace HK := aM (kt HK.out hk); replace HB := aM (hb); replace HI0 := aM (hi); (try clear hb hk hi)) | ((with_reducible refine gate_dst (N := 5) rfl ?_); refine bx 5 #[.int .i64 0, .slice none 0 0] 27 ?_; intro gb196 hg w7 hbox hb; replace HB := aM (bj HB.out hb); have BK196 := aM (hbox); have GW196 := aM ((gk hg HK.out)); have IGW196 : Nonempty _ := ⟨GW196.out⟩; have GE196 := aM ((Nat.le_trans HW0.out (gk hg HK.out) : w0.heap.size ≤ gb196)); have IGE196 : Nonempty _ := ⟨GE196.out⟩; replace HK := aM (kbl HK.out hb); have NB193_196 := aM ((neL hg (lK BK193.out) : gb193 ≠ gb196)); have NB196_193 := aM ((neG hg (lK BK193.out) : gb196 ≠ gb193)); replace BK193 := aM (bb BK193.out hb); have NB0_196 := aM ((by rw [hg]; exact Nat.ne_of_lt (IsS74.lt (show IsS74 w0 _ g s0_0 t195 from by exact IsS74.j HI0.out)) : g ≠ gb196)); have INB0_196 : Nonempty _ := ⟨NB0_196.out⟩; have NB196_0 := aM ((by rw [hg]; exact Nat.ne_of_gt (IsS74.lt (show IsS74 w0 _ g s0_0 t195 from by exact IsS74.j HI0.out)) : gb196 ≠ g)); replace HI0 := aM (IsS74.below (by exact IsS74.j HI0.out) hb); clear hb hbox hg; have hnb8 := NB196_193.out; have hnc8 := NB193_196.out; have hnb9 := NB196_0.out; have hnc9 := NB0_196.out; obtain ⟨hcz10_0, hcz10_1, hfz10_0, hfz10_1⟩ := cf2 BK196.out))
 (try simp only [Act.put, sA, s0, sS])
 go_cut [] (fun wc => ∃ (kq : Nat) (x1001_3 : Int) (x197001_3 : List Int) (u197001 : Value), Aside0 (spec_l20Res.j1 kq a1 s0_0 x1001_3 (wrap64 (1 + t194)) x197001_3 = some (r1, r2, r3)) ∧ Aside0 (kq ≤ k) ∧ Aside0 (Kd.R (Kd.int .i64) 3 wc w.heap.size (fun k_ => (w.heap.size ≤ k_)) u197001 x197001_3) ∧ Aside0 (wc.heap[gb193]? = some (.cells #[.int .i64 0, (.slice none 0 0)] 27 (0, 0))) ∧ Aside0 (wc.heap[gb196]? = some (.cells #[.int .i64 (wrap64 (1 + t194)), u197001] 27 (0, 0))) ∧ Aside0 (IsS74 w0 wc g s0_0 x1001_3) ∧ Aside0 (KeepBut w wc g none) ∧ Aside0 (Below w0.heap.size w0 wc))
 case first =>
  have H := HC4.out
  clear HC4
  by_cases c11 : (wrap64 (1 + t194)) = 1
  ·rw [if_pos c11] at H
   have c11b0 := beq_iff_eq.mpr c11
   have c11b1 := bne_eq_false_iff_eq.mpr c11
   clear c11
   (first | rw [c11b0] | (simp only [i64_w, i32_w]; rw [c11b0]) | rw [c11b1] | skip)
   obtain ⟨⟨t197, t198⟩, A12, H⟩ := bS H
   try dsimp only at H
   have H' := aM H
   clear H
   go_wp2_with (first | ((with_reducible refine gate_callee (f := 49) rfl ?_); refine gL (some 15) Tryd.func49 #[.pointer (some ⟨g, 0, none⟩), .int .i64 3] ?_; (with_reducible refine (spec_l20Rd_pick.calls k g s0_0 t195 3 t197 t198 w0 _ ?side1 ?side2 A12.out).mono ?_); (case side1 => exact IsS74.j HI0.out); (case side2 => exact jB HB.out); rintro e w13 ⟨rfl, hi, hb, hk⟩; refine ⟨_, rfl, ?_⟩; replace BK193 := aM (KeepBut.blk hk (g' := gb193) (o := .cells #[.int .i64 0, .slice none 0 0] 27 (0, 0)) (by exact f2 (lK BK193.out) NB193_196.out) NB193_0.out (by simp)); replace BK196 := aM (KeepBut.blk hk (g' := gb196) (o := .cells #[.int .i64 (wrap64 (1 + t194)), .slice none 0 0] 27 (0, 0)) (by exact p2 (lK BK196.out)) NB196_0.out (by simp)); replace HK := aM (kt HK.out hk); replace HB := aM (hb); replace HI0 := aM (hi); (try clear hb hk hi)))
   go_loopg [6] k (fun kq v6 w' => ∃ (x6_1 : Int) (x1001_1 : Int) (x197001_1 : List Int) (u197001 : Value), v6 = .int .i64 x6_1 ∧ Aside0 (spec_l20Res.l0 kq a1 x6_1 s0_0 x1001_1 (wrap64 (1 + t194)) x197001_1 = some (r1, r2, r3)) ∧ Aside0 (kq ≤ k) ∧ Aside0 (Kd.R (Kd.int .i64) 3 w' w.heap.size (fun k_ => (w.heap.size ≤ k_)) u197001 x197001_1) ∧ Aside0 (w'.heap[gb193]? = some (.cells #[.int .i64 0, (.slice none 0 0)] 27 (0, 0))) ∧ Aside0 (w'.heap[gb196]? = some (.cells #[.int .i64 (wrap64 (1 + t194)), u197001] 27 (0, 0))) ∧ Aside0 (IsS74 w0 w' g s0_0 x1001_1) ∧ Aside0 (KeepBut w w' g none) ∧ Aside0 (Below w0.heap.size w0 w'))
   case atStart => exact ⟨(t197), (t198), (([] : List Int)), (.slice none 0 0), (by first | rfl | (simp; done) | (simp [*]; done)), H', ⟨Nat.le_refl _⟩, ⟨by first | exact Kd.R_nil _ _ _ _ _ | exact Kd.N_nil _ _ _ _ _ | exact Kd.V_nil _ _ _ _ _ | exact Kd.Q_nil _ _ _ _ _ | exact Kd.S_nil _ _ _ _ _⟩, ⟨by exact lK <| BK193.out⟩, ⟨by exact lK <| BK196.out⟩, ⟨by exact IsS74.j HI0.out⟩, ⟨by exact jK HK.out⟩, ⟨by exact jB HB.out⟩⟩
   case round =>
    clear H'
    try clear c1
    try clear p2
    try clear c3
    try clear c4
    try clear p6
    try clear c8
    try clear c9
    try clear c11
    try clear c11b0
    try clear c11b1
    try clear hcz10_0
    try clear hcz10_1
    try clear hfz10_0
    try clear hfz10_1
    obtain ⟨x6_1, x1001_1, x197001_1, u197001, rfl, HA, HK1, HO_197001, BK193, BK196, HI0, HK, HB⟩ := hrel
    cases gk with
    | zero => exact absurd HA.out (by simp [spec_l20Res.l0])
    | succ k1 =>
     have H := HA.out
     clear HA
     simp only [spec_l20Res.l0] at H
     by_cases c14 : x6_1 > 0
     ·rw [if_pos c14] at H
      have c14b0 := decide_eq_true c14
      clear c14
      obtain ⟨y199, hy199⟩ : ∃ y_ : List Int, y_ = (([0, 7, (-7), 12345] : List Int)) := ⟨_, rfl⟩
      try rw [← hy199] at H
      try dsimp only [Option.bind_some] at H
      have Ny199 := aM hy199
      clear hy199
      obtain ⟨⟨t202, t203⟩, A15, H⟩ := bS H
      try dsimp only at H
      by_cases c16 : 0 ≤ t202
      ·rw [if_pos c16] at H
       have c16b0 := decide_eq_true c16
       clear c16
       by_cases c17 : t202 < (y199.length : Int)
       ·rw [if_pos c17] at H
        have c17b0 := decide_eq_true c17
        clear c17
        by_cases c18 : x197001_1.length < 17592186044416
        ·rw [if_pos c18] at H
         have LMc18 := aM c18
         clear c18
         obtain ⟨y205, hy205⟩ : ∃ y_ : List Int, y_ = (x197001_1 ++ [rd y199 t202]) := ⟨_, rfl⟩
         try rw [← hy205] at H
         try dsimp only [Option.bind_some] at H
         have Ny205 := aM hy205
         clear hy205
         have H' := aM H
         clear H
         obtain ⟨Ao19, co19, eo19⟩ := Kd.R_slice HO_197001.out
         subst eo19
         try go_wp2
         have pi204 : (0 ≤ (t202 : Int)) = True := eq_true (of_decide_eq_true (by first | (with_reducible assumption) | assumption))
         have qi204 : (t202 < (y199.length : Int)) = True := eq_true (of_decide_eq_true (by first | (with_reducible assumption) | assumption))
         replace HO_197001 := aM (Kd.R_drew HO_197001.out)
         replace BK193 := aM (blk_drew BK193.out)
         replace BK196 := aM (blk_drew BK196.out)
         replace HI0 := aM (IsS74.drew HI0.out)
         replace HK := aM (keep_drew HK.out)
         replace HB := aM (below_drew1 HB.out)
         refine start_ (n := 11) (S := fun w' => w'.cell? ⟨gb196, 0, none⟩ = some (.int .i64 (wrap64 (1 + t194))) ∧ w'.cell? ⟨gb196, 1, none⟩ = some (.slice Ao19 x197001_1.length co19)) (ds := [10]) #[false, false, false, false, false, false, false, false, false, false, false] (by kernel_rfl) rfl rfl ⟨(blk_cell BK196.out 0).trans rfl, (blk_cell BK196.out 1).trans rfl⟩ (fun hHeld => ?_); refine with_tabW spec_l20Res.tab6 spec_l20Res.bits6 (fun HT_ HW_ => ?_)
         generalize wr.drew = w20 at HO_197001 BK193 BK196 HI0 HK HB hHeld ⊢
         refine pure_ (i := 0) (N := some 20) (v := ?_) (a' := ?_) #[true, false, false, false, false, false, false, false, false, false, false] rfl rfl (any_of HT_.out (by kernel_rfl)) (fun _ _ _ h => h) (Or.inl ⟨by rfl, ?_⟩) ?_ ?_
         rotate_left
         ·intro w'
          go_simp
          with_reducible rfl
         rotate_left
         ·simp only [Act.put, sA, s0, sS, i64_w, i32_w]
          rfl
         refine pure_ (i := 3) (N := some 23) (v := ?_) (a' := ?_) #[true, false, false, true, false, false, false, false, false, false, false] rfl rfl (any_of HT_.out (by kernel_rfl)) (fun _ _ _ h => h) (Or.inl ⟨by rfl, ?_⟩) ?_ ?_
         rotate_left
         ·intro w'
          go_simp
          with_reducible rfl
         rotate_left
         ·simp only [Act.put, sA, s0, sS, i64_w, i32_w]
          rfl
         refine take_ (i := 1) (N := some 21) (v := ?_) (a' := ?_) #[true, true, false, true, false, false, false, false, false, false, false] rfl rfl (take_ofW HT_.out HW_.out (by kernel_rfl)) (fun _ _ _ h => h) (Or.inl ⟨by rfl, ?_⟩) hHeld ?_ ?_
         rotate_left
         ·rintro w' ⟨s0, s1⟩
          go_simp
          with_reducible rfl
         rotate_left
         ·simp only [Act.put, sA, s0, sS, i64_w, i32_w]
          rfl
         refine join_ (σ := Value × Addr) 6 #[true, true, true, true, true, false, false, false, false, false, false] (fun s_ => [(22, s_.1), (24, .int .i64 t202)]) (fun s_ w' => (w'.cell? ⟨gb196, 0, none⟩ = some (.int .i64 (wrap64 (1 + t194))) ∧ w'.cell? ⟨gb196, 1, none⟩ = some (.slice Ao19 x197001_1.length co19)) ∧ (Kd.R (Kd.int .i64) 3 w' w.heap.size (fun k_ => (w.heap.size ≤ k_) ∧ some k_ ≠ ownBlock (.slice Ao19 x197001_1.length co19)) s_.1 y199) ∧ (Kd.R (Kd.int .i64) 3 w' w.heap.size (fun k_ => (w.heap.size ≤ k_) ∧ some k_ ≠ (s_.1 : Value).ownBlock) (.slice Ao19 x197001_1.length co19) x197001_1) ∧ (∃ c_, (s_.1 : Value) = .slice (some s_.2) y199.length c_) ∧ (w'.heap[gb193]? = some (.cells #[.int .i64 0, .slice none 0 0] 27 (0, 0))) ∧ (w'.heap[gb196]? = some (.cells #[.int .i64 (wrap64 (1 + t194)), .slice Ao19 x197001_1.length co19] 27 (0, 0))) ∧ (IsS74 w0 w' g s0_0 t203) ∧ (KeepBut w w' g none) ∧ (Below w0.heap.size w0 w')) ?_ ?_
         rotate_left
         ·intro hCont
          refine two_ (i := 2) (j := 4) (Ni := some 22) (Nj := some 24) #[true, true, true, true, false, false, false, false, false, false, false] #[true, true, false, true, true, false, false, false, false, false, false] rfl rfl rfl rfl (two_of HT_.out (by kernel_rfl)) (by decide) (by decide) (fun K hK => ?_) (fun K hK => ?_)
          ·skip
           refine Kd.R_lit_step (Kd.int .i64) _ 3 ?hg (N := 22) ?hd (xs := ([0, 7, (-7), 12345] : List Int)) (inner := [.int .i64 0, .int .i64 7, .int .i64 (-7), .int .i64 12345]) (ok := fun _ => True) (okp := fun _ => True) ?hr ?hp (fun _ hk => hk) trivial (Below.refl _ _) (Nat.le_refl _) (by simp) ?_; (case hd => rfl); (case hg => rfl); (case hr => first | (go_simp; done) | (go_simp; rfl)); (case hp => exact (Reps.one (show Kd.M (Kd.int .i64) _ _ _ 0 [.int .i64 0] from rfl) (Reps.one (show Kd.M (Kd.int .i64) _ _ _ 7 [.int .i64 7] from rfl) (Reps.one (show Kd.M (Kd.int .i64) _ _ _ (-7) [.int .i64 (-7)] from rfl) (Reps.one (show Kd.M (Kd.int .i64) _ _ _ 12345 [.int .i64 12345] from rfl) (Reps.none _ _))))))
           intro v200 w21 ho22 hb hg_ hnew_
           clear hg_ hnew_
           (first | rw [← Ny199.out] at ho22 | (simp only [Int.reduceToNat] at ho22; rw [← Ny199.out] at ho22))
           have HO201 := aM (Kd.R_lower (Kd.R_new' (Kd.R_newM (M := fun k_ => (w.heap.size ≤ k_)) ho22 (keep_size (w := w) (g := g) (row := none) (by exact jK HK.out)) (fun k_ h_ => h_)) (rl HO_197001.out)) (keep_size (w := w) (g := g) (row := none) (by exact jK HK.out)))
           replace HO_197001 := aM (Kd.R_elder' (by exact lR HO_197001.out) (Kd.R_base ho22) hb)
           replace BK193 := aM (bb BK193.out hb)
           replace BK196 := aM (bb BK196.out hb)
           replace HI0 := aM (IsS74.below (by exact IsS74.j HI0.out) hb)
           replace HK := aM (kbl HK.out hb)
           replace HB := aM (bj HB.out hb)
           clear hb ho22
           obtain ⟨Ao23, co23, eo23⟩ := Kd.R_slice HO201.out
           subst eo23
           obtain ⟨ado23, fo23, _⟩ := Kd.at_int (Kd.R_reads' HO201.out).2.2 0 (by decide) (by rw [Ny199.out]; simp)
           cases fo23
           refine hK.out _ _ ⟨(blk_cell BK196.out 0).trans rfl, (blk_cell BK196.out 1).trans rfl⟩ (fun hHeld => ?_)
           clear hK K
           refine norm_ (a' := ?_) ?_ ?_
           rotate_left
           ·show Act.put _ (some 22) _ = _
            simp only [Act.put, sA, s0, sS, i64_w, i32_w]
            rfl
           refine one_ (i := 4) (N := some 24) #[true, true, true, true, true, false, false, false, false, false, false] rfl rfl (one_of HT_.out (by kernel_rfl)) (by decide) (fun K hK => ?_)
           refine goes_ Tryd.func49 (by kernel_rfl) rfl #[.pointer (some ⟨g, 0, none⟩), .int .i64 4] (by rfl) rfl rfl (by (try simp only [mA, mC, mN]); first | done | rfl | (simp only [ld, lt]; rfl)) ?_
           with_reducible refine (spec_l20Rd_pick.calls k1 g s0_0 x1001_1 4 t202 t203 w0 _ ?side1 ?side2 A15.out).mono ?_
           (case side1 => exact IsS74.j HI0.out)
           (case side2 => exact jB HB.out)
           rintro e w24 ⟨rfl, hi, hb, hk⟩
           refine ⟨_, rfl, ?_⟩
           replace HO_197001 := aM (IsS74.kp (f1 := x1001_1) (by exact IsS74.j HI0.out) (lR HO_197001.out) hk)
           replace BK193 := aM (kb hk BK193.out NB193_0.out)
           replace BK196 := aM (kb hk BK196.out NB196_0.out)
           replace HO201 := aM (IsS74.kp (f1 := x1001_1) (by exact IsS74.j HI0.out) (lR HO201.out) hk)
           replace HK := aM (kt HK.out hk)
           replace HB := aM (hb)
           replace HI0 := aM (hi)
           (try clear hb)
           (try clear hb2)
           (try clear hk)
           (try clear hi)
           refine hK.out _ _ ⟨(blk_cell BK196.out 0).trans rfl, (blk_cell BK196.out 1).trans rfl⟩ (fun hHeld => ?_)
           clear hK K
           refine norm_ (a' := ?_) ?_ ?_
           rotate_left
           ·show Act.put _ (some 24) _ = _
            simp only [Act.put, sA, s0, sS, i64_w, i32_w]
            rfl
           exact norm_ (by simp only [putAll, Act.put, List.setIfInBounds_toArray, List.set_cons_zero, List.set_cons_succ]) (hCont (.slice (some ado23) y199.length co23, ado23) _ ⟨hHeld, (by exact lR <| Kd.R_mono HO201.out (fun _ hk => ⟨hk.1.1, hk.2⟩)), (by exact lR HO_197001.out), ⟨_, rfl⟩, (by exact lK BK193.out), (by exact lK BK196.out), (by exact IsS74.j HI0.out), (by exact jK HK.out), (by exact jB HB.out)⟩)
          ·skip
           refine goes_ Tryd.func49 (by kernel_rfl) rfl #[.pointer (some ⟨g, 0, none⟩), .int .i64 4] (by rfl) rfl rfl (by (try simp only [mA, mC, mN]); first | done | rfl | (simp only [ld, lt]; rfl)) ?_
           with_reducible refine (spec_l20Rd_pick.calls k1 g s0_0 x1001_1 4 t202 t203 w0 _ ?side1 ?side2 A15.out).mono ?_
           (case side1 => exact IsS74.j HI0.out)
           (case side2 => exact jB HB.out)
           rintro e w21 ⟨rfl, hi, hb, hk⟩
           refine ⟨_, rfl, ?_⟩
           replace HO_197001 := aM (IsS74.kp (f1 := x1001_1) (by exact IsS74.j HI0.out) (lR HO_197001.out) hk)
           replace BK193 := aM (kb hk BK193.out NB193_0.out)
           replace BK196 := aM (kb hk BK196.out NB196_0.out)
           replace HK := aM (kt HK.out hk)
           replace HB := aM (hb)
           replace HI0 := aM (hi)
           (try clear hb)
           (try clear hb2)
           (try clear hk)
           (try clear hi)
           refine hK.out _ _ ⟨(blk_cell BK196.out 0).trans rfl, (blk_cell BK196.out 1).trans rfl⟩ (fun hHeld => ?_)
           clear hK K
           refine norm_ (a' := ?_) ?_ ?_
           rotate_left
           ·show Act.put _ (some 24) _ = _
            simp only [Act.put, sA, s0, sS, i64_w, i32_w]
            rfl
           refine one_ (i := 2) (N := some 22) #[true, true, true, true, true, false, false, false, false, false, false] rfl rfl (one_of HT_.out (by kernel_rfl)) (by decide) (fun K hK => ?_)
           refine Kd.R_lit_step (Kd.int .i64) _ 3 ?hg (N := 22) ?hd (xs := ([0, 7, (-7), 12345] : List Int)) (inner := [.int .i64 0, .int .i64 7, .int .i64 (-7), .int .i64 12345]) (ok := fun _ => True) (okp := fun _ => True) ?hr ?hp (fun _ hk => hk) trivial (Below.refl _ _) (Nat.le_refl _) (by simp) ?_; (case hd => rfl); (case hg => rfl); (case hr => first | (go_simp; done) | (go_simp; rfl)); (case hp => exact (Reps.one (show Kd.M (Kd.int .i64) _ _ _ 0 [.int .i64 0] from rfl) (Reps.one (show Kd.M (Kd.int .i64) _ _ _ 7 [.int .i64 7] from rfl) (Reps.one (show Kd.M (Kd.int .i64) _ _ _ (-7) [.int .i64 (-7)] from rfl) (Reps.one (show Kd.M (Kd.int .i64) _ _ _ 12345 [.int .i64 12345] from rfl) (Reps.none _ _))))))
           intro v200 w22 ho23 hb hg_ hnew_
           clear hg_ hnew_
           (first | rw [← Ny199.out] at ho23 | (simp only [Int.reduceToNat] at ho23; rw [← Ny199.out] at ho23))
           have HO201 := aM (Kd.R_lower (Kd.R_new' (Kd.R_newM (M := fun k_ => (w.heap.size ≤ k_)) ho23 (keep_size (w := w) (g := g) (row := none) (by exact jK HK.out)) (fun k_ h_ => h_)) (rl HO_197001.out)) (keep_size (w := w) (g := g) (row := none) (by exact jK HK.out)))
           replace HO_197001 := aM (Kd.R_elder' (by exact lR HO_197001.out) (Kd.R_base ho23) hb)
           replace BK193 := aM (bb BK193.out hb)
           replace BK196 := aM (bb BK196.out hb)
           replace HI0 := aM (IsS74.below (by exact IsS74.j HI0.out) hb)
           replace HK := aM (kbl HK.out hb)
           replace HB := aM (bj HB.out hb)
           clear hb ho23
           obtain ⟨Ao24, co24, eo24⟩ := Kd.R_slice HO201.out
           subst eo24
           obtain ⟨ado24, fo24, _⟩ := Kd.at_int (Kd.R_reads' HO201.out).2.2 0 (by decide) (by rw [Ny199.out]; simp)
           cases fo24
           refine hK.out _ _ ⟨(blk_cell BK196.out 0).trans rfl, (blk_cell BK196.out 1).trans rfl⟩ (fun hHeld => ?_)
           clear hK K
           refine norm_ (a' := ?_) ?_ ?_
           rotate_left
           ·show Act.put _ (some 22) _ = _
            simp only [Act.put, sA, s0, sS, i64_w, i32_w]
            rfl
           exact norm_ (by simp only [putAll, Act.put, List.setIfInBounds_toArray, List.set_cons_zero, List.set_cons_succ]) (hCont (.slice (some ado24) y199.length co24, ado24) _ ⟨hHeld, (by exact lR <| Kd.R_mono HO201.out (fun _ hk => ⟨hk.1.1, hk.2⟩)), (by exact lR HO_197001.out), ⟨_, rfl⟩, (by exact lK BK193.out), (by exact lK BK196.out), (by exact IsS74.j HI0.out), (by exact jK HK.out), (by exact jB HB.out)⟩)
         rintro ⟨v200, adz_v200⟩ w25 ⟨hS_, h0_, h1_, h2_, h3_, h4_, h5_, h6_, h7_⟩
         have HO201 : Aside0 (Kd.R (Kd.int .i64) 3 w25 w.heap.size (fun k_ => (w.heap.size ≤ k_) ∧ some k_ ≠ ownBlock (.slice Ao19 x197001_1.length co19)) v200 y199) := ⟨h0_⟩
         replace HO_197001 : Aside0 (Kd.R (Kd.int .i64) 3 w25 w.heap.size (fun k_ => (w.heap.size ≤ k_) ∧ some k_ ≠ v200.ownBlock) (.slice Ao19 x197001_1.length co19) x197001_1) := ⟨h1_⟩
         have HA_HO201 : Aside0 (∃ c_, (v200 : Value) = .slice (some adz_v200) y199.length c_) := ⟨h2_⟩
         replace BK193 : Aside0 (w25.heap[gb193]? = some (.cells #[.int .i64 0, .slice none 0 0] 27 (0, 0))) := ⟨h3_⟩
         replace BK196 : Aside0 (w25.heap[gb196]? = some (.cells #[.int .i64 (wrap64 (1 + t194)), .slice Ao19 x197001_1.length co19] 27 (0, 0))) := ⟨h4_⟩
         replace HI0 : Aside0 (IsS74 w0 w25 g s0_0 t203) := ⟨h5_⟩
         replace HK : Aside0 (KeepBut w w25 g none) := ⟨h6_⟩
         replace HB : Aside0 (Below w0.heap.size w0 w25) := ⟨h7_⟩
         clear h0_ h1_ h2_ h3_ h4_ h5_ h6_ h7_
         have hHeld : w25.cell? ⟨gb196, 0, none⟩ = some (.int .i64 (wrap64 (1 + t194))) ∧ w25.cell? ⟨gb196, 1, none⟩ = some (.slice Ao19 x197001_1.length co19) := hS_
         obtain ⟨co26, eo26⟩ := HA_HO201.out
         clear HA_HO201
         subst eo26
         refine norm_ (a' := ?_) ?_ ?_
         rotate_left
         ·simp only [putAll, Act.put, List.setIfInBounds_toArray, List.set_cons_zero, List.set_cons_succ]
          rfl
         refine pure_ (i := 5) (N := some 25) (v := ?_) (a' := ?_) #[true, true, true, true, true, true, false, false, false, false, false] rfl rfl (any_of HT_.out (by kernel_rfl)) (fun _ _ _ h => h) (Or.inl ⟨by rfl, ?_⟩) ?_ ?_
         rotate_left
         ·intro w'
          go_simp
          with_reducible rfl
         rotate_left
         ·simp only [Act.put, sA, s0, sS, i64_w, i32_w]
          rfl
         refine one_ (i := 6) (N := some 26) #[true, true, true, true, true, true, true, false, false, false, false] rfl rfl (one_of HT_.out (by kernel_rfl)) (by decide) (fun K hK => ?_)
         (have p204 : 0 ≤ (t202 : Int) := of_decide_eq_true (by first | (with_reducible assumption) | assumption); have q204 : t202 < (y199.length : Int) := of_decide_eq_true (by first | (with_reducible assumption) | assumption); obtain ⟨ad204, e204, hx204_0⟩ := Kd.at_int (Kd.R_reads' HO201.out).2.2 t202 p204 q204; obtain rfl : adz_v200 = ad204 := (by injection e204))
         refine value_ (w1 := ?_) (v := ?_) (by rfl) rfl ?_ ?_
         rotate_left 2
         ·go_simp
          constructor
          ·rfl
          ·rfl
         clear hx204_0
         refine hK.out _ _ ⟨(blk_cell BK196.out 0).trans rfl, (blk_cell BK196.out 1).trans rfl⟩ (fun hHeld => ?_)
         clear hK K
         refine norm_ (a' := ?_) ?_ ?_
         rotate_left
         ·show Act.put _ (some 26) _ = _
          simp only [Act.put, sA, s0, sS, i64_w, i32_w]
          rfl
         refine one_ (i := 7) (N := some 27) #[true, true, true, true, true, true, true, true, false, false, false] rfl rfl (one_of HT_.out (by kernel_rfl)) (by decide) (fun K hK => ?_)
         refine value_ (w1 := ?_) (v := ?_) (by rfl) rfl ?_ ?_
         rotate_left 2
         ·go_simp
          constructor
          ·rfl
          ·rfl
         refine hK.out _ _ ⟨(blk_cell (blk_alloc BK196.out _) 0).trans rfl, (blk_cell (blk_alloc BK196.out _) 1).trans rfl⟩ (fun hHeld => ?_)
         clear hK K
         refine norm_ (a' := ?_) ?_ ?_
         rotate_left
         ·show Act.put _ (some 27) _ = _
          simp only [Act.put, sA, s0, sS, i64_w, i32_w]
          rfl
         refine one_ (i := 8) (N := some 28) #[true, true, true, true, true, true, true, true, true, false, false] rfl rfl (one_of HT_.out (by kernel_rfl)) (by decide) (fun K hK => ?_)
         refine Kd.R_append_step (Kd.int .i64) w.heap.size (by rfl) (.tmp 21) (.tmp 27) 22 3 (.int .i64 0) 8 rfl Tryd.underlying22 info3 rfl (by decide) (by omega) (.slice Ao19 x197001_1.length co19) x197001_1 (rd y199 t202) [.int .i64 (rd y199 t202)] (fun k_ => (w.heap.size ≤ k_) ∧ some k_ ≠ ownBlock (.slice (some adz_v200) y199.length co26)) (fun _ => False) rfl rfl ?aP (fun _ hk => hk.elim) ?aF ?aO (Below.refl _ _) ?aS ?aL ?_
         (case aP => exact rfl)
         (case aF => exact (fun k_ hk => ⟨(Nat.le_trans (keep_size (w := w) (g := g) (row := none) (by exact jK HK.out)) hk), Kd.fresh' (rl HO201.out) k_ hk⟩))
         (case aO => exact (by exact lR HO_197001.out))
         (case aS => exact (keep_size (w := w) (g := g) (row := none) (by exact jK HK.out)))
         (case aL => have := LMc18.out; omega)
         intro v206 w27 ho hb hg hat
         rw [← Ny205.out] at ho
         replace BK193 := aM (blk_grown (g := gb193) (o := .cells #[.int .i64 0, .slice none 0 0] 27 (0, 0)) (by exact lK BK193.out) hg (Kd.R_ne HO_197001.out BK193.out (by decide)))
         replace BK196 := aM (blk_grown (g := gb196) (o := .cells #[.int .i64 (wrap64 (1 + t194)), .slice Ao19 x197001_1.length co19] 27 (0, 0)) (by exact lK BK196.out) hg (Kd.R_ne HO_197001.out BK196.out (by decide)))
         replace HI0 := aM (IsS74.grown (by exact IsS74.j HI0.out) hg (IsS74.own_ne HI0.out HO_197001.out (by decide)))
         replace HO201 := aM (Kd.R_after (ok := (fun k_ => (w.heap.size ≤ k_))) (by exact lR HO201.out) hg hat)
         replace HB := aM (below_weaken (by exact jB HB.out) HL.out hb)
         replace HK := aM (KeepBut.trans (by exact jK HK.out) (KeepBut.of_grown hg g) (Kd.R_base2 HO_197001.out))
         have HO207 := aM (ho)
         clear HO_197001 ho hb hg hat
         obtain ⟨Ao28, co28, eo28⟩ := Kd.R_slice HO207.out
         (first | subst eo28 | (injection eo28 with f1_ f2_ f3_; have f4_ := f1_.symm; have f5_ := f3_.symm; clear f1_ f2_ f3_; subst f4_; subst f5_))
         refine hK.out _ _ ⟨(blk_cell BK196.out 0).trans rfl, (blk_cell BK196.out 1).trans rfl⟩ (fun hHeld => ?_)
         clear hK K
         refine norm_ (a' := ?_) ?_ ?_
         rotate_left
         ·show Act.put _ (some 28) _ = _
          simp only [Act.put, sA, s0, sS, i64_w, i32_w]
          rfl
         refine pure_ (i := 9) (N := some 29) (v := ?_) (a' := ?_) #[true, true, true, true, true, true, true, true, true, true, false] rfl rfl (any_of HT_.out (by kernel_rfl)) (fun _ _ _ h => h) (Or.inl ⟨by rfl, ?_⟩) ?_ ?_
         rotate_left
         ·intro w'
          go_simp
          with_reducible rfl
         rotate_left
         ·simp only [Act.put, sA, s0, sS, i64_w, i32_w]
          rfl
         refine last_ (i := 10) (N := none) #[true, true, true, true, true, true, true, true, true, true, true] rfl rfl (one_of HT_.out (by kernel_rfl)) (by decide) (fun K hK => ?_)
         have hs29 : w27.cell? ⟨gb196, 1, none⟩ = some (.slice Ao19 x197001_1.length co19) := (blk_cell BK196.out 1).trans rfl
         have hfs29 := blk_frozen BK196.out 1
         have hns29_0 := NB193_196.out
         have hms29_0 := NB196_193.out
         refine skip_ (w1 := ?_) (by rfl) rfl ?_ ?_
         rotate_left
         ·go_simp
          rfl
         refine hK.out _ _ ?_
         clear hK K
         refine done_ (done_of HT_.out (by kernel_rfl)) ?_
         try go_wp2
         go_roundg k1
         case measure => have := HK1.out; omega
         case rel => exact ⟨(wrap64 (x6_1 - 1)), (t203), (y205), (.slice Ao28 y205.length co28), (by first | rfl | (simp; done) | (simp [*]; done)), H', ⟨by have := HK1.out; omega⟩, ⟨by exact lR <| Kd.R_mono (Kd.R_far (p := ⟨gb196, 1, none⟩) (Kd.R_types HO207.out BK196.out (by decide)) (fun _ hk => hk.2) (.slice Ao28 y205.length co28)) (fun _ hk => hk.1.1)⟩, ⟨by (with_reducible repeat first | refine kN ?_ _ | refine kD ?_ | refine kA ?_ _); refine blk_far ?_ NB193_196.out _; exact lK <| BK193.out⟩, ⟨by (with_reducible repeat first | refine kN ?_ _ | refine kD ?_ | refine kA ?_ _); refine blk_put (cs := #[.int .i64 (wrap64 (1 + t194)), .slice Ao19 x197001_1.length co19]) ?_ 1 _ rfl; exact lK <| BK196.out⟩, ⟨by exact IsS74.j HI0.out⟩, ⟨by exact jK HK.out⟩, ⟨by exact jB HB.out⟩⟩
        ·rw [if_neg c18] at H
         exact absurd H (by simp)
       ·rw [if_neg c17] at H
        exact absurd H (by simp)
      ·rw [if_neg c16] at H
       exact absurd H (by simp)
     ·rw [if_neg c14] at H
      have c14b0 := decide_eq_false c14
      clear c14
      have H' := aM H
      clear H
      go_wp2
      go_meet
      case rel => exact ⟨_, (x1001_1), (x197001_1), (u197001), H', ⟨by have := HK1.out; first | omega | exact Nat.le_refl _⟩, ⟨by exact lR <| HO_197001.out⟩, ⟨by exact lK <| BK193.out⟩, ⟨by exact lK <| BK196.out⟩, ⟨by exact IsS74.j HI0.out⟩, ⟨by exact jK HK.out⟩, ⟨by exact jB HB.out⟩⟩
  ·rw [if_neg c11] at H
   have c11b0 := beq_eq_false_iff_ne.mpr c11
   have c11b1 := bne_iff_ne.mpr c11
   (first | rw [c11b0] | (simp only [i64_w, i32_w]; rw [c11b0]) | rw [c11b1] | skip)
   have H' := aM H
   clear H
   go_wp2
   go_meet
   case rel => exact ⟨_, (t195), (([] : List Int)), (.slice none 0 0), H', ⟨by first | omega | exact Nat.le_refl _⟩, ⟨by first | exact Kd.R_nil _ _ _ _ _ | exact Kd.N_nil _ _ _ _ _ | exact Kd.V_nil _ _ _ _ _ | exact Kd.Q_nil _ _ _ _ _ | exact Kd.S_nil _ _ _ _ _⟩, ⟨by exact f2 (lK BK193.out) NB193_196.out⟩, ⟨by exact p2 (lK BK196.out)⟩, ⟨by exact IsS74.j HI0.out⟩, ⟨by exact jK HK.out⟩, ⟨by exact jB HB.out⟩⟩
 case rest =>
  clear HC4
  try clear c1
  try clear p2
  try clear q2
  try clear hx2
  try clear qi2
  try clear c3
  try clear c4
  try clear p6
  try clear c8
  try clear c9
  try clear c11
  try clear c11b0
  try clear c11b1
  try clear c14
  try clear c14b0
  try clear c16
  try clear c16b0
  try clear c17
  try clear c17b0
  try clear c18
  try clear p20
  try clear q20
  try clear hx20
  try clear qi20
  try clear hcz10_0
  try clear hcz10_1
  try clear hfz10_0
  try clear hfz10_1
  try clear hx204_0
  try clear p2
  try clear p204
  try clear p6
  try clear q204
  obtain ⟨kq, x1001_3, x197001_3, u197001, HA, HJ3, HO_197001, BK193, BK196, HI0, HK, HB⟩ := hcut
  cases kq with
  | zero => exact absurd HA.out (by simp [spec_l20Res.j1])
  | succ kj3 =>
   have H := HA.out
   clear HA
   simp only [spec_l20Res.j1] at H
   obtain ⟨⟨t208, t209⟩, A30, H⟩ := bS H
   try dsimp only at H
   by_cases c31 : t208 > 0
   ·rw [if_pos c31] at H
    have c31b0 := decide_eq_true c31
    clear c31
    simp only [Option.some.injEq, Prod.mk.injEq] at H
    obtain ⟨rfl, rfl, rfl⟩ := H
    go_wp2_with (first | ((with_reducible refine gate_callee (f := 49) rfl ?_); refine gL (some 32) Tryd.func49 #[.pointer (some ⟨g, 0, none⟩), .int .i64 a1] ?_; (with_reducible refine (spec_l20Rd_pick.calls kj3 g s0_0 x1001_3 a1 t208 t209 w0 _ ?side1 ?side2 A30.out).mono ?_); (case side1 => exact IsS74.j HI0.out); (case side2 => exact jB HB.out); rintro e w32 ⟨rfl, hi, hb, hk⟩; refine ⟨_, rfl, ?_⟩; replace HO_197001 := aM (IsS74.kp (f1 := x1001_3) (by exact IsS74.j HI0.out) (lR HO_197001.out) hk); replace BK193 := aM (kb hk BK193.out NB193_0.out); replace BK196 := aM (kb hk BK196.out NB196_0.out); replace HK := aM (kt HK.out hk); replace HB := aM (hb); replace HI0 := aM (hi); (try clear hb hk hi); have hnb33 := NB196_193.out; have hnc33 := NB193_196.out; have hnb34 := NB196_0.out; have hnc34 := NB0_196.out; obtain ⟨hcz35_0, hcz35_1, hfz35_0, hfz35_1⟩ := cf2 BK196.out; have hnb36 := NB193_0.out; have hnc36 := NB0_193.out; obtain ⟨hcz37_0, hcz37_1, hfz37_0, hfz37_1⟩ := cf2 BK193.out; obtain ⟨Ao38, co38, eo38⟩ := Kd.R_slice HO_197001.out; subst eo38))
    refine bodyPost_ret (results_cell_row rfl _ _ gb193 27 #[.int .i64 (wrap64 (1 + t194)), .slice Ao38 x197001_3.length co38] (0, 0) _ rfl (by exact p2 (lK BK193.out)) Tryd.underlying27 rfl (by kernel_rfl)) rfl ?_
    exact ⟨_, er, Kd.R_V (by exact lR <| Kd.R_mono (Kd.R_far (p := ⟨gb193, 1, none⟩) (Kd.R_far (p := ⟨gb193, 0, none⟩) (Kd.R_types HO_197001.out BK193.out (by decide)) (fun _ hk => by first | exact hk.2 | exact fun e_ => hk.2 (e_.trans (ob _ _ _ _))) (.int .i64 (wrap64 (1 + t194)))) (fun _ hk => by first | exact hk.2 | exact fun e_ => hk.2 (e_.trans (ob _ _ _ _))) (.slice Ao38 x197001_3.length co38)) (fun _ hk => by first | exact hk.1 | exact fun e_ => hk.1 (e_.trans (ob _ _ _ _)))), by exact IsS74.j HI0.out, by exact jB HB.out, by exact jK HK.out⟩
   ·rw [if_neg c31] at H
    have c31b0 := decide_eq_false c31
    clear c31
    obtain ⟨⟨t210, t211⟩, A39, H⟩ := bS H
    try dsimp only at H
    by_cases c40 : t210 = 0
    ·rw [if_pos c40] at H
     have c40b0 := beq_iff_eq.mpr c40
     have c40b1 := bne_eq_false_iff_eq.mpr c40
     clear c40
     obtain ⟨y212, hy212⟩ : ∃ y_ : List Int, y_ = (([0, 4, (-1)] : List Int)) := ⟨_, rfl⟩
     try rw [← hy212] at H
     try dsimp only [Option.bind_some] at H
     have Ny212 := aM hy212
     clear hy212
     obtain ⟨⟨t215, t216⟩, A41, H⟩ := bS H
     try dsimp only at H
     by_cases c42 : 0 ≤ t215
     ·rw [if_pos c42] at H
      have c42b0 := decide_eq_true c42
      clear c42
      by_cases c43 : t215 < (y212.length : Int)
      ·rw [if_pos c43] at H
       have c43b0 := decide_eq_true c43
       clear c43
       simp only [Option.some.injEq, Prod.mk.injEq] at H
       obtain ⟨rfl, rfl, rfl⟩ := H
       go_wp2_with (first | ((with_reducible refine gate_callee (f := 49) rfl ?_); refine gL (some 32) Tryd.func49 #[.pointer (some ⟨g, 0, none⟩), .int .i64 a1] ?_; (with_reducible refine (spec_l20Rd_pick.calls kj3 g s0_0 x1001_3 a1 t208 t209 w0 _ ?side1 ?side2 A30.out).mono ?_); (case side1 => exact IsS74.j HI0.out); (case side2 => exact jB HB.out); rintro e w44 ⟨rfl, hi, hb, hk⟩; refine ⟨_, rfl, ?_⟩; replace HO_197001 := aM (IsS74.kp (f1 := x1001_3) (by exact IsS74.j HI0.out) (lR HO_197001.out) hk); replace BK193 := aM (kb hk BK193.out NB193_0.out); replace BK196 := aM (kb hk BK196.out NB196_0.out); replace HK := aM (kt HK.out hk); replace HB := aM (hb); replace HI0 := aM (hi); (try clear hb hk hi)) | ((with_reducible refine gate_callee (f := 49) rfl ?_); refine gL (some 36) Tryd.func49 #[.pointer (some ⟨g, 0, none⟩), .int .i64 3] ?_; (with_reducible refine (spec_l20Rd_pick.calls kj3 g s0_0 t209 3 t210 t211 w0 _ ?side1 ?side2 A39.out).mono ?_); (case side1 => exact IsS74.j HI0.out); (case side2 => exact jB HB.out); rintro e w45 ⟨rfl, hi, hb, hk⟩; refine ⟨_, rfl, ?_⟩; replace HO_197001 := aM (IsS74.kp (f1 := t209) (by exact IsS74.j HI0.out) (lR HO_197001.out) hk); replace BK193 := aM (kb hk BK193.out NB193_0.out); replace BK196 := aM (kb hk BK196.out NB196_0.out); replace HK := aM (kt HK.out hk); replace HB := aM (hb); replace HI0 := aM (hi); (try clear hb hk hi)) | ((with_reducible refine gate_dst (N := 50) rfl ?_); refine Kd.R_lit (Kd.int .i64) _ 3 ?hg (N := 50) ?hd (xs := ([0, 4, (-1)] : List Int)) (inner := [.int .i64 0, .int .i64 4, .int .i64 (-1)]) (ok := fun _ => True) (okp := fun _ => True) ?hr ?hp (fun _ hk => hk) trivial (Below.refl _ _) (Nat.le_refl _) (by simp) ?_; (case hd => rfl); (case hg => rfl); (case hr => first | (go_simp; done) | (go_simp; rfl)); (case hp => exact (Reps.one (show Kd.M (Kd.int .i64) _ _ _ 0 [.int .i64 0] from rfl) (Reps.one (show Kd.M (Kd.int .i64) _ _ _ 4 [.int .i64 4] from rfl) (Reps.one (show Kd.M (Kd.int .i64) _ _ _ (-1) [.int .i64 (-1)] from rfl) (Reps.none _ _))))); intro v213 w46 ho47 hb hg_ hnew_; clear hg_ hnew_; (first | rw [← Ny212.out] at ho47 | (simp only [Int.reduceToNat] at ho47; rw [← Ny212.out] at ho47)); have HO214 := aM (Kd.R_lower (Kd.R_new' (Kd.R_newM (M := fun k_ => (w.heap.size ≤ k_)) ho47 (keep_size (w := w) (g := g) (row := none) (by exact jK HK.out)) (fun k_ h_ => h_)) (rl HO_197001.out)) (keep_size (w := w) (g := g) (row := none) (by exact jK HK.out))); replace HO_197001 := aM (Kd.R_elder' (by exact lR HO_197001.out) (Kd.R_base ho47) hb); replace BK193 := aM (bb BK193.out hb); replace BK196 := aM (bb BK196.out hb); replace HI0 := aM (IsS74.below (by exact IsS74.j HI0.out) hb); replace HK := aM (kbl HK.out hb); replace HB := aM (bj HB.out hb); clear hb ho47) | ((with_reducible refine gate_callee (f := 49) rfl ?_); refine gL (some 52) Tryd.func49 #[.pointer (some ⟨g, 0, none⟩), .int .i64 3] ?_; (with_reducible refine (spec_l20Rd_pick.calls kj3 g s0_0 t211 3 t215 t216 w0 _ ?side1 ?side2 A41.out).mono ?_); (case side1 => exact IsS74.j HI0.out); (case side2 => exact jB HB.out); rintro e w48 ⟨rfl, hi, hb, hk⟩; refine ⟨_, rfl, ?_⟩; replace HO_197001 := aM (IsS74.kp (f1 := t211) (by exact IsS74.j HI0.out) (lR HO_197001.out) hk); replace BK193 := aM (kb hk BK193.out NB193_0.out); replace BK196 := aM (kb hk BK196.out NB196_0.out); replace HO214 := aM (IsS74.kp (f1 := t211) (by exact IsS74.j HI0.out) (lR HO214.out) hk); replace HK := aM (kt HK.out hk); replace HB := aM (hb); replace HI0 := aM (hi); (try clear hb hk hi); obtain ⟨Ao49, co49, eo49⟩ := Kd.R_slice HO214.out; subst eo49; have p217 : 0 ≤ (t215 : Int) := of_decide_eq_true (by first | (with_reducible assumption) | assumption); have q217 : t215 < (y212.length : Int) := of_decide_eq_true (by first | (with_reducible assumption) | assumption); obtain ⟨ad217, e217, hx217_0⟩ := Kd.at_int (Kd.R_reads' HO214.out).2.2 t215 p217 q217; cases e217; replace p217 := eq_true p217; replace q217 := eq_true q217; have hnb50 := NB196_193.out; have hnc50 := NB193_196.out; have hnb51 := NB196_0.out; have hnc51 := NB0_196.out; obtain ⟨hcz52_0, hcz52_1, hfz52_0, hfz52_1⟩ := cf2 BK196.out; have hnb53 := NB193_0.out; have hnc53 := NB0_193.out; obtain ⟨hcz54_0, hcz54_1, hfz54_0, hfz54_1⟩ := cf2 BK193.out; obtain ⟨Ao55, co55, eo55⟩ := Kd.R_slice HO_197001.out; subst eo55))
       refine bodyPost_ret (results_cell_row rfl _ _ gb193 27 #[.int .i64 (rd y212 t215), .slice Ao55 x197001_3.length co55] (0, 0) _ rfl (by (with_reducible repeat first | refine kN ?_ _ | refine kD ?_ | refine kA ?_ _); refine blk_put (cs := #[.int .i64 (rd y212 t215), .slice none 0 0]) ?_ 1 _ rfl; (with_reducible repeat first | refine kN ?_ _ | refine kD ?_ | refine kA ?_ _); refine blk_put (cs := #[.int .i64 0, .slice none 0 0]) ?_ 0 _ rfl; (with_reducible repeat first | refine kN ?_ _ | refine kD ?_ | refine kA ?_ _); refine blk_far ?_ NB193_196.out _; exact lK BK193.out) Tryd.underlying27 rfl (by kernel_rfl)) rfl ?_
       exact ⟨_, er, Kd.R_V (by exact lR <| Kd.R_mono (Kd.R_far (p := ⟨gb193, 1, none⟩) (Kd.R_far (p := ⟨gb193, 0, none⟩) (Kd.R_far (p := ⟨gb196, 0, none⟩) (Kd.R_types (Kd.R_types HO_197001.out BK196.out (by decide)) BK193.out (by decide)) (fun _ hk => by first | exact hk.1.2 | exact fun e_ => hk.1.2 (e_.trans (ob _ _ _ _))) (.int .i64 (rd y212 t215))) (fun _ hk => by first | exact hk.2 | exact fun e_ => hk.2 (e_.trans (ob _ _ _ _))) (.int .i64 (rd y212 t215))) (fun _ hk => by first | exact hk.2 | exact fun e_ => hk.2 (e_.trans (ob _ _ _ _))) (.slice Ao55 x197001_3.length co55)) (fun _ hk => by first | exact hk.1.1.1 | exact fun e_ => hk.1.1.1 (e_.trans (ob _ _ _ _)))), by exact IsS74.j HI0.out, by exact jB HB.out, by exact jK HK.out⟩
      ·rw [if_neg c43] at H
       exact absurd H (by simp)
     ·rw [if_neg c42] at H
      exact absurd H (by simp)
    ·rw [if_neg c40] at H
     have c40b0 := beq_eq_false_iff_ne.mpr c40
     have c40b1 := bne_iff_ne.mpr c40
     by_cases c56 : t210 = 1
     ·rw [if_pos c56] at H
      have c56b0 := beq_iff_eq.mpr c56
      have c56b1 := bne_eq_false_iff_eq.mpr c56
      clear c56
      by_cases c57 : x197001_3.length < 17592186044416
      ·rw [if_pos c57] at H
       have LMc57 := aM c57
       clear c57
       obtain ⟨y218, hy218⟩ : ∃ y_ : List Int, y_ = (x197001_3 ++ [1]) := ⟨_, rfl⟩
       try rw [← hy218] at H
       try dsimp only [Option.bind_some] at H
       have Ny218 := aM hy218
       clear hy218
       simp only [Option.some.injEq, Prod.mk.injEq] at H
       obtain ⟨rfl, rfl, rfl⟩ := H
       go_wp2_with (first | ((with_reducible refine gate_callee (f := 49) rfl ?_); refine gL (some 32) Tryd.func49 #[.pointer (some ⟨g, 0, none⟩), .int .i64 a1] ?_; (with_reducible refine (spec_l20Rd_pick.calls kj3 g s0_0 x1001_3 a1 t208 t209 w0 _ ?side1 ?side2 A30.out).mono ?_); (case side1 => exact IsS74.j HI0.out); (case side2 => exact jB HB.out); rintro e w58 ⟨rfl, hi, hb, hk⟩; refine ⟨_, rfl, ?_⟩; replace HO_197001 := aM (IsS74.kp (f1 := x1001_3) (by exact IsS74.j HI0.out) (lR HO_197001.out) hk); replace BK193 := aM (kb hk BK193.out NB193_0.out); replace BK196 := aM (kb hk BK196.out NB196_0.out); replace HK := aM (kt HK.out hk); replace HB := aM (hb); replace HI0 := aM (hi); (try clear hb hk hi)) | ((with_reducible refine gate_callee (f := 49) rfl ?_); refine gL (some 36) Tryd.func49 #[.pointer (some ⟨g, 0, none⟩), .int .i64 3] ?_; (with_reducible refine (spec_l20Rd_pick.calls kj3 g s0_0 t209 3 t210 t211 w0 _ ?side1 ?side2 A39.out).mono ?_); (case side1 => exact IsS74.j HI0.out); (case side2 => exact jB HB.out); rintro e w59 ⟨rfl, hi, hb, hk⟩; refine ⟨_, rfl, ?_⟩; replace HO_197001 := aM (IsS74.kp (f1 := t209) (by exact IsS74.j HI0.out) (lR HO_197001.out) hk); replace BK193 := aM (kb hk BK193.out NB193_0.out); replace BK196 := aM (kb hk BK196.out NB196_0.out); replace HK := aM (kt HK.out hk); replace HB := aM (hb); replace HI0 := aM (hi); (try clear hb hk hi); have hnb60 := NB196_193.out; have hnc60 := NB193_196.out; have hnb61 := NB196_0.out; have hnc61 := NB0_196.out; obtain ⟨hcz62_0, hcz62_1, hfz62_0, hfz62_1⟩ := cf2 BK196.out) | ((with_reducible refine gate_builtin (b := .append) (xs := #[.tmp 59, .tmp 60]) rfl ?_); at_builtin; refine Kd.R_append (Kd.int .i64) w.heap.size rfl (.tmp 59) (.tmp 60) 22 3 (.int .i64 0) 8 rfl Tryd.underlying22 info3 rfl (by decide) (by omega) u197001 x197001_3 1 [.int .i64 1] (fun k_ => (w.heap.size ≤ k_)) (fun _ => False) rfl rfl ?aP (fun _ hk => hk.elim) ?aF ?aO (Below.refl _ _) ?aS ?aL ?_; (case aP => exact rfl); (case aF => exact (fun k_ hk => (Nat.le_trans (keep_size (w := w) (g := g) (row := none) (by exact jK HK.out)) hk))); (case aO => exact (by exact lR HO_197001.out)); (case aS => exact (keep_size (w := w) (g := g) (row := none) (by exact jK HK.out))); (case aL => have := LMc57.out; omega); intro v219 w63 ho hb hg hat; rw [← Ny218.out] at ho; replace BK193 := aM (blk_grown (g := gb193) (o := .cells #[.int .i64 0, .slice none 0 0] 27 (0, 0)) (by exact lK BK193.out) hg (Kd.R_ne HO_197001.out BK193.out (by decide))); replace BK196 := aM (blk_grown (g := gb196) (o := .cells #[.int .i64 (wrap64 (1 + t194)), u197001] 27 (0, 0)) (by exact lK BK196.out) hg (Kd.R_ne HO_197001.out BK196.out (by decide))); replace HI0 := aM (IsS74.grown (by exact IsS74.j HI0.out) hg (IsS74.own_ne HI0.out HO_197001.out (by decide))); replace HB := aM (below_weaken (by exact jB HB.out) HL.out hb); replace HK := aM (KeepBut.trans (by exact jK HK.out) (KeepBut.of_grown hg g) (Kd.R_base2 HO_197001.out)); have HO220 := aM (ho); clear HO_197001 ho hb hg hat; obtain ⟨Ao64, co64, eo64⟩ := Kd.R_slice HO220.out; subst eo64; obtain ⟨hcz65_0, hcz65_1, hfz65_0, hfz65_1⟩ := cf2 BK196.out; have hnb66 := NB193_0.out; have hnc66 := NB0_193.out; obtain ⟨hcz67_0, hcz67_1, hfz67_0, hfz67_1⟩ := cf2 BK193.out))
       refine bodyPost_ret (results_cell_row rfl _ _ gb193 27 #[.int .i64 (wrap64 (1 + t194)), .slice Ao64 y218.length co64] (0, 0) _ rfl (by (with_reducible repeat first | refine kN ?_ _ | refine kD ?_ | refine kA ?_ _); refine blk_put (cs := #[.int .i64 (wrap64 (1 + t194)), .slice none 0 0]) ?_ 1 _ rfl; (with_reducible repeat first | refine kN ?_ _ | refine kD ?_ | refine kA ?_ _); refine blk_put (cs := #[.int .i64 0, .slice none 0 0]) ?_ 0 _ rfl; (with_reducible repeat first | refine kN ?_ _ | refine kD ?_ | refine kA ?_ _); refine blk_far ?_ NB193_196.out _; exact lK BK193.out) Tryd.underlying27 rfl (by kernel_rfl)) rfl ?_
       exact ⟨_, er, Kd.R_V (by exact lR <| Kd.R_mono (Kd.R_far (p := ⟨gb193, 1, none⟩) (Kd.R_far (p := ⟨gb193, 0, none⟩) (Kd.R_far (p := ⟨gb196, 1, none⟩) (Kd.R_types (Kd.R_types HO220.out BK196.out (by decide)) BK193.out (by decide)) (fun _ hk => by first | exact hk.1.2 | exact fun e_ => hk.1.2 (e_.trans (ob _ _ _ _))) (.slice Ao64 y218.length co64)) (fun _ hk => by first | exact hk.2 | exact fun e_ => hk.2 (e_.trans (ob _ _ _ _))) (.int .i64 (wrap64 (1 + t194)))) (fun _ hk => by first | exact hk.2 | exact fun e_ => hk.2 (e_.trans (ob _ _ _ _))) (.slice Ao64 y218.length co64)) (fun _ hk => by first | exact hk.1.1 | exact fun e_ => hk.1.1 (e_.trans (ob _ _ _ _)))), by exact IsS74.j HI0.out, by exact jB HB.out, by exact jK HK.out⟩
      ·rw [if_neg c57] at H
       exact absurd H (by simp)
     ·rw [if_neg c56] at H
      have c56b0 := beq_eq_false_iff_ne.mpr c56
      have c56b1 := bne_iff_ne.mpr c56
      obtain ⟨y221, hy221⟩ : ∃ y_ : List Int, y_ = (([1, 2, 3, 4, 5, 6, 7] : List Int)) := ⟨_, rfl⟩
      try rw [← hy221] at H
      try dsimp only [Option.bind_some] at H
      have Ny221 := aM hy221
      clear hy221
      obtain ⟨y224, hy224⟩ : ∃ y_ : List Int, y_ = (([999999999999] : List Int)) := ⟨_, rfl⟩
      try rw [← hy224] at H
      try dsimp only [Option.bind_some] at H
      have Ny224 := aM hy224
      clear hy224
      obtain ⟨y227, hy227⟩ : ∃ y_ : List Int, y_ = (([(-999999999999)] : List Int)) := ⟨_, rfl⟩
      try rw [← hy227] at H
      try dsimp only [Option.bind_some] at H
      have Ny227 := aM hy227
      clear hy227
      obtain ⟨y230, hy230⟩ : ∃ y_ : List Int, y_ = (([1000000000000] : List Int)) := ⟨_, rfl⟩
      try rw [← hy230] at H
      try dsimp only [Option.bind_some] at H
      have Ny230 := aM hy230
      clear hy230
      obtain ⟨y233, hy233⟩ : ∃ y_ : List Int, y_ = (([(-9223372036854775808)] : List Int)) := ⟨_, rfl⟩
      try rw [← hy233] at H
      try dsimp only [Option.bind_some] at H
      have Ny233 := aM hy233
      clear hy233
      obtain ⟨y236, hy236⟩ : ∃ y_ : List (List Int), y_ = (([y221, y224, y227, y230, y233] : List (List Int))) := ⟨_, rfl⟩
      try rw [← hy236] at H
      try dsimp only [Option.bind_some] at H
      have Ny236 := aM hy236
      clear hy236
      obtain ⟨⟨t239, t240⟩, A68, H⟩ := bS H
      try dsimp only at H
      by_cases c69 : 0 ≤ t239
      ·rw [if_pos c69] at H
       have c69b0 := decide_eq_true c69
       clear c69
       by_cases c70 : t239 < (y236.length : Int)
       ·rw [if_pos c70] at H
        have c70b0 := decide_eq_true c70
        clear c70
        simp only [Option.some.injEq, Prod.mk.injEq] at H
        obtain ⟨rfl, rfl, rfl⟩ := H
        go_wp2_with (first | ((with_reducible refine gate_callee (f := 49) rfl ?_); refine gL (some 32) Tryd.func49 #[.pointer (some ⟨g, 0, none⟩), .int .i64 a1] ?_; (with_reducible refine (spec_l20Rd_pick.calls kj3 g s0_0 x1001_3 a1 t208 t209 w0 _ ?side1 ?side2 A30.out).mono ?_); (case side1 => exact IsS74.j HI0.out); (case side2 => exact jB HB.out); rintro e w71 ⟨rfl, hi, hb, hk⟩; refine ⟨_, rfl, ?_⟩; replace HO_197001 := aM (IsS74.kp (f1 := x1001_3) (by exact IsS74.j HI0.out) (lR HO_197001.out) hk); replace BK193 := aM (kb hk BK193.out NB193_0.out); replace BK196 := aM (kb hk BK196.out NB196_0.out); replace HK := aM (kt HK.out hk); replace HB := aM (hb); replace HI0 := aM (hi); (try clear hb hk hi)) | ((with_reducible refine gate_callee (f := 49) rfl ?_); refine gL (some 36) Tryd.func49 #[.pointer (some ⟨g, 0, none⟩), .int .i64 3] ?_; (with_reducible refine (spec_l20Rd_pick.calls kj3 g s0_0 t209 3 t210 t211 w0 _ ?side1 ?side2 A39.out).mono ?_); (case side1 => exact IsS74.j HI0.out); (case side2 => exact jB HB.out); rintro e w72 ⟨rfl, hi, hb, hk⟩; refine ⟨_, rfl, ?_⟩; replace HO_197001 := aM (IsS74.kp (f1 := t209) (by exact IsS74.j HI0.out) (lR HO_197001.out) hk); replace BK193 := aM (kb hk BK193.out NB193_0.out); replace BK196 := aM (kb hk BK196.out NB196_0.out); replace HK := aM (kt HK.out hk); replace HB := aM (hb); replace HI0 := aM (hi); (try clear hb hk hi)) | ((with_reducible refine gate_dst (N := 37) rfl ?_); refine Kd.R_lit (Kd.int .i64) _ 3 ?hg (N := 37) ?hd (xs := ([1, 2, 3, 4, 5, 6, 7] : List Int)) (inner := [.int .i64 1, .int .i64 2, .int .i64 3, .int .i64 4, .int .i64 5, .int .i64 6, .int .i64 7]) (ok := fun _ => True) (okp := fun _ => True) ?hr ?hp (fun _ hk => hk) trivial (Below.refl _ _) (Nat.le_refl _) (by simp) ?_; (case hd => rfl); (case hg => rfl); (case hr => first | (go_simp; done) | (go_simp; rfl)); (case hp => exact (Reps.one (show Kd.M (Kd.int .i64) _ _ _ 1 [.int .i64 1] from rfl) (Reps.one (show Kd.M (Kd.int .i64) _ _ _ 2 [.int .i64 2] from rfl) (Reps.one (show Kd.M (Kd.int .i64) _ _ _ 3 [.int .i64 3] from rfl) (Reps.one (show Kd.M (Kd.int .i64) _ _ _ 4 [.int .i64 4] from rfl) (Reps.one (show Kd.M (Kd.int .i64) _ _ _ 5 [.int .i64 5] from rfl) (Reps.one (show Kd.M (Kd.int .i64) _ _ _ 6 [.int .i64 6] from rfl) (Reps.one (show Kd.M (Kd.int .i64) _ _ _ 7 [.int .i64 7] from rfl) (Reps.none _ _))))))))); intro v222 w73 ho74 hb hg_ hnew_; clear hg_ hnew_; (first | rw [← Ny221.out] at ho74 | (simp only [Int.reduceToNat] at ho74; rw [← Ny221.out] at ho74)); have HO223 := aM (Kd.R_lower (Kd.R_new' (Kd.R_newM (M := fun k_ => (w.heap.size ≤ k_)) ho74 (keep_size (w := w) (g := g) (row := none) (by exact jK HK.out)) (fun k_ h_ => h_)) (rl HO_197001.out)) (keep_size (w := w) (g := g) (row := none) (by exact jK HK.out))); replace HO_197001 := aM (Kd.R_elder' (by exact lR HO_197001.out) (Kd.R_base ho74) hb); replace BK193 := aM (bb BK193.out hb); replace BK196 := aM (bb BK196.out hb); replace HI0 := aM (IsS74.below (by exact IsS74.j HI0.out) hb); replace HK := aM (kbl HK.out hb); replace HB := aM (bj HB.out hb); clear hb ho74) | ((with_reducible refine gate_dst (N := 38) rfl ?_); refine Kd.R_lit (Kd.int .i64) _ 3 ?hg (N := 38) ?hd (xs := ([999999999999] : List Int)) (inner := [.int .i64 999999999999]) (ok := fun _ => True) (okp := fun _ => True) ?hr ?hp (fun _ hk => hk) trivial (Below.refl _ _) (Nat.le_refl _) (by simp) ?_; (case hd => rfl); (case hg => rfl); (case hr => first | (go_simp; done) | (go_simp; rfl)); (case hp => exact (Reps.one (show Kd.M (Kd.int .i64) _ _ _ 999999999999 [.int .i64 999999999999] from rfl) (Reps.none _ _))); intro v225 w75 ho76 hb hg_ hnew_; clear hg_ hnew_; (first | rw [← Ny224.out] at ho76 | (simp only [Int.reduceToNat] at ho76; rw [← Ny224.out] at ho76)); have HO226 := aM (Kd.R_lower (Kd.R_new' (Kd.R_new' (Kd.R_newM (M := fun k_ => (w.heap.size ≤ k_)) ho76 (keep_size (w := w) (g := g) (row := none) (by exact jK HK.out)) (fun k_ h_ => h_)) (rl HO_197001.out)) (rl HO223.out)) (keep_size (w := w) (g := g) (row := none) (by exact jK HK.out))); replace HO_197001 := aM (Kd.R_elder' (by exact lR HO_197001.out) (Kd.R_base ho76) hb); replace HO223 := aM (Kd.R_elder' (by exact lR HO223.out) (Kd.R_base ho76) hb); replace BK193 := aM (bb BK193.out hb); replace BK196 := aM (bb BK196.out hb); replace HI0 := aM (IsS74.below (by exact IsS74.j HI0.out) hb); replace HK := aM (kbl HK.out hb); replace HB := aM (bj HB.out hb); clear hb ho76) | ((with_reducible refine gate_dst (N := 39) rfl ?_); refine Kd.R_lit (Kd.int .i64) _ 3 ?hg (N := 39) ?hd (xs := ([(-999999999999)] : List Int)) (inner := [.int .i64 (-999999999999)]) (ok := fun _ => True) (okp := fun _ => True) ?hr ?hp (fun _ hk => hk) trivial (Below.refl _ _) (Nat.le_refl _) (by simp) ?_; (case hd => rfl); (case hg => rfl); (case hr => first | (go_simp; done) | (go_simp; rfl)); (case hp => exact (Reps.one (show Kd.M (Kd.int .i64) _ _ _ (-999999999999) [.int .i64 (-999999999999)] from rfl) (Reps.none _ _))); intro v228 w77 ho78 hb hg_ hnew_; clear hg_ hnew_; (first | rw [← Ny227.out] at ho78 | (simp only [Int.reduceToNat] at ho78; rw [← Ny227.out] at ho78)); have HO229 := aM (Kd.R_lower (Kd.R_new' (Kd.R_new' (Kd.R_new' (Kd.R_newM (M := fun k_ => (w.heap.size ≤ k_)) ho78 (keep_size (w := w) (g := g) (row := none) (by exact jK HK.out)) (fun k_ h_ => h_)) (rl HO_197001.out)) (rl HO223.out)) (rl HO226.out)) (keep_size (w := w) (g := g) (row := none) (by exact jK HK.out))); replace HO_197001 := aM (Kd.R_elder' (by exact lR HO_197001.out) (Kd.R_base ho78) hb); replace HO223 := aM (Kd.R_elder' (by exact lR HO223.out) (Kd.R_base ho78) hb); replace HO226 := aM (Kd.R_elder' (by exact lR HO226.out) (Kd.R_base ho78) hb); replace BK193 := aM (bb BK193.out hb); replace BK196 := aM (bb BK196.out hb); replace HI0 := aM (IsS74.below (by exact IsS74.j HI0.out) hb); replace HK := aM (kbl HK.out hb); replace HB := aM (bj HB.out hb); clear hb ho78) | ((with_reducible refine gate_dst (N := 40) rfl ?_); refine Kd.R_lit (Kd.int .i64) _ 3 ?hg (N := 40) ?hd (xs := ([1000000000000] : List Int)) (inner := [.int .i64 1000000000000]) (ok := fun _ => True) (okp := fun _ => True) ?hr ?hp (fun _ hk => hk) trivial (Below.refl _ _) (Nat.le_refl _) (by simp) ?_; (case hd => rfl); (case hg => rfl); (case hr => first | (go_simp; done) | (go_simp; rfl)); (case hp => exact (Reps.one (show Kd.M (Kd.int .i64) _ _ _ 1000000000000 [.int .i64 1000000000000] from rfl) (Reps.none _ _))); intro v231 w79 ho80 hb hg_ hnew_; clear hg_ hnew_; (first | rw [← Ny230.out] at ho80 | (simp only [Int.reduceToNat] at ho80; rw [← Ny230.out] at ho80)); have HO232 := aM (Kd.R_lower (Kd.R_new' (Kd.R_new' (Kd.R_new' (Kd.R_new' (Kd.R_newM (M := fun k_ => (w.heap.size ≤ k_)) ho80 (keep_size (w := w) (g := g) (row := none) (by exact jK HK.out)) (fun k_ h_ => h_)) (rl HO_197001.out)) (rl HO223.out)) (rl HO226.out)) (rl HO229.out)) (keep_size (w := w) (g := g) (row := none) (by exact jK HK.out))); replace HO_197001 := aM (Kd.R_elder' (by exact lR HO_197001.out) (Kd.R_base ho80) hb); replace HO223 := aM (Kd.R_elder' (by exact lR HO223.out) (Kd.R_base ho80) hb); replace HO226 := aM (Kd.R_elder' (by exact lR HO226.out) (Kd.R_base ho80) hb); replace HO229 := aM (Kd.R_elder' (by exact lR HO229.out) (Kd.R_base ho80) hb); replace BK193 := aM (bb BK193.out hb); replace BK196 := aM (bb BK196.out hb); replace HI0 := aM (IsS74.below (by exact IsS74.j HI0.out) hb); replace HK := aM (kbl HK.out hb); replace HB := aM (bj HB.out hb); clear hb ho80) | ((with_reducible refine gate_dst (N := 41) rfl ?_); refine Kd.R_lit (Kd.int .i64) _ 3 ?hg (N := 41) ?hd (xs := ([(-9223372036854775808)] : List Int)) (inner := [.int .i64 (-9223372036854775808)]) (ok := fun _ => True) (okp := fun _ => True) ?hr ?hp (fun _ hk => hk) trivial (Below.refl _ _) (Nat.le_refl _) (by simp) ?_; (case hd => rfl); (case hg => rfl); (case hr => first | (go_simp; done) | (go_simp; rfl)); (case hp => exact (Reps.one (show Kd.M (Kd.int .i64) _ _ _ (-9223372036854775808) [.int .i64 (-9223372036854775808)] from rfl) (Reps.none _ _))); intro v234 w81 ho82 hb hg_ hnew_; clear hg_ hnew_; (first | rw [← Ny233.out] at ho82 | (simp only [Int.reduceToNat] at ho82; rw [← Ny233.out] at ho82)); have HO235 := aM (Kd.R_lower (Kd.R_new' (Kd.R_new' (Kd.R_new' (Kd.R_new' (Kd.R_new' (Kd.R_newM (M := fun k_ => (w.heap.size ≤ k_)) ho82 (keep_size (w := w) (g := g) (row := none) (by exact jK HK.out)) (fun k_ h_ => h_)) (rl HO_197001.out)) (rl HO223.out)) (rl HO226.out)) (rl HO229.out)) (rl HO232.out)) (keep_size (w := w) (g := g) (row := none) (by exact jK HK.out))); replace HO_197001 := aM (Kd.R_elder' (by exact lR HO_197001.out) (Kd.R_base ho82) hb); replace HO223 := aM (Kd.R_elder' (by exact lR HO223.out) (Kd.R_base ho82) hb); replace HO226 := aM (Kd.R_elder' (by exact lR HO226.out) (Kd.R_base ho82) hb); replace HO229 := aM (Kd.R_elder' (by exact lR HO229.out) (Kd.R_base ho82) hb); replace HO232 := aM (Kd.R_elder' (by exact lR HO232.out) (Kd.R_base ho82) hb); replace BK193 := aM (bb BK193.out hb); replace BK196 := aM (bb BK196.out hb); replace HI0 := aM (IsS74.below (by exact IsS74.j HI0.out) hb); replace HK := aM (kbl HK.out hb); replace HB := aM (bj HB.out hb); clear hb ho82; obtain ⟨Ao83, co83, eo83⟩ := Kd.R_slice HO223.out; subst eo83; obtain ⟨Ao84, co84, eo84⟩ := Kd.R_slice HO226.out; subst eo84; obtain ⟨Ao85, co85, eo85⟩ := Kd.R_slice HO229.out; subst eo85; obtain ⟨Ao86, co86, eo86⟩ := Kd.R_slice HO232.out; subst eo86; obtain ⟨Ao87, co87, eo87⟩ := Kd.R_slice HO235.out; subst eo87) | ((with_reducible refine gate_dst (N := 42) rfl ?_); refine Kd.N_lit (Kd.slice 3 (Kd.int .i64)) _ 22 ?hg (N' := 42) ?hd (xs := ([y221, y224, y227, y230, y233] : List (List Int))) (inner := [.slice Ao83 y221.length co83, .slice Ao84 y224.length co84, .slice Ao85 y227.length co85, .slice Ao86 y230.length co86, .slice Ao87 y233.length co87]) (ok := (fun k_ => (w.heap.size ≤ k_) ∧ some k_ ≠ (u197001 : Value).ownBlock ∧ k_ ≠ gb193 ∧ k_ ≠ gb196 ∧ k_ ≠ g)) (okp := (fun k_ => (w.heap.size ≤ k_) ∧ some k_ ≠ (u197001 : Value).ownBlock ∧ k_ ≠ gb193 ∧ k_ ≠ gb196 ∧ k_ ≠ g)) ?hr ?hp (fun _ hk => hk) ((show ∀ k_, w81.heap.size ≤ k_ → (fun k_ => (w.heap.size ≤ k_) ∧ some k_ ≠ (u197001 : Value).ownBlock ∧ k_ ≠ gb193 ∧ k_ ≠ gb196 ∧ k_ ≠ g) k_ from fun k_ hk => ⟨(Nat.le_trans (keep_size (w := w) (g := g) (row := none) (by exact jK HK.out)) hk), Kd.fresh' (rl HO_197001.out) k_ hk, Kd.freshB (g := gb193) (o := .cells #[.int .i64 0, .slice none 0 0] 27 (0, 0)) (by exact lK BK193.out) k_ hk, Kd.freshB (g := gb196) (o := .cells #[.int .i64 (wrap64 (1 + t194)), u197001] 27 (0, 0)) (by exact lK BK196.out) k_ hk, IsS74.fresh (by exact IsS74.j HI0.out) k_ hk⟩) _ (Nat.le_refl _)) (Below.refl _ _) (Nat.le_refl _) (by simp) ?_; (case hd => rfl); (case hg => rfl); (case hr => first | (go_simp; done) | (go_simp; rfl)); (case hp => exact (Reps.one (show Kd.FK (Kd.slice 3 (Kd.int .i64)) _ _ y221 [.slice Ao83 y221.length co83] from (Kd.FK_slice_mk (Kd.R_reads' (Kd.R_mono (ok' := (fun k_ => (w.heap.size ≤ k_) ∧ some k_ ≠ (u197001 : Value).ownBlock ∧ k_ ≠ gb193 ∧ k_ ≠ gb196 ∧ k_ ≠ g)) (IsS74.apart HI0.out (Kd.R_types (Kd.R_types (HO223.out) BK193.out (by decide)) BK196.out (by decide)) (by decide)) (fun k_ hk => ⟨hk.1.1.1.1.1.1.1.1.1, ⟨hk.1.1.1.1.1.1.1.2, ⟨hk.1.1.2, ⟨hk.1.2, hk.2⟩⟩⟩⟩))).2.1 (Kd.R_F (Kd.R_mono (ok' := (fun k_ => (w.heap.size ≤ k_) ∧ some k_ ≠ (u197001 : Value).ownBlock ∧ k_ ≠ gb193 ∧ k_ ≠ gb196 ∧ k_ ≠ g)) (IsS74.apart HI0.out (Kd.R_types (Kd.R_types (HO223.out) BK193.out (by decide)) BK196.out (by decide)) (by decide)) (fun k_ hk => ⟨hk.1.1.1.1.1.1.1.1.1, ⟨hk.1.1.1.1.1.1.1.2, ⟨hk.1.1.2, ⟨hk.1.2, hk.2⟩⟩⟩⟩))))) (Reps.one (show Kd.FK (Kd.slice 3 (Kd.int .i64)) _ _ y224 [.slice Ao84 y224.length co84] from (Kd.FK_slice_mk (Kd.R_reads' (Kd.R_mono (ok' := (fun k_ => (w.heap.size ≤ k_) ∧ some k_ ≠ (u197001 : Value).ownBlock ∧ k_ ≠ gb193 ∧ k_ ≠ gb196 ∧ k_ ≠ g)) (IsS74.apart HI0.out (Kd.R_types (Kd.R_types (HO226.out) BK193.out (by decide)) BK196.out (by decide)) (by decide)) (fun k_ hk => ⟨hk.1.1.1.1.1.1.1.1.1, ⟨hk.1.1.1.1.1.1.1.2, ⟨hk.1.1.2, ⟨hk.1.2, hk.2⟩⟩⟩⟩))).2.1 (Kd.R_F (Kd.R_mono (ok' := (fun k_ => (w.heap.size ≤ k_) ∧ some k_ ≠ (u197001 : Value).ownBlock ∧ k_ ≠ gb193 ∧ k_ ≠ gb196 ∧ k_ ≠ g)) (IsS74.apart HI0.out (Kd.R_types (Kd.R_types (HO226.out) BK193.out (by decide)) BK196.out (by decide)) (by decide)) (fun k_ hk => ⟨hk.1.1.1.1.1.1.1.1.1, ⟨hk.1.1.1.1.1.1.1.2, ⟨hk.1.1.2, ⟨hk.1.2, hk.2⟩⟩⟩⟩))))) (Reps.one (show Kd.FK (Kd.slice 3 (Kd.int .i64)) _ _ y227 [.slice Ao85 y227.length co85] from (Kd.FK_slice_mk (Kd.R_reads' (Kd.R_mono (ok' := (fun k_ => (w.heap.size ≤ k_) ∧ some k_ ≠ (u197001 : Value).ownBlock ∧ k_ ≠ gb193 ∧ k_ ≠ gb196 ∧ k_ ≠ g)) (IsS74.apart HI0.out (Kd.R_types (Kd.R_types (HO229.out) BK193.out (by decide)) BK196.out (by decide)) (by decide)) (fun k_ hk => ⟨hk.1.1.1.1.1.1.1.1.1, ⟨hk.1.1.1.1.1.1.1.2, ⟨hk.1.1.2, ⟨hk.1.2, hk.2⟩⟩⟩⟩))).2.1 (Kd.R_F (Kd.R_mono (ok' := (fun k_ => (w.heap.size ≤ k_) ∧ some k_ ≠ (u197001 : Value).ownBlock ∧ k_ ≠ gb193 ∧ k_ ≠ gb196 ∧ k_ ≠ g)) (IsS74.apart HI0.out (Kd.R_types (Kd.R_types (HO229.out) BK193.out (by decide)) BK196.out (by decide)) (by decide)) (fun k_ hk => ⟨hk.1.1.1.1.1.1.1.1.1, ⟨hk.1.1.1.1.1.1.1.2, ⟨hk.1.1.2, ⟨hk.1.2, hk.2⟩⟩⟩⟩))))) (Reps.one (show Kd.FK (Kd.slice 3 (Kd.int .i64)) _ _ y230 [.slice Ao86 y230.length co86] from (Kd.FK_slice_mk (Kd.R_reads' (Kd.R_mono (ok' := (fun k_ => (w.heap.size ≤ k_) ∧ some k_ ≠ (u197001 : Value).ownBlock ∧ k_ ≠ gb193 ∧ k_ ≠ gb196 ∧ k_ ≠ g)) (IsS74.apart HI0.out (Kd.R_types (Kd.R_types (HO232.out) BK193.out (by decide)) BK196.out (by decide)) (by decide)) (fun k_ hk => ⟨hk.1.1.1.1.1.1.1.1.1, ⟨hk.1.1.1.1.1.1.1.2, ⟨hk.1.1.2, ⟨hk.1.2, hk.2⟩⟩⟩⟩))).2.1 (Kd.R_F (Kd.R_mono (ok' := (fun k_ => (w.heap.size ≤ k_) ∧ some k_ ≠ (u197001 : Value).ownBlock ∧ k_ ≠ gb193 ∧ k_ ≠ gb196 ∧ k_ ≠ g)) (IsS74.apart HI0.out (Kd.R_types (Kd.R_types (HO232.out) BK193.out (by decide)) BK196.out (by decide)) (by decide)) (fun k_ hk => ⟨hk.1.1.1.1.1.1.1.1.1, ⟨hk.1.1.1.1.1.1.1.2, ⟨hk.1.1.2, ⟨hk.1.2, hk.2⟩⟩⟩⟩))))) (Reps.one (show Kd.FK (Kd.slice 3 (Kd.int .i64)) _ _ y233 [.slice Ao87 y233.length co87] from (Kd.FK_slice_mk (Kd.R_reads' (Kd.R_mono (ok' := (fun k_ => (w.heap.size ≤ k_) ∧ some k_ ≠ (u197001 : Value).ownBlock ∧ k_ ≠ gb193 ∧ k_ ≠ gb196 ∧ k_ ≠ g)) (IsS74.apart HI0.out (Kd.R_types (Kd.R_types (HO235.out) BK193.out (by decide)) BK196.out (by decide)) (by decide)) (fun k_ hk => ⟨hk.1.1.1.1.1.1.1.1.1, ⟨hk.1.1.1.1.1.1.1.2, ⟨hk.1.1.2, ⟨hk.1.2, hk.2⟩⟩⟩⟩))).2.1 (Kd.R_F (Kd.R_mono (ok' := (fun k_ => (w.heap.size ≤ k_) ∧ some k_ ≠ (u197001 : Value).ownBlock ∧ k_ ≠ gb193 ∧ k_ ≠ gb196 ∧ k_ ≠ g)) (IsS74.apart HI0.out (Kd.R_types (Kd.R_types (HO235.out) BK193.out (by decide)) BK196.out (by decide)) (by decide)) (fun k_ hk => ⟨hk.1.1.1.1.1.1.1.1.1, ⟨hk.1.1.1.1.1.1.1.2, ⟨hk.1.1.2, ⟨hk.1.2, hk.2⟩⟩⟩⟩))))) (Reps.none _ _))))))); intro v237 w88 ho89 hb hg_ hnew_; clear hg_ hnew_; (first | rw [← Ny236.out] at ho89 | (simp only [Int.reduceToNat] at ho89; rw [← Ny236.out] at ho89)); replace HO_197001 := aM (rb HO_197001.out hb); have HO238 := aM (Kd.N_lower ho89 (keep_size (w := w) (g := g) (row := none) (by exact jK HK.out))); replace BK193 := aM (bb BK193.out hb); replace BK196 := aM (bb BK196.out hb); replace HI0 := aM (IsS74.below (by exact IsS74.j HI0.out) hb); replace HK := aM (kbl HK.out hb); replace HB := aM (bj HB.out hb); clear HO223 HO226 HO229 HO232 HO235 hb ho89) | ((with_reducible refine gate_callee (f := 49) rfl ?_); refine gL (some 44) Tryd.func49 #[.pointer (some ⟨g, 0, none⟩), .int .i64 5] ?_; (with_reducible refine (spec_l20Rd_pick.calls kj3 g s0_0 t211 5 t239 t240 w0 _ ?side1 ?side2 A68.out).mono ?_); (case side1 => exact IsS74.j HI0.out); (case side2 => exact jB HB.out); rintro e w90 ⟨rfl, hi, hb, hk⟩; refine ⟨_, rfl, ?_⟩; replace HO_197001 := aM (IsS74.kp (f1 := t211) (by exact IsS74.j HI0.out) (lR HO_197001.out) hk); replace BK193 := aM (kb hk BK193.out NB193_0.out); replace BK196 := aM (kb hk BK196.out NB196_0.out); replace HO238 := aM (Kd.N_mono (Kd.N_keep (Kd.N_mono (ok := fun k_ => (((w.heap.size ≤ k_)) ∧ (some k_ ≠ (u197001 : Value).ownBlock ∧ (k_ ≠ gb193 ∧ (k_ ≠ gb196 ∧ k_ ≠ g))))) (by exact lN <| HO238.out) (fun k_ hk_ => (⟨hk_, hk_.2.2.2.2⟩ : _ ∧ k_ ≠ g))) hk (fun _ h => h.2)) (fun _ h => h.1)); replace HK := aM (kt HK.out hk); replace HB := aM (hb); replace HI0 := aM (hi); (try clear hb hk hi); obtain ⟨Ao91, co91, eo91⟩ := Kd.N_slice HO238.out; subst eo91; have p241 : 0 ≤ (t239 : Int) := of_decide_eq_true (by first | (with_reducible assumption) | assumption); have q241 : t239 < (y236.length : Int) := of_decide_eq_true (by first | (with_reducible assumption) | assumption); obtain ⟨ad241, A241_0, c241_0, e241, hx241_0, hl241_0, hi241_0⟩ := at_L3 (Kd.N_reads' HO238.out).2.2 t239 p241 q241; cases e241; obtain ⟨ce241, hce241, hMe241, hcc241⟩ := Kd.N_get HO238.out [] t239 p241 (by first | exact q241 | exact of_decide_eq_true (by first | (with_reducible assumption) | assumption) | (have e_ := (Kd.N_reads' HO238.out).1; omega)); obtain ⟨ua241_0, uc241_0, rfl, ul241_0, ge241_0⟩ := Kd.FK_slice_open hMe241; have hv241_0 := hcc241 0 _ rfl; rw [Nat.add_zero, show ((Kd.slice 3 (Kd.int .i64))).sz = 1 from rfl, Nat.mul_one] at hv241_0; replace hv241_0 := Option.some.inj (hv241_0.symm.trans hx241_0); injection hv241_0 with hva_ hvn_ hvc_; rw [hva_] at ge241_0; rw [hvc_] at ul241_0; have HL241_0 := aM (show Kd.V (Kd.int .i64) 3 _ w.heap.size _ _ (rd_L3 y236 t239) from Kd.V_mk ul241_0 ge241_0); clear hva_ hvn_ hvc_ ge241_0 ul241_0 hcc241 hce241; have HR241_0 := aM hi241_0; have HC241_0 := aM hl241_0; clear hi241_0 hl241_0; replace p241 := eq_true p241; replace q241 := eq_true q241; have hnb92 := NB196_193.out; have hnc92 := NB193_196.out; have hnb93 := NB196_0.out; have hnc93 := NB0_196.out; obtain ⟨hcz94_0, hcz94_1, hfz94_0, hfz94_1⟩ := cf2 BK196.out; have hnb95 := NB193_0.out; have hnc95 := NB0_193.out; obtain ⟨hcz96_0, hcz96_1, hfz96_0, hfz96_1⟩ := cf2 BK193.out))
        refine bodyPost_ret (results_cell_row rfl _ _ gb193 27 #[.int .i64 (wrap64 (1 + t194)), .slice A241_0 (rd_L3 y236 t239).length c241_0] (0, 0) _ rfl (by (with_reducible repeat first | refine kN ?_ _ | refine kD ?_ | refine kA ?_ _); refine blk_put (cs := #[.int .i64 (wrap64 (1 + t194)), .slice none 0 0]) ?_ 1 _ rfl; (with_reducible repeat first | refine kN ?_ _ | refine kD ?_ | refine kA ?_ _); refine blk_put (cs := #[.int .i64 0, .slice none 0 0]) ?_ 0 _ rfl; (with_reducible repeat first | refine kN ?_ _ | refine kD ?_ | refine kA ?_ _); refine blk_far ?_ NB193_196.out _; exact lK BK193.out) Tryd.underlying27 rfl (by kernel_rfl)) rfl ?_
        exact ⟨_, er, by (with_reducible repeat (first | apply Kd.V_alloc | apply Kd.V_drewN | apply Kd.V_drew)); exact Kd.V_mono (Kd.V_far (p := ⟨gb193, 1, none⟩) (Kd.V_far (p := ⟨gb193, 0, none⟩) (Kd.V_far (p := ⟨gb196, 1, none⟩) (Kd.V_mono (Kd.V_mono HL241_0.out (fun k_ hk => (⟨hk, hk.1.2.2.2.1⟩ : _ ∧ k_ ≠ gb196))) (fun k_ hk => (⟨hk, hk.1.1.2.2.1⟩ : _ ∧ k_ ≠ gb193))) (fun _ hk => hk.1.2) (.slice A241_0 (rd_L3 y236 t239).length c241_0)) (fun _ hk => hk.2) (.int .i64 (wrap64 (1 + t194)))) (fun _ hk => hk.2) (.slice A241_0 (rd_L3 y236 t239).length c241_0)) (fun _ hk => hk.1.1.1.1), by exact IsS74.j HI0.out, by exact jB HB.out, by exact jK HK.out⟩
       ·rw [if_neg c70] at H
        exact absurd H (by simp)
      ·rw [if_neg c69] at H
       exact absurd H (by simp)

/-! ### spec_l20Open: function 39 -/
def spec_l20Open.f (l0 : List Int) : Option (List Int × Int) := if (l0.length : Int) > 2000 then (if 2000 ≤ (l0.length : Int) then (some (l0.take 2000, 0)) else (none)) else (some (l0, 0))
theorem spec_l20Open.calls (A0 : Option Addr) (c0 : Nat) (l0 : List Int) (r1 : List Int) (r2 : Int) (w0 w : World) (hB : Below w0.heap.size w0 w) (hr0 : Kd.C (Kd.int .u8) w0 A0 l0.length l0) (hc0 : l0.length ≤ c0) (h : spec_l20Open.f l0 = some (r1, r2)) :
  Calls Tryd.prog 39 #[.slice A0 l0.length c0] w fun e w' => ∃ g_ : Nat, e = .returned (.pointer (some ⟨g_, 0, none⟩)) ∧ IsS74 w0 w' g_ r1 r2 ∧ Below w0.heap.size w0 w' ∧ Below w.heap.size w w' := by
 have hu74 := Tryd.underlying74
 have HR0 := aM hr0
 have HC0 := aM hc0
 clear hr0 hc0
 have HBW := aM (Below.refl w.heap.size w)
 have HW0 := aM hB.size
 have HB := aM hB
 clear hB
 have H : (if (l0.length : Int) > 2000 then (if 2000 ≤ (l0.length : Int) then (some (l0.take 2000, 0)) else (none)) else (some (l0, 0))) = some (r1, r2) := h
 clear h
 by_cases c2 : (l0.length : Int) > 2000
 ·rw [if_pos c2] at H
  have c2b0 := decide_eq_true c2
  have c2b1 : decide (2000 < l0.length) = true := decide_eq_true (by omega)
  clear c2
  by_cases c3 : 2000 ≤ (l0.length : Int)
  ·rw [if_pos c3] at H
   have c3b0 := eq_true c3
   have c3b1 := decide_eq_true c3
   clear c3
   simp only [Option.some.injEq, Prod.mk.injEq] at H
   obtain ⟨rfl, rfl⟩ := H
   obtain ⟨i04, hi04, _, hsz4, _⟩ := info_parts info5
   obtain ⟨hcut4, hA4, hC4⟩ := print_take_of (P := Tryd.prog) (Value.int .u8) 0 36 5 .i64 Tryd.underlying36 hi04 hsz4 A0 c0 l0 2000 (by omega) (of_decide_eq_true (by first | (with_reducible assumption) | assumption)) HC0.out
   have HR242 := aM (Kd.C_of_reads (h1 := fun _ => rfl) (hA4 _ (Kd.reads_of_C HR0.out)))
   have HC242 := aM hC4
   clear hA4 hC4 hi04 hsz4
   go_enter Tryd.func39, Tryd.ntmps39
   go_wp2_with (first | ((with_reducible refine gate_dst (N := 10) rfl ?_); refine bx 10 #[.slice A0 (l0.take 2000).length c0, .int .i64 0] 74 ?_; intro gb243 hg w5 hbox hb; replace HB := aM (bj HB.out hb); have BK243 := aM (hbox); have GW243 := aM ((gz hg HBW.out)); have IGW243 : Nonempty _ := ⟨GW243.out⟩; have GE243 := aM ((Nat.le_trans HW0.out (gz hg HBW.out) : w0.heap.size ≤ gb243)); have IGE243 : Nonempty _ := ⟨GE243.out⟩; replace HBW := aM (below_step HBW.out hb); clear hb hbox hg))
   go_ret
   exact ⟨_, rfl, (show IsS74 w0 _ gb243 (l0.take 2000) 0 from ⟨_, _, by exact lK <| BK243.out, GE243.out, HR242.out⟩), by exact jB HB.out, by exact jB HBW.out⟩
  ·rw [if_neg c3] at H
   exact absurd H (by simp)
 ·rw [if_neg c2] at H
  have c2b0 := decide_eq_false c2
  have c2b1 : decide (2000 < l0.length) = false := decide_eq_false (by omega)
  clear c2
  simp only [Option.some.injEq, Prod.mk.injEq] at H
  obtain ⟨rfl, rfl⟩ := H
  go_enter Tryd.func39, Tryd.ntmps39
  go_wp2_with (first | ((with_reducible refine gate_dst (N := 10) rfl ?_); refine bx 10 #[.slice A0 l0.length c0, .int .i64 0] 74 ?_; intro gb244 hg w6 hbox hb; replace HB := aM (bj HB.out hb); have BK244 := aM (hbox); have GW244 := aM ((gz hg HBW.out)); have IGW244 : Nonempty _ := ⟨GW244.out⟩; have GE244 := aM ((Nat.le_trans HW0.out (gz hg HBW.out) : w0.heap.size ≤ gb244)); have IGE244 : Nonempty _ := ⟨GE244.out⟩; replace HBW := aM (below_step HBW.out hb); clear hb hbox hg))
  go_ret
  exact ⟨_, rfl, (show IsS74 w0 _ gb244 l0 0 from ⟨_, _, by exact lK <| BK244.out, GE244.out, HR0.out⟩), by exact jB HB.out, by exact jB HBW.out⟩

/-! ### spec_DrawResText: function 18 -/
def spec_DrawResText.f (k : Nat) (l0 : List Int) : Option (Int × List Int) := (spec_l20Open.f l0).bind fun bt246 => ((spec_l20Res.f k bt246.1 bt246.2 3).bind fun bt249 => (some (bt249.1, bt249.2.1)))
theorem spec_DrawResText.mono : ∀ a0 k, LeO (spec_DrawResText.f k a0) (spec_DrawResText.f (k + 1) a0) := by
 intro a0 k
 unfold spec_DrawResText.f
 repeat' first
   | (with_reducible exact spec_l20Res.mono _ _ _ _)
   | (with_reducible exact LeO.refl _)
   | (with_reducible exact LeO.none _)
   | (with_reducible refine LeO.ite ?_ ?_)
   | (with_reducible refine LeO.bind ?_ (fun _ => ?_))
   | exact LeO.none _
   | refine LeO.ite ?_ ?_
   | refine LeO.bind ?_ (fun _ => ?_)
theorem spec_DrawResText.calls (k : Nat) (A0 : Option Addr) (c0 : Nat) (l0 : List Int) (r1 : Int) (r2 : List Int) (w : World) (hr0 : Kd.C (Kd.int .u8) w A0 l0.length l0) (hc0 : l0.length ≤ c0) (h : spec_DrawResText.f k l0 = some (r1, r2)) :
  Calls Tryd.prog 18 #[.slice A0 l0.length c0] w fun e w' => ∃ v1_ : Value, e = .returned (.agg #[.int .i64 r1, v1_]) ∧ Kd.V (Kd.int .i64) 3 w' w.heap.size (fun k_ => (w.heap.size ≤ k_)) v1_ r2 ∧ Below w.heap.size w w' := by
 have hu27 := Tryd.underlying27
 have HR0 := aM hr0
 have HC0 := aM hc0
 clear hr0 hc0
 have HB := aM (Below.refl w.heap.size w)
 have H : ((spec_l20Open.f l0).bind fun bt246 => ((spec_l20Res.f k bt246.1 bt246.2 3).bind fun bt249 => (some (bt249.1, bt249.2.1)))) = some (r1, r2) := h
 clear h
 obtain ⟨⟨t246, t247⟩, A2, H⟩ := bS H
 try dsimp only at H
 obtain ⟨⟨t249, t250, t253⟩, A3, H⟩ := bS H
 try dsimp only at H
 simp only [Option.some.injEq, Prod.mk.injEq] at H
 obtain ⟨rfl, rfl⟩ := H
 go_enter Tryd.func18, Tryd.ntmps18
 go_wp2_with (first | ((with_reducible refine gate_dst (N := 2) rfl ?_); refine bx 2 #[.int .i64 0, .slice none 0 0] 27 ?_; intro gb245 hg w4 hbox hb; have BK245 := aM (hbox); have GW245 := aM ((gz hg HB.out)); have IGW245 : Nonempty _ := ⟨GW245.out⟩; have GE245 := aM ((gz hg HB.out)); have IGE245 : Nonempty _ := ⟨GE245.out⟩; replace HB := aM (bj HB.out hb); clear hb hbox hg) | ((with_reducible refine gate_callee (f := 39) rfl ?_); refine gL (some 4) Tryd.func39 #[.slice A0 l0.length c0] ?_; (with_reducible refine (spec_l20Open.calls _ _ l0 t246 t247 w _ ?side1 ?side2 ?side3 A2.out).mono ?_); (case side1 => exact jB HB.out); (case side2 => exact HR0.out); (case side3 => exact HC0.out); rintro e w5 ⟨g248, rfl, hi, hb, hb2⟩; refine ⟨_, rfl, ?_⟩; replace HB := aM (hb); have HI248 := aM (hi); have NB248_245 := aM (IsS74.ne_blk hi (blk_below (g := gb245) (o := .cells #[.int .i64 0, .slice none 0 0] 27 (0, 0)) (by exact lK BK245.out) hb2) (by decide)); have NB245_248 := aM (Ne.symm (IsS74.ne_blk hi (blk_below (g := gb245) (o := .cells #[.int .i64 0, .slice none 0 0] 27 (0, 0)) (by exact lK BK245.out) hb2) (by decide))); replace BK245 := aM (blk_below (g := gb245) (o := .cells #[.int .i64 0, .slice none 0 0] 27 (0, 0)) (by exact lK BK245.out) hb2); (try clear hb hb2 hi)) | ((with_reducible refine gate_callee (f := 38) rfl ?_); refine gL (some 5) Tryd.func38 #[.pointer (some ⟨g248, 0, none⟩), .int .i64 3] ?_; (with_reducible refine (spec_l20Res.calls k g248 t246 t247 3 t249 t250 t253 w _ ?side1 ?side2 A3.out).mono ?_); (case side1 => exact IsS74.j HI248.out); (case side2 => exact jB HB.out); rintro e w6 ⟨v251, rfl, ho0, hi, hb, hk⟩; refine ⟨_, rfl, ?_⟩; have HO252 := aM (Kd.V_lower (Kd.V_mono (ok' := fun k_ => (w.heap.size ≤ k_) ∧ k_ ≠ gb245 ∧ k_ ≠ g248) ho0 (fun k_ hk_ => ⟨(Nat.le_trans (below_size (by exact jB HB.out)) hk_), (Kd.freshB (g := gb245) (o := .cells #[.int .i64 0, .slice none 0 0] 27 (0, 0)) (by exact lK BK245.out) k_ hk_), (IsS74.fresh (by exact IsS74.j HI248.out) k_ hk_)⟩)) (below_size (by exact jB HB.out))); replace BK245 := aM (kb hk BK245.out NB245_248.out); replace HB := aM (hb); replace HI248 := aM (hi); (try clear hb hk hi); (try clear ho0); have hnb7 := NB245_248.out; have hnc7 := NB248_245.out; obtain ⟨hcz8_0, hcz8_1, hfz8_0, hfz8_1⟩ := cf2 BK245.out; obtain ⟨Ao9, co9, eo9⟩ := Kd.V_slice HO252.out; subst eo9))
 refine bodyPost_ret (results_cell_row rfl _ _ gb245 27 #[.int .i64 t249, .slice Ao9 t250.length co9] (0, 0) _ rfl (by exact p2 (lK BK245.out)) Tryd.underlying27 rfl (by kernel_rfl)) rfl ?_
 exact ⟨_, er, by (with_reducible repeat (first | apply Kd.V_alloc | apply Kd.V_drewN | apply Kd.V_drew)); exact Kd.V_mono (Kd.V_far (p := ⟨gb245, 1, none⟩) (Kd.V_far (p := ⟨gb245, 0, none⟩) (Kd.V_mono HO252.out (fun k_ hk => (⟨hk, hk.2.1⟩ : _ ∧ k_ ≠ gb245))) (fun _ hk => hk.2) (.int .i64 t249)) (fun _ hk => hk.2) (.slice Ao9 t250.length co9)) (fun _ hk => hk.1.1), by exact jB HB.out⟩

end Go.Proofs.YtcafmfmlnfaogaaDoor.QFnResText

-- shorter
