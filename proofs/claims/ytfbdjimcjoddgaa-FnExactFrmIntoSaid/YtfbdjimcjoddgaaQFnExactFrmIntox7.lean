/- Plain functions, and that the Go code computes them: written by a program of this session over the seat's translation; the conditions stand in each theorem. -/
import Derived.Test.YtfbdjimcjoddgaaQFnExactFrmIntox0
import Derived.Test.YtfbdjimcjoddgaaQFnExactFrmIntox1
namespace Go.Proofs.Ytfbdjimcjoddgaa.QFnExactFrmInto
open Go.RowKit Go.Proofs.YtfbdjimcjoddgaaW.PrintWords Go.Proofs.YtfbdjimcjoddgaaW.PrintLast Go.Proofs.YtfbdjimcjoddgaaW.PrintMore Go.Proofs.Ytfbdjimcjoddgaa.HWords
attribute [local go_sem] max2_int min2_int max_two min_two max_three min_three max_four min_four   -- for this text's walks alone
set_option linter.unusedVariables false
set_option linter.unusedSimpArgs false

/-! ### laws_eqFrmFormS: function 19 -/
def laws_eqFrmFormS.l0 : Nat → List (S26) → List (S26) → Int → Option (Bool)
  | 0, _, _, _ => none
  | k + 1, x0, x1, x5 => if x5 < (x0.length : Int) then (if 0 ≤ x5 then (if x5 < (x1.length : Int) then ((laws_eqFrmForm.f k ((rd_T26 x0 x5).f0) ((rd_T26 x0 x5).f1) ((rd_T26 x0 x5).f2) ((rd_T26 x1 x5).f0) ((rd_T26 x1 x5).f1) ((rd_T26 x1 x5).f2)).bind fun t226 => (if t226 = true then (laws_eqFrmFormS.l0 k x0 x1 (wrap64 (x5 + 1))) else (some false))) else (none)) else (none)) else (some true)
def laws_eqFrmFormS.f (k : Nat) (l0 : List (S26)) (l1 : List (S26)) : Option (Bool) := if (l0.length : Int) = (l1.length : Int) then (laws_eqFrmFormS.l0 k l0 l1 0) else (some false)
theorem laws_eqFrmFormS.mono_l : ∀ k, (∀ y0 y1 y2, LeO (laws_eqFrmFormS.l0 k y0 y1 y2) (laws_eqFrmFormS.l0 (k + 1) y0 y1 y2))
  | 0 => fun _ _ _ r h => by simp [laws_eqFrmFormS.l0] at h
  | k + 1 => by
    have ih0 := laws_eqFrmFormS.mono_l k
    · intro y0 y1 y2
      unfold laws_eqFrmFormS.l0
      repeat' first
      | (with_reducible exact ih0 _ _ _)
      | (with_reducible exact laws_eqFrmForm.mono _ _ _ _ _ _ _)
      | (with_reducible exact LeO.refl _)
      | (with_reducible exact LeO.none _)
      | (with_reducible refine LeO.ite ?_ ?_)
      | (with_reducible refine LeO.bind ?_ (fun _ => ?_))
      | exact ih0 _ _ _
      | exact laws_eqFrmForm.mono _ _ _ _ _ _ _
      | exact LeO.none _
      | refine LeO.ite ?_ ?_
      | refine LeO.bind ?_ (fun _ => ?_)
theorem laws_eqFrmFormS.mono : ∀ a0 a1 k, LeO (laws_eqFrmFormS.f k a0 a1) (laws_eqFrmFormS.f (k + 1) a0 a1) := by
  intro a0 a1 k
  have ih0 := laws_eqFrmFormS.mono_l k
  unfold laws_eqFrmFormS.f
  repeat' first
      | (with_reducible exact ih0 _ _ _)
      | (with_reducible exact laws_eqFrmForm.mono _ _ _ _ _ _ _)
      | (with_reducible exact LeO.refl _)
      | (with_reducible exact LeO.none _)
      | (with_reducible refine LeO.ite ?_ ?_)
      | (with_reducible refine LeO.bind ?_ (fun _ => ?_))
      | exact ih0 _ _ _
      | exact laws_eqFrmForm.mono _ _ _ _ _ _ _
      | exact LeO.none _
      | refine LeO.ite ?_ ?_
      | refine LeO.bind ?_ (fun _ => ?_)
def laws_eqFrmFormS.T6 : Bool × List (List Nat × List Nat) := (true, [([], []), ([], []), ([0, 1], [0, 1]), ([2], [2]), ([], []), ([], []), ([4, 5], [4, 5]), ([6], [6]), ([3, 7], [3, 7]), ([8], [8])])
def laws_eqFrmFormS.B6 : List Nat := [0, 0, 3, 7, 0, 0, 48, 112, 255, 511]
theorem laws_eqFrmFormS.tab6 : rtab .any (opsOf Try.f19 6) = laws_eqFrmFormS.T6 := by kernel_rfl
theorem laws_eqFrmFormS.bits6 : waitsOk laws_eqFrmFormS.T6.2 laws_eqFrmFormS.B6 = true := by kernel_rfl
set_option maxHeartbeats 8000000 in
set_option maxRecDepth 100000 in
theorem laws_eqFrmFormS.calls (k : Nat) (A0 : Option Addr) (c0 : Nat) (l0 : List (S26)) (A1 : Option Addr) (c1 : Nat) (l1 : List (S26)) (r : Bool) (w : World) (hr0 : Kd.C k26 w A0 l0.length l0) (hc0 : l0.length ≤ c0) (hr1 : Kd.C k26 w A1 l1.length l1) (hc1 : l1.length ≤ c1) (h : laws_eqFrmFormS.f k l0 l1 = some r) :
    Calls Try.prog 19 #[.slice A0 l0.length c0, .slice A1 l1.length c1] w fun e w' => e = .returned (.bool r) ∧ Below w.heap.size w w' := by
  have hu26 := Try.underlying26
  have HR0 := Aside0.mk hr0
  have HC0 := Aside0.mk hc0
  clear hr0 hc0
  have HR1 := Aside0.mk hr1
  have HC1 := Aside0.mk hc1
  clear hr1 hc1
  have HB := Aside0.mk (Below.refl w.heap.size w)
  have H : (if (l0.length : Int) = (l1.length : Int) then (laws_eqFrmFormS.l0 k l0 l1 0) else (some false)) = some r := h
  clear h
  by_cases c3 : (l0.length : Int) = (l1.length : Int)
  · rw [if_pos c3] at H
    have c3b0 : ((l0.length : Int) == (l1.length : Int)) = true := beq_iff_eq.mpr c3
    have c3b1 : ((l0.length : Int) != (l1.length : Int)) = false := bne_eq_false_iff_eq.mpr c3
    have c3b2 : (l0.length == l1.length) = true := by first | simpa using c3 | (simp at c3 ⊢; omega)
    clear c3
    have H' := Aside0.mk H
    clear H
    go_enter Try.func19, Try.ntmps19
    go_wp2
    go_loopg [5] k (fun kq v5 w' => ∃ (x5_1 : Int), v5 = .int .i64 x5_1 ∧ Aside0 (laws_eqFrmFormS.l0 kq l0 l1 x5_1 = some r) ∧ Aside0 (kq ≤ k) ∧ Aside0 (Below w.heap.size w w'))
    case atStart => exact ⟨(0), (by first | rfl | (simp; done) | (simp [*]; done)), H', ⟨Nat.le_refl _⟩, ⟨by exact lB HB.out⟩⟩
    case round =>
      clear H'
      try clear c1
      try clear p2
      try clear c3
      try clear c3b0
      try clear c3b1
      try clear c3b2
      obtain ⟨x5_1, rfl, HA, HK1, HB⟩ := hrel
      cases gk with
      | zero => exact absurd HA.out (by simp [laws_eqFrmFormS.l0])
      | succ k1 =>
        have H := HA.out
        clear HA
        simp only [laws_eqFrmFormS.l0] at H
        by_cases c4 : x5_1 < (l0.length : Int)
        · rw [if_pos c4] at H
          have c4b0 : decide (x5_1 < (l0.length : Int)) = true := decide_eq_true c4
          clear c4
          by_cases c5 : 0 ≤ x5_1
          · rw [if_pos c5] at H
            have c5b0 : decide (0 ≤ x5_1) = true := decide_eq_true c5
            clear c5
            by_cases c6 : x5_1 < (l1.length : Int)
            · rw [if_pos c6] at H
              have c6b0 : decide (x5_1 < (l1.length : Int)) = true := decide_eq_true c6
              clear c6
              replace H := Option.bind_eq_some_iff.mp H
              obtain ⟨t226, A70, H⟩ := H
              replace H : (if t226 = true then (laws_eqFrmFormS.l0 k1 l0 l1 (wrap64 (x5_1 + 1))) else (some false)) = some r := H
              have A7 := Aside0.mk A70
              clear A70
              by_cases c8 : t226 = true
              · subst c8
                have H1 : (laws_eqFrmFormS.l0 k1 l0 l1 (wrap64 (x5_1 + 1))) = some r := by rw [if_pos rfl] at H; exact H
                clear H
                have H := H1
                clear H1
                have H' := Aside0.mk H
                clear H
                try go_wp2
                have n0_ := Aside0.mk (below_drew1 HB.out)
                clear HB
                have HB := n0_
                clear n0_
                have p224 : 0 ≤ (x5_1 : Int) := of_decide_eq_true (by first | (with_reducible assumption) | assumption)
                have q224 : x5_1 < (l0.length : Int) := of_decide_eq_true (by first | (with_reducible assumption) | assumption)
                obtain ⟨ad224, A224_0, c224_0, A224_1, c224_1, e224, hx224_0, hx224_1, hx224_2, hl224_0, hi224_0, hl224_1, hi224_1⟩ := at_T26 HR0.out x5_1 p224 q224
                have hw224_2 := hx224_2
                have hw224_1 := hx224_1
                have hw224_0 := hx224_0
                cases e224
                replace hx224_0 := (HB.out.cell (World.block_lt_of_cell? w _ hx224_0)).trans hx224_0
                replace hx224_1 := (HB.out.cell (World.block_lt_of_cell? w _ hx224_1)).trans hx224_1
                replace hx224_2 := (HB.out.cell (World.block_lt_of_cell? w _ hx224_2)).trans hx224_2
                have HR224_0 := Aside0.mk hi224_0
                have HC224_0 := Aside0.mk hl224_0
                clear hi224_0 hl224_0
                have HR224_1 := Aside0.mk hi224_1
                have HC224_1 := Aside0.mk hl224_1
                clear hi224_1 hl224_1
                replace p224 := eq_true p224
                replace q224 := eq_true q224
                have p225 : 0 ≤ (x5_1 : Int) := of_decide_eq_true (by first | (with_reducible assumption) | assumption)
                have q225 : x5_1 < (l1.length : Int) := of_decide_eq_true (by first | (with_reducible assumption) | assumption)
                obtain ⟨ad225, A225_0, c225_0, A225_1, c225_1, e225, hx225_0, hx225_1, hx225_2, hl225_0, hi225_0, hl225_1, hi225_1⟩ := at_T26 HR1.out x5_1 p225 q225
                have hw225_2 := hx225_2
                have hw225_1 := hx225_1
                have hw225_0 := hx225_0
                cases e225
                replace hx225_0 := (HB.out.cell (World.block_lt_of_cell? w _ hx225_0)).trans hx225_0
                replace hx225_1 := (HB.out.cell (World.block_lt_of_cell? w _ hx225_1)).trans hx225_1
                replace hx225_2 := (HB.out.cell (World.block_lt_of_cell? w _ hx225_2)).trans hx225_2
                have HR225_0 := Aside0.mk hi225_0
                have HC225_0 := Aside0.mk hl225_0
                clear hi225_0 hl225_0
                have HR225_1 := Aside0.mk hi225_1
                have HC225_1 := Aside0.mk hl225_1
                clear hi225_1 hl225_1
                replace p225 := eq_true p225
                replace q225 := eq_true q225
                refine start_ (n := 10) (S := fun w' => w'.cell? (ad224.add ((x5_1).toNat * 3)) = some (.slice A224_0 ((rd_T26 l0 x5_1).f0).length c224_0) ∧ w'.cell? ⟨(ad224.add ((x5_1).toNat * 3)).block, (ad224.add ((x5_1).toNat * 3)).off + 1, none⟩ = some (.slice A224_1 ((rd_T26 l0 x5_1).f1).length c224_1) ∧ w'.cell? ⟨(ad224.add ((x5_1).toNat * 3)).block, (ad224.add ((x5_1).toNat * 3)).off + 2, none⟩ = some (.int .i64 ((rd_T26 l0 x5_1).f2)) ∧ w'.cell? (ad225.add ((x5_1).toNat * 3)) = some (.slice A225_0 ((rd_T26 l1 x5_1).f0).length c225_0) ∧ w'.cell? ⟨(ad225.add ((x5_1).toNat * 3)).block, (ad225.add ((x5_1).toNat * 3)).off + 1, none⟩ = some (.slice A225_1 ((rd_T26 l1 x5_1).f1).length c225_1) ∧ w'.cell? ⟨(ad225.add ((x5_1).toNat * 3)).block, (ad225.add ((x5_1).toNat * 3)).off + 2, none⟩ = some (.int .i64 ((rd_T26 l1 x5_1).f2))) (ds := []) #[false, false, false, false, false, false, false, false, false, false] (by kernel_rfl) rfl rfl ⟨((HB.out.cell (World.block_lt_of_cell? w _ hw224_0)).trans hw224_0), ((HB.out.cell (World.block_lt_of_cell? w _ hw224_1)).trans hw224_1), ((HB.out.cell (World.block_lt_of_cell? w _ hw224_2)).trans hw224_2), ((HB.out.cell (World.block_lt_of_cell? w _ hw225_0)).trans hw225_0), ((HB.out.cell (World.block_lt_of_cell? w _ hw225_1)).trans hw225_1), ((HB.out.cell (World.block_lt_of_cell? w _ hw225_2)).trans hw225_2)⟩ (fun hHeld => ?_); refine with_tabW laws_eqFrmFormS.tab6 laws_eqFrmFormS.bits6 (fun HT_ HW_ => ?_)
                generalize wr.drew = w9 at HB HR224_0 HR224_1 HR225_0 HR225_1 hx224_0 hx224_1 hx224_2 hx225_0 hx225_1 hx225_2 hHeld ⊢
                refine pure_ (i := 0) (N := some 17) (v := ?_) (a' := ?_) #[true, false, false, false, false, false, false, false, false, false] rfl rfl (any_of HT_.out (by kernel_rfl)) (fun _ _ _ h => h) (Or.inl ⟨by rfl, ?_⟩) ?_ ?_
                rotate_left
                · intro w'
                  go_simp
                  with_reducible rfl
                rotate_left
                · simp only [Act.put, List.setIfInBounds_toArray, List.set_cons_zero, List.set_cons_succ, i64_w, i32_w]
                  rfl
                refine pure_ (i := 1) (N := some 18) (v := ?_) (a' := ?_) #[true, true, false, false, false, false, false, false, false, false] rfl rfl (any_of HT_.out (by kernel_rfl)) (fun _ _ _ h => h) (Or.inl ⟨by rfl, ?_⟩) ?_ ?_
                rotate_left
                · intro w'
                  go_simp
                  with_reducible rfl
                rotate_left
                · simp only [Act.put, List.setIfInBounds_toArray, List.set_cons_zero, List.set_cons_succ, i64_w, i32_w]
                  rfl
                refine pure_ (i := 2) (N := some 19) (v := ?_) (a' := ?_) #[true, true, true, false, false, false, false, false, false, false] rfl rfl (any_of HT_.out (by kernel_rfl)) (fun _ _ _ h => h) (Or.inl ⟨by rfl, ?_⟩) ?_ ?_
                rotate_left
                · intro w'
                  go_simp
                  with_reducible rfl
                rotate_left
                · simp only [Act.put, List.setIfInBounds_toArray, List.set_cons_zero, List.set_cons_succ, i64_w, i32_w]
                  rfl
                refine pure_ (i := 4) (N := some 21) (v := ?_) (a' := ?_) #[true, true, true, false, true, false, false, false, false, false] rfl rfl (any_of HT_.out (by kernel_rfl)) (fun _ _ _ h => h) (Or.inl ⟨by rfl, ?_⟩) ?_ ?_
                rotate_left
                · intro w'
                  go_simp
                  with_reducible rfl
                rotate_left
                · simp only [Act.put, List.setIfInBounds_toArray, List.set_cons_zero, List.set_cons_succ, i64_w, i32_w]
                  rfl
                refine pure_ (i := 5) (N := some 22) (v := ?_) (a' := ?_) #[true, true, true, false, true, true, false, false, false, false] rfl rfl (any_of HT_.out (by kernel_rfl)) (fun _ _ _ h => h) (Or.inl ⟨by rfl, ?_⟩) ?_ ?_
                rotate_left
                · intro w'
                  go_simp
                  with_reducible rfl
                rotate_left
                · simp only [Act.put, List.setIfInBounds_toArray, List.set_cons_zero, List.set_cons_succ, i64_w, i32_w]
                  rfl
                refine pure_ (i := 6) (N := some 23) (v := ?_) (a' := ?_) #[true, true, true, false, true, true, true, false, false, false] rfl rfl (any_of HT_.out (by kernel_rfl)) (fun _ _ _ h => h) (Or.inl ⟨by rfl, ?_⟩) ?_ ?_
                rotate_left
                · intro w'
                  go_simp
                  with_reducible rfl
                rotate_left
                · simp only [Act.put, List.setIfInBounds_toArray, List.set_cons_zero, List.set_cons_succ, i64_w, i32_w]
                  rfl
                refine take_ (i := 3) (N := some 20) (v := ?_) (a' := ?_) #[true, true, true, true, true, true, true, false, false, false] rfl rfl (take_ofW HT_.out HW_.out (by kernel_rfl)) (fun _ _ _ h => h) (Or.inl ⟨by rfl, ?_⟩) hHeld ?_ ?_
                rotate_left
                · rintro w' ⟨s0, s1, s2, s3, s4, s5⟩
                  go_simp
                  with_reducible rfl
                rotate_left
                · simp only [Act.put, List.setIfInBounds_toArray, List.set_cons_zero, List.set_cons_succ, i64_w, i32_w]
                  rfl
                refine take_ (i := 7) (N := some 24) (v := ?_) (a' := ?_) #[true, true, true, true, true, true, true, true, false, false] rfl rfl (take_ofW HT_.out HW_.out (by kernel_rfl)) (fun _ _ _ h => h) (Or.inl ⟨by rfl, ?_⟩) hHeld ?_ ?_
                rotate_left
                · rintro w' ⟨s0, s1, s2, s3, s4, s5⟩
                  go_simp
                  with_reducible rfl
                rotate_left
                · simp only [Act.put, List.setIfInBounds_toArray, List.set_cons_zero, List.set_cons_succ, i64_w, i32_w]
                  rfl
                refine one_ (i := 8) (N := some 25) #[true, true, true, true, true, true, true, true, true, false] rfl rfl (one_of HT_.out (by kernel_rfl)) (by decide) (fun K hK => ?_)
                refine goes_ Try.func12 (by kernel_rfl) rfl #[.agg #[.slice A224_0 ((rd_T26 l0 x5_1).f0).length c224_0, .slice A224_1 ((rd_T26 l0 x5_1).f1).length c224_1, .int .i64 ((rd_T26 l0 x5_1).f2)], .agg #[.slice A225_0 ((rd_T26 l1 x5_1).f0).length c225_0, .slice A225_1 ((rd_T26 l1 x5_1).f1).length c225_1, .int .i64 ((rd_T26 l1 x5_1).f2)]] (by rfl) rfl rfl (by (try simp only [List.map_toArray, List.map_cons, List.map_nil]); first | done | rfl | (simp only [List.length_drop, List.length_take]; rfl)) ?_
                with_reducible refine (laws_eqFrmForm.calls k1 _ _ ((rd_T26 l0 x5_1).f0) _ _ ((rd_T26 l0 x5_1).f1) ((rd_T26 l0 x5_1).f2) _ _ ((rd_T26 l1 x5_1).f0) _ _ ((rd_T26 l1 x5_1).f1) ((rd_T26 l1 x5_1).f2) true _ ?side1 ?side2 ?side3 ?side4 ?side5 ?side6 ?side7 ?side8 A7.out).mono ?_
                (case side1 => exact lC <| (Kd.C_below HR224_0.out HB.out))
                (case side2 => exact HC224_0.out)
                (case side3 => exact lC <| (Kd.C_below HR224_1.out HB.out))
                (case side4 => exact HC224_1.out)
                (case side5 => exact lC <| (Kd.C_below HR225_0.out HB.out))
                (case side6 => exact HC225_0.out)
                (case side7 => exact lC <| (Kd.C_below HR225_1.out HB.out))
                (case side8 => exact HC225_1.out)
                rintro e w10 ⟨rfl, hb⟩
                refine ⟨_, rfl, ?_⟩
                have n0_ := Aside0.mk (below_step (by exact lB HB.out) hb)
                clear HB
                have HB := n0_
                clear n0_
                (try clear hb)
                (try clear hb2)
                (try clear hk)
                (try clear hi)
                refine hK.out _ _ ⟨((HB.out.cell (World.block_lt_of_cell? w _ hw224_0)).trans hw224_0), ((HB.out.cell (World.block_lt_of_cell? w _ hw224_1)).trans hw224_1), ((HB.out.cell (World.block_lt_of_cell? w _ hw224_2)).trans hw224_2), ((HB.out.cell (World.block_lt_of_cell? w _ hw225_0)).trans hw225_0), ((HB.out.cell (World.block_lt_of_cell? w _ hw225_1)).trans hw225_1), ((HB.out.cell (World.block_lt_of_cell? w _ hw225_2)).trans hw225_2)⟩ (fun hHeld => ?_)
                clear hK K
                refine norm_ (a' := ?_) ?_ ?_
                rotate_left
                · show Act.put _ (some 25) _ = _
                  simp only [Act.put, List.setIfInBounds_toArray, List.set_cons_zero, List.set_cons_succ, i64_w, i32_w]
                  rfl
                refine pure_ (i := 9) (N := some 26) (v := ?_) (a' := ?_) #[true, true, true, true, true, true, true, true, true, true] rfl rfl (any_of HT_.out (by kernel_rfl)) (fun _ _ _ h => h) (Or.inl ⟨by rfl, ?_⟩) ?_ ?_
                rotate_left
                · intro w'
                  go_simp
                  with_reducible rfl
                rotate_left
                · simp only [Act.put, List.setIfInBounds_toArray, List.set_cons_zero, List.set_cons_succ, i64_w, i32_w]
                  rfl
                refine done_ (done_of HT_.out (by kernel_rfl)) ?_
                try go_wp2
                go_roundg k1
                case measure => have := HK1.out; omega
                case rel => exact ⟨(wrap64 (x5_1 + 1)), (by first | rfl | (simp; done) | (simp [*]; done)), H', ⟨by have := HK1.out; omega⟩, ⟨by exact lB HB.out⟩⟩
              · replace c8 := Bool.eq_false_iff.mpr c8
                subst c8
                have H1 : (some false) = some r := by rw [if_neg (show ¬ (false = true) by decide)] at H; exact H
                clear H
                have H := H1
                clear H1
                obtain rfl := Option.some.inj H
                try go_wp2
                have n0_ := Aside0.mk (below_drew1 HB.out)
                clear HB
                have HB := n0_
                clear n0_
                have p224 : 0 ≤ (x5_1 : Int) := of_decide_eq_true (by first | (with_reducible assumption) | assumption)
                have q224 : x5_1 < (l0.length : Int) := of_decide_eq_true (by first | (with_reducible assumption) | assumption)
                obtain ⟨ad224, A224_0, c224_0, A224_1, c224_1, e224, hx224_0, hx224_1, hx224_2, hl224_0, hi224_0, hl224_1, hi224_1⟩ := at_T26 HR0.out x5_1 p224 q224
                have hw224_2 := hx224_2
                have hw224_1 := hx224_1
                have hw224_0 := hx224_0
                cases e224
                replace hx224_0 := (HB.out.cell (World.block_lt_of_cell? w _ hx224_0)).trans hx224_0
                replace hx224_1 := (HB.out.cell (World.block_lt_of_cell? w _ hx224_1)).trans hx224_1
                replace hx224_2 := (HB.out.cell (World.block_lt_of_cell? w _ hx224_2)).trans hx224_2
                have HR224_0 := Aside0.mk hi224_0
                have HC224_0 := Aside0.mk hl224_0
                clear hi224_0 hl224_0
                have HR224_1 := Aside0.mk hi224_1
                have HC224_1 := Aside0.mk hl224_1
                clear hi224_1 hl224_1
                replace p224 := eq_true p224
                replace q224 := eq_true q224
                have p225 : 0 ≤ (x5_1 : Int) := of_decide_eq_true (by first | (with_reducible assumption) | assumption)
                have q225 : x5_1 < (l1.length : Int) := of_decide_eq_true (by first | (with_reducible assumption) | assumption)
                obtain ⟨ad225, A225_0, c225_0, A225_1, c225_1, e225, hx225_0, hx225_1, hx225_2, hl225_0, hi225_0, hl225_1, hi225_1⟩ := at_T26 HR1.out x5_1 p225 q225
                have hw225_2 := hx225_2
                have hw225_1 := hx225_1
                have hw225_0 := hx225_0
                cases e225
                replace hx225_0 := (HB.out.cell (World.block_lt_of_cell? w _ hx225_0)).trans hx225_0
                replace hx225_1 := (HB.out.cell (World.block_lt_of_cell? w _ hx225_1)).trans hx225_1
                replace hx225_2 := (HB.out.cell (World.block_lt_of_cell? w _ hx225_2)).trans hx225_2
                have HR225_0 := Aside0.mk hi225_0
                have HC225_0 := Aside0.mk hl225_0
                clear hi225_0 hl225_0
                have HR225_1 := Aside0.mk hi225_1
                have HC225_1 := Aside0.mk hl225_1
                clear hi225_1 hl225_1
                replace p225 := eq_true p225
                replace q225 := eq_true q225
                refine start_ (n := 10) (S := fun w' => w'.cell? (ad224.add ((x5_1).toNat * 3)) = some (.slice A224_0 ((rd_T26 l0 x5_1).f0).length c224_0) ∧ w'.cell? ⟨(ad224.add ((x5_1).toNat * 3)).block, (ad224.add ((x5_1).toNat * 3)).off + 1, none⟩ = some (.slice A224_1 ((rd_T26 l0 x5_1).f1).length c224_1) ∧ w'.cell? ⟨(ad224.add ((x5_1).toNat * 3)).block, (ad224.add ((x5_1).toNat * 3)).off + 2, none⟩ = some (.int .i64 ((rd_T26 l0 x5_1).f2)) ∧ w'.cell? (ad225.add ((x5_1).toNat * 3)) = some (.slice A225_0 ((rd_T26 l1 x5_1).f0).length c225_0) ∧ w'.cell? ⟨(ad225.add ((x5_1).toNat * 3)).block, (ad225.add ((x5_1).toNat * 3)).off + 1, none⟩ = some (.slice A225_1 ((rd_T26 l1 x5_1).f1).length c225_1) ∧ w'.cell? ⟨(ad225.add ((x5_1).toNat * 3)).block, (ad225.add ((x5_1).toNat * 3)).off + 2, none⟩ = some (.int .i64 ((rd_T26 l1 x5_1).f2))) (ds := []) #[false, false, false, false, false, false, false, false, false, false] (by kernel_rfl) rfl rfl ⟨((HB.out.cell (World.block_lt_of_cell? w _ hw224_0)).trans hw224_0), ((HB.out.cell (World.block_lt_of_cell? w _ hw224_1)).trans hw224_1), ((HB.out.cell (World.block_lt_of_cell? w _ hw224_2)).trans hw224_2), ((HB.out.cell (World.block_lt_of_cell? w _ hw225_0)).trans hw225_0), ((HB.out.cell (World.block_lt_of_cell? w _ hw225_1)).trans hw225_1), ((HB.out.cell (World.block_lt_of_cell? w _ hw225_2)).trans hw225_2)⟩ (fun hHeld => ?_); refine with_tabW laws_eqFrmFormS.tab6 laws_eqFrmFormS.bits6 (fun HT_ HW_ => ?_)
                generalize wr.drew = w11 at HB HR224_0 HR224_1 HR225_0 HR225_1 hx224_0 hx224_1 hx224_2 hx225_0 hx225_1 hx225_2 hHeld ⊢
                refine pure_ (i := 0) (N := some 17) (v := ?_) (a' := ?_) #[true, false, false, false, false, false, false, false, false, false] rfl rfl (any_of HT_.out (by kernel_rfl)) (fun _ _ _ h => h) (Or.inl ⟨by rfl, ?_⟩) ?_ ?_
                rotate_left
                · intro w'
                  go_simp
                  with_reducible rfl
                rotate_left
                · simp only [Act.put, List.setIfInBounds_toArray, List.set_cons_zero, List.set_cons_succ, i64_w, i32_w]
                  rfl
                refine pure_ (i := 1) (N := some 18) (v := ?_) (a' := ?_) #[true, true, false, false, false, false, false, false, false, false] rfl rfl (any_of HT_.out (by kernel_rfl)) (fun _ _ _ h => h) (Or.inl ⟨by rfl, ?_⟩) ?_ ?_
                rotate_left
                · intro w'
                  go_simp
                  with_reducible rfl
                rotate_left
                · simp only [Act.put, List.setIfInBounds_toArray, List.set_cons_zero, List.set_cons_succ, i64_w, i32_w]
                  rfl
                refine pure_ (i := 2) (N := some 19) (v := ?_) (a' := ?_) #[true, true, true, false, false, false, false, false, false, false] rfl rfl (any_of HT_.out (by kernel_rfl)) (fun _ _ _ h => h) (Or.inl ⟨by rfl, ?_⟩) ?_ ?_
                rotate_left
                · intro w'
                  go_simp
                  with_reducible rfl
                rotate_left
                · simp only [Act.put, List.setIfInBounds_toArray, List.set_cons_zero, List.set_cons_succ, i64_w, i32_w]
                  rfl
                refine pure_ (i := 4) (N := some 21) (v := ?_) (a' := ?_) #[true, true, true, false, true, false, false, false, false, false] rfl rfl (any_of HT_.out (by kernel_rfl)) (fun _ _ _ h => h) (Or.inl ⟨by rfl, ?_⟩) ?_ ?_
                rotate_left
                · intro w'
                  go_simp
                  with_reducible rfl
                rotate_left
                · simp only [Act.put, List.setIfInBounds_toArray, List.set_cons_zero, List.set_cons_succ, i64_w, i32_w]
                  rfl
                refine pure_ (i := 5) (N := some 22) (v := ?_) (a' := ?_) #[true, true, true, false, true, true, false, false, false, false] rfl rfl (any_of HT_.out (by kernel_rfl)) (fun _ _ _ h => h) (Or.inl ⟨by rfl, ?_⟩) ?_ ?_
                rotate_left
                · intro w'
                  go_simp
                  with_reducible rfl
                rotate_left
                · simp only [Act.put, List.setIfInBounds_toArray, List.set_cons_zero, List.set_cons_succ, i64_w, i32_w]
                  rfl
                refine pure_ (i := 6) (N := some 23) (v := ?_) (a' := ?_) #[true, true, true, false, true, true, true, false, false, false] rfl rfl (any_of HT_.out (by kernel_rfl)) (fun _ _ _ h => h) (Or.inl ⟨by rfl, ?_⟩) ?_ ?_
                rotate_left
                · intro w'
                  go_simp
                  with_reducible rfl
                rotate_left
                · simp only [Act.put, List.setIfInBounds_toArray, List.set_cons_zero, List.set_cons_succ, i64_w, i32_w]
                  rfl
                refine take_ (i := 3) (N := some 20) (v := ?_) (a' := ?_) #[true, true, true, true, true, true, true, false, false, false] rfl rfl (take_ofW HT_.out HW_.out (by kernel_rfl)) (fun _ _ _ h => h) (Or.inl ⟨by rfl, ?_⟩) hHeld ?_ ?_
                rotate_left
                · rintro w' ⟨s0, s1, s2, s3, s4, s5⟩
                  go_simp
                  with_reducible rfl
                rotate_left
                · simp only [Act.put, List.setIfInBounds_toArray, List.set_cons_zero, List.set_cons_succ, i64_w, i32_w]
                  rfl
                refine take_ (i := 7) (N := some 24) (v := ?_) (a' := ?_) #[true, true, true, true, true, true, true, true, false, false] rfl rfl (take_ofW HT_.out HW_.out (by kernel_rfl)) (fun _ _ _ h => h) (Or.inl ⟨by rfl, ?_⟩) hHeld ?_ ?_
                rotate_left
                · rintro w' ⟨s0, s1, s2, s3, s4, s5⟩
                  go_simp
                  with_reducible rfl
                rotate_left
                · simp only [Act.put, List.setIfInBounds_toArray, List.set_cons_zero, List.set_cons_succ, i64_w, i32_w]
                  rfl
                refine one_ (i := 8) (N := some 25) #[true, true, true, true, true, true, true, true, true, false] rfl rfl (one_of HT_.out (by kernel_rfl)) (by decide) (fun K hK => ?_)
                refine goes_ Try.func12 (by kernel_rfl) rfl #[.agg #[.slice A224_0 ((rd_T26 l0 x5_1).f0).length c224_0, .slice A224_1 ((rd_T26 l0 x5_1).f1).length c224_1, .int .i64 ((rd_T26 l0 x5_1).f2)], .agg #[.slice A225_0 ((rd_T26 l1 x5_1).f0).length c225_0, .slice A225_1 ((rd_T26 l1 x5_1).f1).length c225_1, .int .i64 ((rd_T26 l1 x5_1).f2)]] (by rfl) rfl rfl (by (try simp only [List.map_toArray, List.map_cons, List.map_nil]); first | done | rfl | (simp only [List.length_drop, List.length_take]; rfl)) ?_
                with_reducible refine (laws_eqFrmForm.calls k1 _ _ ((rd_T26 l0 x5_1).f0) _ _ ((rd_T26 l0 x5_1).f1) ((rd_T26 l0 x5_1).f2) _ _ ((rd_T26 l1 x5_1).f0) _ _ ((rd_T26 l1 x5_1).f1) ((rd_T26 l1 x5_1).f2) false _ ?side1 ?side2 ?side3 ?side4 ?side5 ?side6 ?side7 ?side8 A7.out).mono ?_
                (case side1 => exact lC <| (Kd.C_below HR224_0.out HB.out))
                (case side2 => exact HC224_0.out)
                (case side3 => exact lC <| (Kd.C_below HR224_1.out HB.out))
                (case side4 => exact HC224_1.out)
                (case side5 => exact lC <| (Kd.C_below HR225_0.out HB.out))
                (case side6 => exact HC225_0.out)
                (case side7 => exact lC <| (Kd.C_below HR225_1.out HB.out))
                (case side8 => exact HC225_1.out)
                rintro e w12 ⟨rfl, hb⟩
                refine ⟨_, rfl, ?_⟩
                have n0_ := Aside0.mk (below_step (by exact lB HB.out) hb)
                clear HB
                have HB := n0_
                clear n0_
                (try clear hb)
                (try clear hb2)
                (try clear hk)
                (try clear hi)
                refine hK.out _ _ ⟨((HB.out.cell (World.block_lt_of_cell? w _ hw224_0)).trans hw224_0), ((HB.out.cell (World.block_lt_of_cell? w _ hw224_1)).trans hw224_1), ((HB.out.cell (World.block_lt_of_cell? w _ hw224_2)).trans hw224_2), ((HB.out.cell (World.block_lt_of_cell? w _ hw225_0)).trans hw225_0), ((HB.out.cell (World.block_lt_of_cell? w _ hw225_1)).trans hw225_1), ((HB.out.cell (World.block_lt_of_cell? w _ hw225_2)).trans hw225_2)⟩ (fun hHeld => ?_)
                clear hK K
                refine norm_ (a' := ?_) ?_ ?_
                rotate_left
                · show Act.put _ (some 25) _ = _
                  simp only [Act.put, List.setIfInBounds_toArray, List.set_cons_zero, List.set_cons_succ, i64_w, i32_w]
                  rfl
                refine pure_ (i := 9) (N := some 26) (v := ?_) (a' := ?_) #[true, true, true, true, true, true, true, true, true, true] rfl rfl (any_of HT_.out (by kernel_rfl)) (fun _ _ _ h => h) (Or.inl ⟨by rfl, ?_⟩) ?_ ?_
                rotate_left
                · intro w'
                  go_simp
                  with_reducible rfl
                rotate_left
                · simp only [Act.put, List.setIfInBounds_toArray, List.set_cons_zero, List.set_cons_succ, i64_w, i32_w]
                  rfl
                refine done_ (done_of HT_.out (by kernel_rfl)) ?_
                try go_wp2
                go_ret
                exact ⟨by first | rfl | (simp [errW_none, errW_some] <;> rfl) | (simp [*, errW_none, errW_some] <;> rfl), by exact lB HB.out⟩
            · rw [if_neg c6] at H
              exact absurd H (by simp)
          · rw [if_neg c5] at H
            exact absurd H (by simp)
        · rw [if_neg c4] at H
          have c4b0 : decide (x5_1 < (l0.length : Int)) = false := decide_eq_false c4
          clear c4
          obtain rfl := Option.some.inj H
          go_wp2
          go_ret
          exact ⟨by first | rfl | (simp [errW_none, errW_some] <;> rfl) | (simp [*, errW_none, errW_some] <;> rfl), by exact lB HB.out⟩
  · rw [if_neg c3] at H
    have c3b0 : ((l0.length : Int) == (l1.length : Int)) = false := beq_eq_false_iff_ne.mpr c3
    have c3b1 : ((l0.length : Int) != (l1.length : Int)) = true := bne_iff_ne.mpr c3
    have c3b2 : (l0.length == l1.length) = false := by first | simpa using c3 | (simp at c3 ⊢; omega)
    obtain rfl := Option.some.inj H
    go_enter Try.func19, Try.ntmps19
    go_wp2
    go_ret
    exact ⟨by first | rfl | (simp [errW_none, errW_some] <;> rfl) | (simp [*, errW_none, errW_some] <;> rfl), by exact lB HB.out⟩

/-! ### laws_markFrmFormS: function 20, by hand -/
/-- What marking leaves of a world: blocks of whole numbers and of forms keep their sizes, forms their slices; all but P's blocks are as they were. -/
structure Marked (w0 : World) (P : Nat → Prop) (w W : World) : Prop where
  below : Below w0.heap.size w0 W
  kept : Kept w W P
  ints : ∀ (k : Nat) (cs : Array Value), w.heap[k]? = some (.cells cs 3 (0, 0)) → ∃ cs' : Array Value, W.heap[k]? = some (.cells cs' 3 (0, 0)) ∧ cs'.size = cs.size
  rows : ∀ (k : Nat) (cs : Array Value), w.heap[k]? = some (.cells cs 26 (0, 0)) → ∃ cs' : Array Value, W.heap[k]? = some (.cells cs' 26 (0, 0)) ∧ cs'.size = cs.size ∧ ∀ j, j % 3 ≠ 2 → cs'[j]? = cs[j]?
theorem Marked.refl {w0 : World} {P : Nat → Prop} {w : World} (hB : Below w0.heap.size w0 w) : Marked w0 P w w := ⟨hB, Kept.refl _ _, fun _ cs h => ⟨cs, h, rfl⟩, fun _ cs h => ⟨cs, h, rfl, fun _ _ => rfl⟩⟩
theorem Marked.later {w0 : World} {P : Nat → Prop} {w W W' : World} (h : Marked w0 P w W) (hb : Below W.heap.size W W') : Marked w0 P w W' :=
  ⟨below_step h.below hb, h.kept.below hb, fun k cs hk => by obtain ⟨c, a, b⟩ := h.ints k cs hk; exact ⟨c, blk_below a hb, b⟩, fun k cs hk => by obtain ⟨c, a, b⟩ := h.rows k cs hk; exact ⟨c, blk_below a hb, b⟩⟩
theorem Marked.trans {w0 : World} {P : Nat → Prop} {w W W' : World} (h : Marked w0 P w W) (h' : Marked w0 P W W') : Marked w0 P w W' :=
  ⟨h'.below, h.kept.then_ h'.kept (fun _ hk => .inl hk), fun k cs hk => by obtain ⟨c, a, b⟩ := h.ints k cs hk; obtain ⟨c', a', b'⟩ := h'.ints k c a; exact ⟨c', a', b'.trans b⟩,
    fun k cs hk => by obtain ⟨c, a, b, d⟩ := h.rows k cs hk; obtain ⟨c', a', b', d'⟩ := h'.rows k c a; exact ⟨c', a', b'.trans b, fun j hj => (d' j hj).trans (d j hj)⟩⟩
theorem Marked.putInt {w0 : World} {P : Nat → Prop} {w W : World} (h : Marked w0 P w W) {b : Nat} (i : Nat) {cs : Array Value} (hc : W.heap[b]? = some (.cells cs 3 (0, 0))) (hb : w0.heap.size ≤ b) (hP : P b) (u : Value) : Marked w0 P w (W.setCell ⟨b, i, none⟩ u) :=
  ⟨h.below.setCell (p := ⟨b, i, none⟩) hb u, Kept.setCell (p := ⟨b, i, none⟩) h.kept (.inl hP) u,
   fun k cs0 hk => by
    obtain ⟨c, a, s⟩ := h.ints k cs0 hk
    by_cases e : k = b
    · subst e
      exact ⟨_, blk_put a i u rfl, by rw [Array.size_setIfInBounds, s]⟩
    · exact ⟨c, blk_far a (p := ⟨b, i, none⟩) e u, s⟩,
   fun k cs0 hk => by
    obtain ⟨c, a, s⟩ := h.rows k cs0 hk
    have e : k ≠ b := fun e => by subst e; rw [hc] at a; simp at a
    exact ⟨c, blk_far a (p := ⟨b, i, none⟩) e u, s⟩⟩
theorem Marked.putRow {w0 : World} {P : Nat → Prop} {w W : World} (h : Marked w0 P w W) {b : Nat} (i : Nat) {cs : Array Value} (hc : W.heap[b]? = some (.cells cs 26 (0, 0))) (hb : w0.heap.size ≤ b) (hP : P b) (hi : i % 3 = 2) (u : Value) : Marked w0 P w (W.setCell ⟨b, i, none⟩ u) :=
  ⟨h.below.setCell (p := ⟨b, i, none⟩) hb u, Kept.setCell (p := ⟨b, i, none⟩) h.kept (.inl hP) u,
   fun k cs0 hk => by
    obtain ⟨c, a, s⟩ := h.ints k cs0 hk
    have e : k ≠ b := fun e => by subst e; rw [hc] at a; simp at a
    exact ⟨c, blk_far a (p := ⟨b, i, none⟩) e u, s⟩,
   fun k cs0 hk => by
    obtain ⟨c, a, s, d⟩ := h.rows k cs0 hk
    by_cases e : k = b
    · subst e
      refine ⟨_, blk_put a i u rfl, by rw [Array.size_setIfInBounds, s], fun j hj => ?_⟩
      rw [Array.getElem?_setIfInBounds_ne (fun e => hj (by omega))]
      exact d j hj
    · exact ⟨c, blk_far a (p := ⟨b, i, none⟩) e u, s, d⟩⟩
/-- A slice of n whole numbers of one's own, by its shape alone. -/
def slotOk (w : World) (base : Nat) (P : Nat → Prop) (v : Value) (n : Nat) : Prop :=
  ∃ A c, v = .slice A n c ∧ n ≤ 9223372036854775807 ∧ (0 < n → ∃ (b : Nat) (cs : Array Value), A = some ⟨b, 0, none⟩ ∧ base ≤ b ∧ P b ∧ w.heap[b]? = some (.cells cs 3 (0, 0)) ∧ n ≤ cs.size)
theorem slotOk.go {w0 : World} {P Q : Nat → Prop} {w W : World} {base : Nat} {v : Value} {n : Nat} (hs : slotOk w base P v n) (h : Marked w0 Q w W) : slotOk W base P v n := by
  obtain ⟨A, c, e, hn, hp⟩ := hs
  refine ⟨A, c, e, hn, fun h0 => ?_⟩
  obtain ⟨b, cs, h1, h2, h3, h4, h5⟩ := hp h0
  obtain ⟨cs', a, s⟩ := h.ints b cs h4
  exact ⟨b, cs', h1, h2, h3, a, by omega⟩
theorem slotOk.mono {P Q : Nat → Prop} {w : World} {base : Nat} {v : Value} {n : Nat} (hs : slotOk w base P v n) (h : ∀ k, P k → Q k) : slotOk w base Q v n := by
  obtain ⟨A, c, e, hn, hp⟩ := hs
  exact ⟨A, c, e, hn, fun h0 => by obtain ⟨b, cs, h1, h2, h3, h4, h5⟩ := hp h0; exact ⟨b, cs, h1, h2, h _ h3, h4, h5⟩⟩
theorem slotOk.of_R {w : World} {base : Nat} {ok : Nat → Prop} {v : Value} {xs : List Int} (h : Kd.R (Kd.int .i64) 3 w base ok v xs) : slotOk w base ok v xs.length := by
  obtain ⟨A, c, rfl⟩ := Kd.R_slice h
  have hm := Kd.C_max (Kd.R_reads' h).2.2
  refine ⟨A, c, rfl, hm, fun h0 => ?_⟩
  obtain ⟨b, cap, e, hb, hl, cells, hc⟩ := Kd.R_form h h0
  injection e with e1 e2 e3
  subst e1
  obtain ⟨hx, _⟩ := Kd.R_celln 0 h ((xs.length - 1 : Nat) : Int) (by omega) (by omega)
  rw [show (((xs.length - 1 : Nat) : Int)).toNat = xs.length - 1 from by omega] at hx
  have hx' : w.cell? ⟨b, xs.length - 1, none⟩ = some (.int .i64 (rd xs ((xs.length - 1 : Nat) : Int))) := hx
  rw [blk_cell hc] at hx'
  have := (Array.getElem?_eq_some_iff.1 hx').1
  exact ⟨b, cells, rfl, hb, h.1 b rfl, hc, by omega⟩
set_option maxHeartbeats 2000000 in
theorem markI (P : Nat → Prop) (v : Value) (n : Nat) (a : Int) (w0 W : World) (hB : Below w0.heap.size w0 W) (hs : slotOk W w0.heap.size P v n) (ha : 0 ≤ a) (hb : a + n ≤ 4611686018427387904) :
    Calls Try.prog 34 #[v, .int .i64 a] W fun e W' => e = .returned (.int .i64 (a + n)) ∧ Marked w0 P W W' := by
  obtain ⟨A, c, rfl, hn, hp⟩ := hs
  have HP := Aside0.mk hp
  have HM := Aside0.mk (Marked.refl (P := P) hB)
  clear hp hB
  go_enter Try.func34, Try.ntmps34
  go_wp2
  go_loopg [1, 5] n (fun gg v1 v5 wr => ∃ x : Int, v5 = .int .i64 x ∧ v1 = .int .i64 (a + x) ∧ Aside0 (0 ≤ x ∧ x ≤ n ∧ (n : Int) - x ≤ gg) ∧ Aside0 (Marked w0 P W wr))
  case atStart => exact ⟨0, rfl, by rw [Int.add_zero], ⟨by omega, by omega, by omega⟩, HM⟩
  case round =>
    clear HM
    obtain ⟨x, rfl, rfl, HX, HM⟩ := hrel
    have p1 := HX.out.1
    by_cases hlt : x < (n : Int)
    · obtain ⟨b, cs, hA, hb1, hPb, hW, hsz⟩ := HP.out (by omega)
      cases hA
      obtain ⟨cs', h1, h2⟩ := HM.out.ints b cs hW
      have hi : x.toNat < cs'.size := by omega
      have hx : wr.cell? ⟨b, x.toNat, none⟩ = some cs'[x.toNat] := (blk_cell h1 _).trans (Array.getElem?_eq_getElem hi)
      have hz := blk_frozen h1 x.toNat
      have H1 := Aside0.mk h1
      generalize cs'[x.toNat] = u at hx
      have hw1 : wrap64 (a + x + 1) = a + (x + 1) := by unfold wrap64; omega
      clear h1 h2 hi hW hsz
      go_wp2
      go_roundg (n - (x.toNat + 1))
      case measure => have := HX.out; omega
      case rel => exact ⟨x + 1, by go_num, by first | rfl | rw [hw1] | rw [Int.add_assoc], ⟨by have := HX.out; omega, by have := HX.out; omega, by have := HX.out; omega⟩, ⟨HM.out.putInt _ H1.out hb1 hPb _⟩⟩
    · have hx9 : x = n := by have := HX.out; omega
      subst hx9
      go_wp2
      go_ret
      exact ⟨rfl, HM.out⟩
/-- So many numbers and forms are in forms. -/
def totF : List (S26) → Int
  | [] => 0
  | x :: l => (x.f0.length : Int) + (x.f1.length : Int) + 1 + totF l
theorem totF_append : ∀ (a b : List (S26)), totF (a ++ b) = totF a + totF b
  | [], b => by simp [totF]
  | x :: a, b => by simp only [List.cons_append, totF, totF_append a b]; omega
theorem totF_nn : ∀ (a : List (S26)), 0 ≤ totF a
  | [] => by simp [totF]
  | x :: a => by have := totF_nn a; simp only [totF]; omega
theorem totF_take (l : List (S26)) (n : Nat) : totF (l.take n) ≤ totF l := by
  have e := totF_append (l.take n) (l.drop n)
  rw [List.take_append_drop] at e
  have := totF_nn (l.drop n)
  omega
theorem totF_step (l : List (S26)) (x : Int) (h0 : 0 ≤ x) (h1 : x < (l.length : Int)) : totF (l.take (x + 1).toNat) = totF (l.take x.toNat) + ((rd_T26 l x).f0.length : Int) + ((rd_T26 l x).f1.length : Int) + 1 := by
  have hl : x.toNat < l.length := by omega
  rw [show (x + 1).toNat = x.toNat + 1 from by omega, List.take_succ_eq_append_getElem hl, totF_append, show rd_T26 l x = l[x.toNat] from by unfold rd_T26; rw [List.getD_eq_getElem?_getD, List.getElem?_eq_getElem hl]; rfl]
  simp only [totF]
  omega
/-- A row of forms of one's own, by its shape alone. -/
def rowOkW (w : World) (base : Nat) (P : Nat → Prop) (v : Value) (l : List (S26)) : Prop :=
  ∃ A c, v = .slice A l.length c ∧ l.length ≤ 9223372036854775807 ∧ (0 < l.length → ∃ (g : Nat) (cs : Array Value), A = some ⟨g, 0, none⟩ ∧ base ≤ g ∧ P g ∧ w.heap[g]? = some (.cells cs 26 (0, 0)) ∧
    ∀ x : Int, 0 ≤ x → x < (l.length : Int) → ∃ v0 v1 : Value, cs[x.toNat * 3]? = some v0 ∧ cs[x.toNat * 3 + 1]? = some v1 ∧ x.toNat * 3 + 2 < cs.size ∧ slotOk w base P v0 (rd_T26 l x).f0.length ∧ slotOk w base P v1 (rd_T26 l x).f1.length)
theorem rowOkW.go {w0 : World} {P Q : Nat → Prop} {w W : World} {base : Nat} {v : Value} {l : List (S26)} (hs : rowOkW w base P v l) (h : Marked w0 Q w W) : rowOkW W base P v l := by
  obtain ⟨A, c, e, hn, hp⟩ := hs
  refine ⟨A, c, e, hn, fun h0 => ?_⟩
  obtain ⟨g, cs, h1, h2, h3, h4, h5⟩ := hp h0
  obtain ⟨cs', a, s, d⟩ := h.rows g cs h4
  refine ⟨g, cs', h1, h2, h3, a, fun x x0 x1 => ?_⟩
  obtain ⟨v0, v1, q0, q1, q2, q3, q4⟩ := h5 x x0 x1
  exact ⟨v0, v1, (d _ (by omega)).trans q0, (d _ (by omega)).trans q1, by omega, q3.go h, q4.go h⟩
theorem rowOkW.mono {P Q : Nat → Prop} {w : World} {base : Nat} {v : Value} {l : List (S26)} (hs : rowOkW w base P v l) (h : ∀ k, P k → Q k) : rowOkW w base Q v l := by
  obtain ⟨A, c, e, hn, hp⟩ := hs
  refine ⟨A, c, e, hn, fun h0 => ?_⟩
  obtain ⟨g, cs, h1, h2, h3, h4, h5⟩ := hp h0
  refine ⟨g, cs, h1, h2, h _ h3, h4, fun x x0 x1 => ?_⟩
  obtain ⟨v0, v1, q0, q1, q2, q3, q4⟩ := h5 x x0 x1
  exact ⟨v0, v1, q0, q1, q2, q3.mono h, q4.mono h⟩
theorem rowOkW.of_S {w : World} {base : Nat} {ok : Nat → Prop} {v : Value} {l : List (S26)} (hS : Kd.S k26 26 w base ok v l) : rowOkW w base ok v l := by
  have h := Kd.S_R hS
  obtain ⟨A, c, rfl⟩ := Kd.R_slice h
  have hm := Kd.C_max (Kd.R_reads' h).2.2
  refine ⟨A, c, rfl, hm, fun h0 => ?_⟩
  obtain ⟨b, cap, e, hb, hl, cells, hc⟩ := Kd.R_form h h0
  injection e with e1 e2 e3
  subst e1
  refine ⟨b, cells, rfl, hb, h.1 b rfl, hc, fun x x0 x1 => ?_⟩
  obtain ⟨ce, hcl, hM, hcc, _⟩ := Kd.R_elem h z26 x x0 x1
  obtain ⟨v0, v1, rfl, g0, g1⟩ := k26_openM hM
  have q0' : w.cell? ⟨b, x.toNat * 3, none⟩ = some v0 := hcc 0 _ rfl
  have q1' : w.cell? ⟨b, x.toNat * 3 + 1, none⟩ = some v1 := hcc 1 _ rfl
  have q2' : ∃ u, w.cell? ⟨b, x.toNat * 3 + 2, none⟩ = some u := ⟨_, hcc 2 _ rfl⟩
  rw [blk_cell hc] at q0' q1' q2'
  obtain ⟨u, q2'⟩ := q2'
  exact ⟨v0, v1, q0', q1', (Array.getElem?_eq_some_iff.1 q2').1, (slotOk.of_R g0).mono (fun _ hk => hk.1), (slotOk.of_R g1).mono (fun _ hk => hk.1)⟩
set_option maxHeartbeats 4000000 in
set_option maxRecDepth 100000 in
theorem markF (P : Nat → Prop) (v : Value) (l : List (S26)) (a : Int) (w0 W : World) (hB : Below w0.heap.size w0 W) (hs : rowOkW W w0.heap.size P v l) (ha : 0 ≤ a) (hb : a + totF l ≤ 4611686018427387904) :
    Calls Try.prog 20 #[v, .int .i64 a] W fun e W' => e = .returned (.int .i64 (a + totF l)) ∧ Marked w0 P W W' := by
  have HS := Aside0.mk hs
  obtain ⟨A, c, rfl, hn, hp⟩ := hs
  have HM := Aside0.mk (Marked.refl (P := P) hB)
  clear hp hB
  go_enter Try.func20, Try.ntmps20
  go_wp2
  go_loopg [1, 5] l.length (fun gg v1 v5 wr => ∃ (x : Int) (s : Int), v5 = .int .i64 x ∧ v1 = .int .i64 (a + s) ∧ Aside0 (s = totF (l.take x.toNat)) ∧ Aside0 (0 ≤ x ∧ x ≤ l.length ∧ (l.length : Int) - x ≤ gg) ∧ Aside0 (Marked w0 P W wr))
  case atStart => exact ⟨0, 0, rfl, by rw [Int.add_zero], ⟨by simp [totF]⟩, ⟨by omega, by omega, by omega⟩, HM⟩
  case round =>
    clear HM
    obtain ⟨x, s, rfl, rfl, HE, HX, HM⟩ := hrel
    have p1 := HX.out.1
    by_cases hlt : x < (l.length : Int)
    · have hs2 := HS.out.go HM.out
      obtain ⟨A9, c9, e9, hn9, hp9⟩ := hs2
      injection e9 with e1 e2 e3
      subst e1 e3
      obtain ⟨g, cs, hA, hb1, hPb, hW, hsl⟩ := hp9 (by omega)
      cases hA
      obtain ⟨v0, v1, q0, q1, q2, q3, q4⟩ := hsl x p1 hlt
      have hst := totF_step l x p1 hlt
      have htk := totF_take l (x + 1).toNat
      have hnn := totF_nn (l.take x.toNat)
      rw [← HE.out] at hst hnn
      generalize (rd_T26 l x).f0.length = n0 at q3 hst
      generalize (rd_T26 l x).f1.length = n1 at q4 hst
      have HBw := Aside0.mk HM.out.below
      have H0 := Aside0.mk (markI P v0 n0 (a + s) w0 wr HM.out.below q3 (by omega) (by omega))
      have H1 := Aside0.mk (fun (W1 : World) (M1 : Marked w0 P wr W1) => markI P v1 n1 (a + s + n0) w0 W1 M1.below (q4.go M1) (by omega) (by omega))
      have HW := Aside0.mk hW
      have HQ2 := Aside0.mk q2
      have HQ1 := Aside0.mk q1
      have hx0 : wr.cell? ⟨g, x.toNat * 3, none⟩ = some v0 := (blk_cell hW _).trans q0
      have HPb := Aside0.mk hPb
      have HB1 := Aside0.mk hb1
      have HST := Aside0.mk hst
      have HN := Aside0.mk (show (0 : Int) ≤ a + s + n0 + n1 ∧ a + s + n0 + n1 + 1 ≤ 4611686018427387904 from by omega)
      clear q0 q1 q2 q3 q4 hW hsl hst htk hnn hp9 e2 hn9 hPb hb1
      go_wp2_with (first
        | (go_at_call 34; refine H0.out.mono ?_; rintro e w1 ⟨rfl, m1⟩; clear H0 hx0; have M1 := Aside0.mk m1; obtain ⟨cs1, a1, s1, d1⟩ := m1.rows g cs HW.out; have hx1 : w1.cell? ⟨g, x.toNat * 3 + 1, none⟩ = some v1 := (blk_cell a1 _).trans ((d1 _ (by omega)).trans HQ1.out); clear m1 a1 s1 d1)
        | (go_at_call 34; refine (H1.out _ M1.out).mono ?_; rintro e w2 ⟨rfl, m2⟩; clear H1 hx1; have M2 := Aside0.mk (M1.out.trans m2); clear m2; obtain ⟨cs2, a2, s2, d2⟩ := M2.out.rows g cs HW.out; have hi2 : x.toNat * 3 + 2 < cs2.size := (by have := HQ2.out; omega); have hx2 : w2.cell? ⟨g, x.toNat * 3 + 2, none⟩ = some cs2[x.toNat * 3 + 2] := (blk_cell a2 _).trans (Array.getElem?_eq_getElem hi2); have hz2 := blk_frozen a2 (x.toNat * 3 + 2); have HA2 := Aside0.mk a2; generalize cs2[x.toNat * 3 + 2] = u at hx2; clear a2 s2 d2 hi2))
      go_roundg (l.length - (x.toNat + 1))
      case measure => have := HX.out; omega
      case rel =>
        refine ⟨x + 1, s + n0 + n1 + 1, by go_num, ?_, ⟨by have := HST.out; omega⟩, ⟨by have := HX.out; omega, by have := HX.out; omega, by have := HX.out; omega⟩, ⟨(HM.out.trans M2.out).putRow _ HA2.out HB1.out HPb.out (by omega) _⟩⟩
        have := HN.out
        rw [show wrap64 (a + s + n0 + n1 + 1) = a + (s + n0 + n1 + 1) from by unfold wrap64; omega]
    · have hx9 : x = l.length := by have := HX.out; omega
      subst hx9
      have hE := HE.out
      rw [show ((l.length : Nat) : Int).toNat = l.length from by omega, List.take_length] at hE
      subst hE
      go_wp2
      go_ret
      exact ⟨rfl, HM.out⟩
def laws_markFrmFormS.f (l0 : List (S26)) (a1 : Int) : Option (Int) := if 0 ≤ a1 ∧ a1 + totF l0 ≤ 4611686018427387904 then some (a1 + totF l0) else none
set_option maxHeartbeats 8000000 in
set_option maxRecDepth 100000 in
theorem laws_markFrmFormS.calls (P0_ : Nat → Prop) (u9000_ : Value) (l0 : List (S26)) (a1 : Int) (r : Int) (w0 w : World) (hB : Below w0.heap.size w0 w) (ho0 : Kd.S k26 26 w w0.heap.size P0_ u9000_ l0) (h : laws_markFrmFormS.f l0 a1 = some r) :
    Calls Try.prog 20 #[u9000_, .int .i64 a1] w fun e w' => e = .returned (.int .i64 r) ∧ Below w0.heap.size w0 w' ∧ Kept w w' (fun k_ => P0_ k_) := by
  unfold laws_markFrmFormS.f at h
  by_cases hA : 0 ≤ a1 ∧ a1 + totF l0 ≤ 4611686018427387904
  case neg => rw [if_neg hA] at h; exact absurd h (by simp)
  case pos =>
    rw [if_pos hA] at h
    obtain rfl := Option.some.inj h
    refine (markF P0_ u9000_ l0 a1 w0 w hB (rowOkW.of_S ho0) hA.1 hA.2).mono ?_
    rintro e w' ⟨rfl, m⟩
    exact ⟨rfl, m.below, m.kept⟩

end Go.Proofs.Ytfbdjimcjoddgaa.QFnExactFrmInto
