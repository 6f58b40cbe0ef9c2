/- Plain functions, and that the Go code computes them: written by a program of this session over the seat's translation; the conditions stand in each theorem. -/
import Derived.Test.YtgpncpabgojbfaaQFnExactFrmTimesx0
namespace Go.Proofs.Ytgpncpabgojbfaa.QFnExactFrmTimes
open Go.RowKit Go.Proofs.YtgpncpabgojbfaaW.PrintWords Go.Proofs.YtgpncpabgojbfaaW.PrintLast Go.Proofs.YtgpncpabgojbfaaW.PrintMore Go.Proofs.Ytgpncpabgojbfaa.HWords
attribute [local go_sem] max2_int min2_int max_two min_two max_three min_three max_four min_four   -- for this text's walks alone
set_option linter.unusedVariables false
set_option linter.unusedSimpArgs false

/-! ### impl_FrmZero: function 22 -/
def impl_FrmZero.f  : Option (List Int × List Int × Int) := if 3 ≤ 35184372088832 then (if 2 ≤ 35184372088832 then (some ((List.replicate 3 0), (List.replicate 2 0), 0)) else (none)) else (none)
set_option maxHeartbeats 8000000 in
set_option maxRecDepth 100000 in
theorem impl_FrmZero.calls  (r1 : List Int) (r2 : List Int) (r3 : Int) (w : World) (h : impl_FrmZero.f  = some (r1, r2, r3)) :
    Calls Try.prog 22 #[] w fun e w' => ∃ v0_ v1_ : Value, e = .returned (.agg #[v0_, v1_, .int .i64 r3]) ∧ Kd.R (Kd.int .i64) 3 w' w.heap.size (fun k_ => some k_ ≠ (v1_ : Value).ownBlock) v0_ r1 ∧ Kd.R (Kd.int .i64) 3 w' w.heap.size (fun k_ => some k_ ≠ (v0_ : Value).ownBlock) v1_ r2 ∧ Below w.heap.size w w' := by
  have hu28 := Try.underlying28
  have HB := Aside0.mk (Below.refl w.heap.size w)
  have H : (if 3 ≤ 35184372088832 then (if 2 ≤ 35184372088832 then (some ((List.replicate 3 0), (List.replicate 2 0), 0)) else (none)) else (none)) = some (r1, r2, r3) := h
  clear h
  by_cases c1 : 3 ≤ 35184372088832
  · rw [if_pos c1] at H
    have c1b0 := eq_true c1
    have c1b1 : decide (3 ≤ 35184372088832) = true := decide_eq_true c1
    clear c1
    obtain ⟨y185, hy185⟩ : ∃ y_ : List Int, y_ = (List.replicate 3 0) := ⟨_, rfl⟩
    replace H : (if 2 ≤ 35184372088832 then (some (y185, (List.replicate 2 0), 0)) else (none)) = some (r1, r2, r3) := by first | (rw [hy185]; with_reducible exact H) | (have H2_ := (Option.bind_some _ _).symm.trans H; rw [hy185]; with_reducible exact H2_) | (have H2_ := (Option.bind_some _ _).symm.trans H; with_reducible exact H2_) | with_reducible exact H | (rw [hy185]; exact H) | exact H
    have Ny185 := Aside0.mk hy185
    clear hy185
    by_cases c2 : 2 ≤ 35184372088832
    · rw [if_pos c2] at H
      have c2b0 := eq_true c2
      have c2b1 : decide (2 ≤ 35184372088832) = true := decide_eq_true c2
      clear c2
      obtain ⟨y188, hy188⟩ : ∃ y_ : List Int, y_ = (List.replicate 2 0) := ⟨_, rfl⟩
      replace H : (some (y185, y188, 0)) = some (r1, r2, r3) := by first | (rw [hy188]; with_reducible exact H) | (have H2_ := (Option.bind_some _ _).symm.trans H; rw [hy188]; with_reducible exact H2_) | (have H2_ := (Option.bind_some _ _).symm.trans H; with_reducible exact H2_) | with_reducible exact H | (rw [hy188]; exact H) | exact H
      have Ny188 := Aside0.mk hy188
      clear hy188
      simp only [Option.some.injEq, Prod.mk.injEq] at H
      obtain ⟨rfl, rfl, rfl⟩ := H
      go_enter Try.func22, Try.ntmps22
      try go_wp2_with (first | ((with_reducible refine gate_dst (N := 0) rfl ?_); refine box_event ?hg (N := 0) ?hd (cs := #[.slice none 0 0, .slice none 0 0, .int .i64 0]) (t := 28) ?hr ?_; (case hd => rfl); (case hg => rfl); (case hr => first | (go_simp; done) | (go_simp; rfl)); intro gb184 hg w3 hbox hb; have n0_ := Aside0.mk (below_step (by repeat (first | (with_reducible first | exact HB.out | apply below_alloc | apply pw_below_drewN | apply below_drew1) | exact HB.out)) hb); have n1_ := Aside0.mk (hbox); have n2_ := Aside0.mk ((by rw [hg]; exact (below_size (by repeat (first | (with_reducible first | exact HB.out | apply below_alloc | apply pw_below_drewN | apply below_drew1) | exact HB.out))) : w.heap.size ≤ gb184)); have n3_ := Aside0.mk ((by rw [hg]; exact (below_size (by repeat (first | (with_reducible first | exact HB.out | apply below_alloc | apply pw_below_drewN | apply below_drew1) | exact HB.out))) : w.heap.size ≤ gb184)); clear HB; have HB := n0_; have BK184 := n1_; have GW184 := n2_; have GE184 := n3_; clear n0_ n1_ n2_ n3_; clear hb hbox hg))
      have n0_ := Aside0.mk (blk_drew BK184.out)
      have n1_ := Aside0.mk (below_drew1 HB.out)
      clear BK184
      clear HB
      have BK184 := n0_
      have HB := n1_
      clear n0_ n1_
      refine start_ (n := 4) (S := fun w' => True) (ds := []) #[false, false, false, false] (by kernel_rfl) rfl rfl trivial (fun hHeld => ?_)
      generalize w3.drew = w4 at BK184 HB hHeld ⊢
      refine join_ (σ := Value × Value) 2 #[true, true, false, false] (fun s_ => [(1, s_.1), (2, s_.2)]) (fun s_ w' => (Kd.R (Kd.int .i64) 3 w' w.heap.size (fun k_ => some k_ ≠ (s_.2 : Value).ownBlock) s_.1 y185) ∧ (Kd.R (Kd.int .i64) 3 w' w.heap.size (fun k_ => some k_ ≠ (s_.1 : Value).ownBlock) s_.2 y188) ∧ (w'.heap[gb184]? = some (.cells #[.slice none 0 0, .slice none 0 0, .int .i64 0] 28 (0, 0))) ∧ (Below w.heap.size w w')) ?_ ?_
      rotate_left
      · intro hCont
        refine two_ (i := 0) (j := 1) (Ni := some 1) (Nj := some 2) #[true, false, false, false] #[false, true, false, false] rfl rfl rfl rfl (by kernel_rfl) (by decide) (by decide) (fun K hK => ?_) (fun K hK => ?_)
        · skip
          refine Kd.R_make_step (Kd.int .i64) _ 3 (by rfl) (N := 1) rfl 23 _ _ rfl 3 rfl rfl Try.underlying23 (.int .i64 0) 8 info3 rfl (by decide) (by omega) 0 (ok := fun _ => True) (okp := fun _ => True) rfl (fun _ hk => hk) trivial (by omega) (by omega) (Below.refl _ _) (Nat.le_refl _) ?_
          intro v186 w5 ho6 hb hg_ hnew_
          clear hg_ hnew_
          (first | rw [← Ny185.out] at ho6 | (simp only [Int.reduceToNat] at ho6; rw [← Ny185.out] at ho6))
          have n0_ := Aside0.mk (Kd.R_lower ho6 (below_size (by repeat (first | (with_reducible first | exact HB.out | apply below_alloc | apply pw_below_drewN | apply below_drew1 | refine below_set ?_ GE184.out) | exact HB.out))))
          have n1_ := Aside0.mk (blk_below (g := gb184) (o := .cells #[.slice none 0 0, .slice none 0 0, .int .i64 0] 28 (0, 0)) (by (with_reducible repeat (first | refine blk_drewN ?_ _ | refine blk_drew ?_ | refine blk_alloc ?_ _)); exact BK184.out) hb)
          have n2_ := Aside0.mk (below_step (by repeat (first | (with_reducible first | exact HB.out | apply below_alloc | apply pw_below_drewN | apply below_drew1 | refine below_set ?_ GE184.out) | exact HB.out)) hb)
          clear BK184
          clear HB
          have HO187 := n0_
          have BK184 := n1_
          have HB := n2_
          clear n0_ n1_ n2_
          clear hb ho6
          refine hK.out _ _ trivial (fun hHeld => ?_)
          clear hK K
          refine norm_ (a' := ?_) ?_ ?_
          rotate_left
          · show Act.put _ (some 1) _ = _
            simp only [Act.put, List.setIfInBounds_toArray, List.set_cons_zero, List.set_cons_succ, i64_w, i32_w]
            rfl
          refine one_ (i := 1) (N := some 2) #[true, true, false, false] rfl rfl (by kernel_rfl) (by decide) (fun K hK => ?_)
          refine Kd.R_make_step (Kd.int .i64) _ 3 (by rfl) (N := 2) rfl 23 _ _ rfl 2 rfl rfl Try.underlying23 (.int .i64 0) 8 info3 rfl (by decide) (by omega) 0 (ok := fun _ => True) (okp := fun _ => True) rfl (fun _ hk => hk) trivial (by omega) (by omega) (Below.refl _ _) (Nat.le_refl _) ?_
          intro v189 w7 ho8 hb hg_ hnew_
          clear hg_ hnew_
          (first | rw [← Ny188.out] at ho8 | (simp only [Int.reduceToNat] at ho8; rw [← Ny188.out] at ho8))
          have n0_ := Aside0.mk (Kd.R_elder' (by (with_reducible repeat (first | apply Kd.R_alloc | apply Kd.R_drewN | apply Kd.R_drew)); exact HO187.out) (Kd.R_base ho8) hb)
          have n1_ := Aside0.mk (Kd.R_lower (Kd.R_new' ho8 (Kd.R_lt (by (with_reducible repeat (first | apply Kd.R_alloc | apply Kd.R_drewN | apply Kd.R_drew)); exact HO187.out))) (below_size (by repeat (first | (with_reducible first | exact HB.out | apply below_alloc | apply pw_below_drewN | apply below_drew1 | refine below_set ?_ GE184.out) | exact HB.out))))
          have n2_ := Aside0.mk (blk_below (g := gb184) (o := .cells #[.slice none 0 0, .slice none 0 0, .int .i64 0] 28 (0, 0)) (by (with_reducible repeat (first | refine blk_drewN ?_ _ | refine blk_drew ?_ | refine blk_alloc ?_ _)); exact BK184.out) hb)
          have n3_ := Aside0.mk (below_step (by repeat (first | (with_reducible first | exact HB.out | apply below_alloc | apply pw_below_drewN | apply below_drew1 | refine below_set ?_ GE184.out) | exact HB.out)) hb)
          clear HO187
          clear BK184
          clear HB
          have HO187 := n0_
          have HO190 := n1_
          have BK184 := n2_
          have HB := n3_
          clear n0_ n1_ n2_ n3_
          clear hb ho8
          obtain ⟨Ao9, co9, eo9⟩ := Kd.R_slice HO190.out
          (first | subst eo9 | (injection eo9 with f1_ f2_ f3_; have f4_ := f1_.symm; have f5_ := f3_.symm; clear f1_ f2_ f3_; subst f4_; subst f5_))
          obtain ⟨Ao10, co10, eo10⟩ := Kd.R_slice HO187.out
          (first | subst eo10 | (injection eo10 with f1_ f2_ f3_; have f4_ := f1_.symm; have f5_ := f3_.symm; clear f1_ f2_ f3_; subst f4_; subst f5_))
          refine hK.out _ _ trivial (fun hHeld => ?_)
          clear hK K
          refine norm_ (a' := ?_) ?_ ?_
          rotate_left
          · show Act.put _ (some 2) _ = _
            simp only [Act.put, List.setIfInBounds_toArray, List.set_cons_zero, List.set_cons_succ, i64_w, i32_w]
            rfl
          exact norm_ (by simp only [putAll, Act.put, List.setIfInBounds_toArray, List.set_cons_zero, List.set_cons_succ]) (hCont (.slice Ao10 y185.length co10, .slice Ao9 y188.length co9) _ ⟨(by (with_reducible repeat (first | apply Kd.R_alloc | apply Kd.R_drewN | apply Kd.R_drew)); exact Kd.R_mono HO187.out (fun _ hk => hk.2)), (by (with_reducible repeat (first | apply Kd.R_alloc | apply Kd.R_drewN | apply Kd.R_drew)); exact Kd.R_mono HO190.out (fun _ hk => hk.2)), (by (with_reducible repeat (first | refine blk_drewN ?_ _ | refine blk_drew ?_ | refine blk_alloc ?_ _)); exact BK184.out), (by repeat (first | (with_reducible first | exact HB.out | apply below_alloc | apply pw_below_drewN | apply below_drew1 | refine below_set ?_ GE184.out) | exact HB.out))⟩)
        · skip
          refine Kd.R_make_step (Kd.int .i64) _ 3 (by rfl) (N := 2) rfl 23 _ _ rfl 2 rfl rfl Try.underlying23 (.int .i64 0) 8 info3 rfl (by decide) (by omega) 0 (ok := fun _ => True) (okp := fun _ => True) rfl (fun _ hk => hk) trivial (by omega) (by omega) (Below.refl _ _) (Nat.le_refl _) ?_
          intro v189 w5 ho6 hb hg_ hnew_
          clear hg_ hnew_
          (first | rw [← Ny188.out] at ho6 | (simp only [Int.reduceToNat] at ho6; rw [← Ny188.out] at ho6))
          have n0_ := Aside0.mk (Kd.R_lower ho6 (below_size (by repeat (first | (with_reducible first | exact HB.out | apply below_alloc | apply pw_below_drewN | apply below_drew1 | refine below_set ?_ GE184.out) | exact HB.out))))
          have n1_ := Aside0.mk (blk_below (g := gb184) (o := .cells #[.slice none 0 0, .slice none 0 0, .int .i64 0] 28 (0, 0)) (by (with_reducible repeat (first | refine blk_drewN ?_ _ | refine blk_drew ?_ | refine blk_alloc ?_ _)); exact BK184.out) hb)
          have n2_ := Aside0.mk (below_step (by repeat (first | (with_reducible first | exact HB.out | apply below_alloc | apply pw_below_drewN | apply below_drew1 | refine below_set ?_ GE184.out) | exact HB.out)) hb)
          clear BK184
          clear HB
          have HO190 := n0_
          have BK184 := n1_
          have HB := n2_
          clear n0_ n1_ n2_
          clear hb ho6
          refine hK.out _ _ trivial (fun hHeld => ?_)
          clear hK K
          refine norm_ (a' := ?_) ?_ ?_
          rotate_left
          · show Act.put _ (some 2) _ = _
            simp only [Act.put, List.setIfInBounds_toArray, List.set_cons_zero, List.set_cons_succ, i64_w, i32_w]
            rfl
          refine one_ (i := 0) (N := some 1) #[true, true, false, false] rfl rfl (by kernel_rfl) (by decide) (fun K hK => ?_)
          refine Kd.R_make_step (Kd.int .i64) _ 3 (by rfl) (N := 1) rfl 23 _ _ rfl 3 rfl rfl Try.underlying23 (.int .i64 0) 8 info3 rfl (by decide) (by omega) 0 (ok := fun _ => True) (okp := fun _ => True) rfl (fun _ hk => hk) trivial (by omega) (by omega) (Below.refl _ _) (Nat.le_refl _) ?_
          intro v186 w7 ho8 hb hg_ hnew_
          clear hg_ hnew_
          (first | rw [← Ny185.out] at ho8 | (simp only [Int.reduceToNat] at ho8; rw [← Ny185.out] at ho8))
          have n0_ := Aside0.mk (Kd.R_elder' (by (with_reducible repeat (first | apply Kd.R_alloc | apply Kd.R_drewN | apply Kd.R_drew)); exact HO190.out) (Kd.R_base ho8) hb)
          have n1_ := Aside0.mk (Kd.R_lower (Kd.R_new' ho8 (Kd.R_lt (by (with_reducible repeat (first | apply Kd.R_alloc | apply Kd.R_drewN | apply Kd.R_drew)); exact HO190.out))) (below_size (by repeat (first | (with_reducible first | exact HB.out | apply below_alloc | apply pw_below_drewN | apply below_drew1 | refine below_set ?_ GE184.out) | exact HB.out))))
          have n2_ := Aside0.mk (blk_below (g := gb184) (o := .cells #[.slice none 0 0, .slice none 0 0, .int .i64 0] 28 (0, 0)) (by (with_reducible repeat (first | refine blk_drewN ?_ _ | refine blk_drew ?_ | refine blk_alloc ?_ _)); exact BK184.out) hb)
          have n3_ := Aside0.mk (below_step (by repeat (first | (with_reducible first | exact HB.out | apply below_alloc | apply pw_below_drewN | apply below_drew1 | refine below_set ?_ GE184.out) | exact HB.out)) hb)
          clear HO190
          clear BK184
          clear HB
          have HO190 := n0_
          have HO187 := n1_
          have BK184 := n2_
          have HB := n3_
          clear n0_ n1_ n2_ n3_
          clear hb ho8
          obtain ⟨Ao9, co9, eo9⟩ := Kd.R_slice HO190.out
          (first | subst eo9 | (injection eo9 with f1_ f2_ f3_; have f4_ := f1_.symm; have f5_ := f3_.symm; clear f1_ f2_ f3_; subst f4_; subst f5_))
          obtain ⟨Ao10, co10, eo10⟩ := Kd.R_slice HO187.out
          (first | subst eo10 | (injection eo10 with f1_ f2_ f3_; have f4_ := f1_.symm; have f5_ := f3_.symm; clear f1_ f2_ f3_; subst f4_; subst f5_))
          refine hK.out _ _ trivial (fun hHeld => ?_)
          clear hK K
          refine norm_ (a' := ?_) ?_ ?_
          rotate_left
          · show Act.put _ (some 1) _ = _
            simp only [Act.put, List.setIfInBounds_toArray, List.set_cons_zero, List.set_cons_succ, i64_w, i32_w]
            rfl
          exact norm_ (by simp only [putAll, Act.put, List.setIfInBounds_toArray, List.set_cons_zero, List.set_cons_succ]) (hCont (.slice Ao10 y185.length co10, .slice Ao9 y188.length co9) _ ⟨(by (with_reducible repeat (first | apply Kd.R_alloc | apply Kd.R_drewN | apply Kd.R_drew)); exact Kd.R_mono HO187.out (fun _ hk => hk.2)), (by (with_reducible repeat (first | apply Kd.R_alloc | apply Kd.R_drewN | apply Kd.R_drew)); exact Kd.R_mono HO190.out (fun _ hk => hk.2)), (by (with_reducible repeat (first | refine blk_drewN ?_ _ | refine blk_drew ?_ | refine blk_alloc ?_ _)); exact BK184.out), (by repeat (first | (with_reducible first | exact HB.out | apply below_alloc | apply pw_below_drewN | apply below_drew1 | refine below_set ?_ GE184.out) | exact HB.out))⟩)
      rintro ⟨v186, v189⟩ w11 ⟨h0_, h1_, h2_, h3_⟩
      have n0_ : Aside0 (Kd.R (Kd.int .i64) 3 w11 w.heap.size (fun k_ => some k_ ≠ (v189 : Value).ownBlock) v186 y185) := ⟨h0_⟩
      have n1_ : Aside0 (Kd.R (Kd.int .i64) 3 w11 w.heap.size (fun k_ => some k_ ≠ (v186 : Value).ownBlock) v189 y188) := ⟨h1_⟩
      have n2_ : Aside0 (w11.heap[gb184]? = some (.cells #[.slice none 0 0, .slice none 0 0, .int .i64 0] 28 (0, 0))) := ⟨h2_⟩
      have n3_ : Aside0 (Below w.heap.size w w11) := ⟨h3_⟩
      clear BK184
      clear HB
      clear h0_ h1_ h2_ h3_
      have HO187 := n0_
      have HO190 := n1_
      have BK184 := n2_
      have HB := n3_
      clear n0_ n1_ n2_ n3_
      have hHeld := trivial
      obtain ⟨Ao12, co12, eo12⟩ := Kd.R_slice HO190.out
      (first | subst eo12 | (injection eo12 with f1_ f2_ f3_; have f4_ := f1_.symm; have f5_ := f3_.symm; clear f1_ f2_ f3_; subst f4_; subst f5_))
      obtain ⟨Ao13, co13, eo13⟩ := Kd.R_slice HO187.out
      (first | subst eo13 | (injection eo13 with f1_ f2_ f3_; have f4_ := f1_.symm; have f5_ := f3_.symm; clear f1_ f2_ f3_; subst f4_; subst f5_))
      refine norm_ (a' := ?_) ?_ ?_
      rotate_left
      · simp only [putAll, Act.put, List.setIfInBounds_toArray, List.set_cons_zero, List.set_cons_succ]
        rfl
      refine pure_ (i := 2) (N := some 3) (v := ?_) (a' := ?_) #[true, true, true, false] rfl rfl (by kernel_rfl) (fun _ _ _ h => h) (Or.inl ⟨by rfl, ?_⟩) ?_ ?_
      rotate_left
      · intro w'
        go_simp
        with_reducible rfl
      rotate_left
      · simp only [Act.put, List.setIfInBounds_toArray, List.set_cons_zero, List.set_cons_succ, i64_w, i32_w]
        rfl
      refine one_ (i := 3) (N := none) #[true, true, true, true] rfl rfl (by kernel_rfl) (by decide) (fun K hK => ?_)
      have hs14 : w11.cell? ⟨gb184, 0, none⟩ = some (.slice none 0 0) := (blk_cell BK184.out 0).trans rfl
      have hfs14 := blk_frozen BK184.out 0
      have hs15 : w11.cell? ⟨gb184, 1, none⟩ = some (.slice none 0 0) := (blk_cell BK184.out 1).trans rfl
      have hfs15 := blk_frozen BK184.out 1
      have hs16 : w11.cell? ⟨gb184, 2, none⟩ = some (.int .i64 0) := (blk_cell BK184.out 2).trans rfl
      have hfs16 := blk_frozen BK184.out 2
      refine skip_ (w1 := ?_) (by rfl) rfl ?_ ?_
      rotate_left
      · go_simp
        rfl
      refine hK.out _ _ trivial (fun hHeld => ?_)
      clear hK K
      refine done_ (by kernel_rfl) ?_
      try go_wp2
      refine bodyPost_ret (results_cell_row rfl _ _ gb184 28 #[.slice Ao13 y185.length co13, .slice Ao12 y188.length co12, .int .i64 0] (0, 0) _ rfl (by (with_reducible repeat (first | refine blk_drewN ?_ _ | refine blk_drew ?_ | refine blk_alloc ?_ _)); refine blk_put (cs := #[.slice Ao13 y185.length co13, .slice Ao12 y188.length co12, .int .i64 0]) ?_ 2 _ rfl; (with_reducible repeat (first | refine blk_drewN ?_ _ | refine blk_drew ?_ | refine blk_alloc ?_ _)); refine blk_put (cs := #[.slice Ao13 y185.length co13, .slice none 0 0, .int .i64 0]) ?_ 1 _ rfl; (with_reducible repeat (first | refine blk_drewN ?_ _ | refine blk_drew ?_ | refine blk_alloc ?_ _)); refine blk_put (cs := #[.slice none 0 0, .slice none 0 0, .int .i64 0]) ?_ 0 _ rfl; (with_reducible repeat (first | refine blk_drewN ?_ _ | refine blk_drew ?_ | refine blk_alloc ?_ _)); exact BK184.out) Try.underlying28 rfl (by kernel_rfl)) rfl ?_
      exact ⟨_, _, by first | rfl | (simp [errW_none, errW_some] <;> rfl) | (simp [*, errW_none, errW_some] <;> rfl), by (with_reducible repeat (first | apply Kd.R_alloc | apply Kd.R_drewN | apply Kd.R_drew)); exact Kd.R_mono (Kd.R_far (p := ⟨gb184, 2, none⟩) (Kd.R_far (p := ⟨gb184, 1, none⟩) (Kd.R_far (p := ⟨gb184, 0, none⟩) (Kd.R_types HO187.out BK184.out (by decide)) (fun _ hk => hk.2) (.slice Ao13 y185.length co13)) (fun _ hk => hk.2) (.slice Ao12 y188.length co12)) (fun _ hk => hk.2) (.int .i64 0)) (fun _ hk => hk.1), by (with_reducible repeat (first | apply Kd.R_alloc | apply Kd.R_drewN | apply Kd.R_drew)); exact Kd.R_mono (Kd.R_far (p := ⟨gb184, 2, none⟩) (Kd.R_far (p := ⟨gb184, 1, none⟩) (Kd.R_far (p := ⟨gb184, 0, none⟩) (Kd.R_types HO190.out BK184.out (by decide)) (fun _ hk => hk.2) (.slice Ao13 y185.length co13)) (fun _ hk => hk.2) (.slice Ao12 y188.length co12)) (fun _ hk => hk.2) (.int .i64 0)) (fun _ hk => hk.1), by repeat (first | (with_reducible first | exact HB.out | apply below_alloc | apply pw_below_drewN | apply below_drew1 | refine below_set ?_ GE184.out) | exact HB.out)⟩
    · rw [if_neg c2] at H
      exact absurd H (by simp)
  · rw [if_neg c1] at H
    exact absurd H (by simp)

-- NOT PRINTED: function 64 (slices_IndexFunc_int_int)

-- NOT PRINTED: function 62 (slices_ContainsFunc_int_int)

/-! ### impl_in: function 56 -/
def impl_in.f (a0 : Int) (a1 : Int) (a2 : Int) : Option (Bool) := if a0 ≥ a1 then (some (decide (a0 ≤ a2))) else (some false)
set_option maxHeartbeats 8000000 in
set_option maxRecDepth 100000 in
theorem impl_in.calls (a0 : Int) (a1 : Int) (a2 : Int) (r : Bool) (w : World) (h : impl_in.f a0 a1 a2 = some r) :
    Calls Try.prog 56 #[.int .i64 a0, .int .i64 a1, .int .i64 a2] w fun e w' => e = .returned (.bool r) ∧ Drawn0 w w' := by
  have H : (if a0 ≥ a1 then (some (decide (a0 ≤ a2))) else (some false)) = some r := h
  clear h
  by_cases c4 : a0 ≥ a1
  · rw [if_pos c4] at H
    have c4b0 : decide (a1 ≤ a0) = true := decide_eq_true c4
    clear c4
    obtain rfl := Option.some.inj H
    go_enter Try.func56, Try.ntmps56
    go_wp2
    go_ret
    exact ⟨by first | rfl | (simp; done) | (simp [*]; done), by repeat (first | exact Drawn0.refl _ | apply Drawn0.step)⟩
  · rw [if_neg c4] at H
    have c4b0 : decide (a1 ≤ a0) = false := decide_eq_false c4
    clear c4
    obtain rfl := Option.some.inj H
    go_enter Try.func56, Try.ntmps56
    go_wp2
    go_ret
    exact ⟨by first | rfl | (simp; done) | (simp [*]; done), by repeat (first | exact Drawn0.refl _ | apply Drawn0.step)⟩

-- NOT PRINTED: function 71 (impl_within_1)

/-! ### impl_within: function 53, by hand -/
set_option maxHeartbeats 1000000 in
theorem idx_ints (q : Int → Bool) (g : Nat) (lb : Array Value) (eg : ∀ args w, (callFunc g args).run Try.prog w = .ok (.enter g args) w) (A0 : Option Addr) (c0 : Nat) (xs : List Int) (w : World)
    (hr : Kd.C (Kd.int .i64) w A0 xs.length xs) (hp : ∀ x, x ∈ xs → ∀ W : World, Below w.heap.size w W → Calls Try.prog g (#[.int .i64 x] ++ lb) W fun e w' => e = .returned (.bool (q x)) ∧ Below W.heap.size W w') :
    Calls Try.prog 64 #[.slice A0 xs.length c0, .func (.func g) #[] lb] w fun e w' => e = .returned (.int .i64 (idxOf q xs)) ∧ Below w.heap.size w w' := by
  have hm := Kd.C_max hr
  have HR := Aside0.mk hr
  have HP := Aside0.mk hp
  clear hr hp
  go_enter Try.func64, Try.ntmps64
  go_wp2
  go_loopg [5, 8] xs.length (fun gg _ s8 wr => ∃ x : Int, s8 = .int .i64 x ∧ Aside0 (0 ≤ x ∧ x ≤ xs.length ∧ (xs.length : Int) - x ≤ gg) ∧ Aside0 (Below w.heap.size w wr) ∧ Aside0 (∀ j : Int, 0 ≤ j → j < x → q (xs.getD j.toNat 0) = false))
  case atStart => exact ⟨0, rfl, ⟨by omega, by omega, by omega⟩, ⟨Below.refl _ _⟩, ⟨fun j h0 h1 => by omega⟩⟩
  case round =>
    obtain ⟨x, rfl, HX, HB, HN⟩ := hrel
    have p1 := HX.out.1
    by_cases hlt : x < (xs.length : Int)
    · obtain ⟨ad, e1, hx⟩ := Kd.at_int (Kd.C_below HR.out HB.out) x p1 hlt
      cases e1
      have hcall := HP.out (rd xs x) (mem_rd 0 xs x p1 hlt) _ HB.out
      cases hq : q (rd xs x) with
      | true =>
        rw [hq] at hcall
        have HQ := Aside0.mk hq
        clear hq
        have HC := Aside0.mk hcall
        clear hcall
        go_wp2_with (go_at_fn g; refine HC.out.mono ?_; rintro e w' ⟨rfl, hb⟩)
        go_ret
        refine ⟨?_, below_then HB.out HB.out.size hb⟩
        rw [idxOf_hit 0 x p1 hlt HQ.out HN.out]
        rfl
      | false =>
        rw [hq] at hcall
        have HQ := Aside0.mk hq
        clear hq
        have HC := Aside0.mk hcall
        clear hcall
        go_wp2_with (go_at_fn g; refine HC.out.mono ?_; rintro e w' ⟨rfl, hb⟩)
        go_roundg (xs.length - (x.toNat + 1))
        case measure => have := HX.out; omega
        case rel =>
          refine ⟨x + 1, by go_num, ⟨by have := HX.out; omega, by have := HX.out; omega, by have := HX.out; omega⟩, ⟨below_then HB.out HB.out.size hb⟩, ⟨fun j h0 h1 => ?_⟩⟩
          by_cases e : j = x
          · subst e; exact HQ.out
          · exact HN.out j h0 (by omega)
    · go_wp2
      go_ret
      refine ⟨?_, HB.out⟩
      rw [idxOf_miss 0 (fun j h0 h1 => HN.out j h0 (by have := HX.out; omega))]
      rfl
set_option maxHeartbeats 1000000 in
theorem has_ints (q : Int → Bool) (g : Nat) (lb : Array Value) (eg : ∀ args w, (callFunc g args).run Try.prog w = .ok (.enter g args) w) (A0 : Option Addr) (c0 : Nat) (xs : List Int) (w : World)
    (hr : Kd.C (Kd.int .i64) w A0 xs.length xs) (hp : ∀ x, x ∈ xs → ∀ W : World, Below w.heap.size w W → Calls Try.prog g (#[.int .i64 x] ++ lb) W fun e w' => e = .returned (.bool (q x)) ∧ Below W.heap.size W w') :
    Calls Try.prog 62 #[.slice A0 xs.length c0, .func (.func g) #[] lb] w fun e w' => e = .returned (.bool (xs.any q)) ∧ Below w.heap.size w w' := by
  have HC := Aside0.mk (idx_ints q g lb eg A0 c0 xs w hr hp)
  rw [← idxOf_any q xs]
  generalize idxOf q xs = n at HC
  clear hr hp
  go_enter Try.func62, Try.ntmps62
  go_wp2_with (go_at_call 64; refine HC.out.mono ?_; rintro e w' ⟨rfl, hb⟩)
  go_ret
  exact ⟨rfl, hb⟩
def inB (n lo hi : Int) : Bool := decide (lo ≤ n) && decide (n ≤ hi)
theorem in_inB (n lo hi : Int) : impl_in.f n lo hi = some (inB n lo hi) := by
  unfold impl_in.f inB
  by_cases h : n ≥ lo
  · rw [if_pos h]; simp [h]
  · rw [if_neg h]; simp [h]
set_option maxHeartbeats 1000000 in
theorem within_pred (most : Int) (B : Nat) (W : World) (x : Int) (hc : W.cell? ⟨B, 0, none⟩ = some (.int .i64 most)) :
    Calls Try.prog 71 (#[.int .i64 x] ++ #[.pointer (some ⟨B, 0, none⟩)]) W fun e w' => e = .returned (.bool (!inB x (wrap64 (-most)) most)) ∧ Below W.heap.size W w' := by
  show Calls Try.prog 71 #[.int .i64 x, .pointer (some ⟨B, 0, none⟩)] W _
  have HI := Aside0.mk (impl_in.calls x (wrap64 (-most)) most (inB x (wrap64 (-most)) most) W (in_inB _ _ _))
  go_enter Try.func71, Try.ntmps71
  go_wp2_with (go_at_call 56; refine HI.out.mono ?_; rintro e w' ⟨rfl, hd⟩)
  go_ret
  exact ⟨rfl, hd.below⟩
def impl_within.f (l0 : List Int) (a1 : Int) (a2 : Int) : Option (Bool) := some (decide ((l0.length : Int) = a1) && !(l0.any fun x => !inB x (wrap64 (-a2)) a2))
set_option maxHeartbeats 8000000 in
set_option maxRecDepth 100000 in
theorem impl_within.calls (A0 : Option Addr) (c0 : Nat) (l0 : List Int) (a1 : Int) (a2 : Int) (r : Bool) (w : World) (hr0 : Kd.C (Kd.int .i64) w A0 l0.length l0) (hc0 : l0.length ≤ c0) (h : impl_within.f l0 a1 a2 = some r) :
    Calls Try.prog 53 #[.slice A0 l0.length c0, .int .i64 a1, .int .i64 a2] w fun e w' => e = .returned (.bool r) ∧ Below w.heap.size w w' := by
  obtain rfl := Option.some.inj h
  clear h
  have eg : ∀ args w, (callFunc 71 args).run Try.prog w = .ok (.enter 71 args) w := enters_of Try.func71 (by kernel_rfl) rfl
  have HC := Aside0.mk (has_ints (fun x => !inB x (wrap64 (-a2)) a2) 71 #[.pointer (some ⟨w.heap.size, 0, none⟩)] eg A0 c0 l0 (w.alloc (.cells #[.int .i64 a2] 3)) (Kd.C_alloc hr0 _)
    (fun x _ W hb => within_pred a2 w.heap.size W x ((hb.cell (p := ⟨w.heap.size, 0, none⟩) (by simp)).trans (by simp))))
  clear hr0
  by_cases hn : (l0.length : Int) = a1
  · have hb1 : ((l0.length : Int) == a1) = true := beq_iff_eq.mpr hn
    have hd : decide ((l0.length : Int) = a1) = true := decide_eq_true hn
    rw [hd]
    clear hn hd
    generalize l0.any (fun x => !inB x (wrap64 (-a2)) a2) = b at HC
    go_enter Try.func53, Try.ntmps53
    go_wp2_with (go_at_call 62; refine HC.out.mono ?_; rintro e w' ⟨rfl, hb⟩)
    go_ret
    exact ⟨by simp, below_then (below_alloc (Below.refl _ _) _) (by simp) hb⟩
  · have hb1 : ((l0.length : Int) == a1) = false := beq_eq_false_iff_ne.mpr hn
    have hd : decide ((l0.length : Int) = a1) = false := decide_eq_false hn
    rw [hd]
    clear hn hd HC
    go_enter Try.func53, Try.ntmps53
    go_wp2
    go_ret
    exact ⟨by simp, below_alloc (Below.refl _ _) _⟩

/-! ### impl_FrmOk: function 36 -/
def impl_FrmOk.f (l0_0 : List Int) (l0_1 : List Int) (a0_2 : Int) : Option (Bool) := (impl_within.f l0_0 3 10000000).bind fun t192 => (if t192 = true then ((impl_within.f l0_1 2 10000000).bind fun t193 => (if t193 = true then ((impl_in.f a0_2 (-10000000) 10000000).bind fun t194 => (some t194)) else (some false))) else (some false))
set_option maxHeartbeats 8000000 in
set_option maxRecDepth 100000 in
theorem impl_FrmOk.calls (A0_0 : Option Addr) (c0_0 : Nat) (l0_0 : List Int) (A0_1 : Option Addr) (c0_1 : Nat) (l0_1 : List Int) (a0_2 : Int) (r : Bool) (w : World) (hr0_0 : Kd.C (Kd.int .i64) w A0_0 l0_0.length l0_0) (hc0_0 : l0_0.length ≤ c0_0) (hr0_1 : Kd.C (Kd.int .i64) w A0_1 l0_1.length l0_1) (hc0_1 : l0_1.length ≤ c0_1) (h : impl_FrmOk.f l0_0 l0_1 a0_2 = some r) :
    Calls Try.prog 36 #[.agg #[.slice A0_0 l0_0.length c0_0, .slice A0_1 l0_1.length c0_1, .int .i64 a0_2]] w fun e w' => e = .returned (.bool r) ∧ Below w.heap.size w w' := by
  have hu28 := Try.underlying28
  have HR0_0 := Aside0.mk hr0_0
  have HC0_0 := Aside0.mk hc0_0
  clear hr0_0 hc0_0
  have HR0_1 := Aside0.mk hr0_1
  have HC0_1 := Aside0.mk hc0_1
  clear hr0_1 hc0_1
  have HB := Aside0.mk (Below.refl w.heap.size w)
  have H : ((impl_within.f l0_0 3 10000000).bind fun t192 => (if t192 = true then ((impl_within.f l0_1 2 10000000).bind fun t193 => (if t193 = true then ((impl_in.f a0_2 (-10000000) 10000000).bind fun t194 => (some t194)) else (some false))) else (some false))) = some r := h
  clear h
  replace H := Option.bind_eq_some_iff.mp H
  obtain ⟨t192, A20, H⟩ := H
  replace H : (if t192 = true then ((impl_within.f l0_1 2 10000000).bind fun t193 => (if t193 = true then ((impl_in.f a0_2 (-10000000) 10000000).bind fun t194 => (some t194)) else (some false))) else (some false)) = some r := H
  have A2 := Aside0.mk A20
  clear A20
  by_cases c3 : t192 = true
  · subst c3
    have H1 : ((impl_within.f l0_1 2 10000000).bind fun t193 => (if t193 = true then ((impl_in.f a0_2 (-10000000) 10000000).bind fun t194 => (some t194)) else (some false))) = some r := by rw [if_pos rfl] at H; exact H
    clear H
    have H := H1
    clear H1
    replace H := Option.bind_eq_some_iff.mp H
    obtain ⟨t193, A40, H⟩ := H
    replace H : (if t193 = true then ((impl_in.f a0_2 (-10000000) 10000000).bind fun t194 => (some t194)) else (some false)) = some r := H
    have A4 := Aside0.mk A40
    clear A40
    by_cases c5 : t193 = true
    · subst c5
      have H1 : ((impl_in.f a0_2 (-10000000) 10000000).bind fun t194 => (some t194)) = some r := by rw [if_pos rfl] at H; exact H
      clear H
      have H := H1
      clear H1
      replace H := Option.bind_eq_some_iff.mp H
      obtain ⟨t194, A60, H⟩ := H
      replace H : (some t194) = some r := H
      have A6 := Aside0.mk A60
      clear A60
      obtain rfl := Option.some.inj H
      go_enter Try.func36, Try.ntmps36
      go_wp2_with (first | ((with_reducible refine gate_dst (N := 1) rfl ?_); refine box_event ?hg (N := 1) ?hd (cs := #[.slice A0_0 l0_0.length c0_0, .slice A0_1 l0_1.length c0_1, .int .i64 a0_2]) (t := 28) ?hr ?_; (case hd => rfl); (case hg => rfl); (case hr => first | (go_simp; done) | (go_simp; rfl)); intro gb191 hg w7 hbox hb; have n0_ := Aside0.mk (below_step (by repeat (first | (with_reducible first | exact HB.out | apply below_alloc | apply pw_below_drewN | apply below_drew1) | exact HB.out)) hb); have n1_ := Aside0.mk (hbox); have n2_ := Aside0.mk ((by rw [hg]; exact (below_size (by repeat (first | (with_reducible first | exact HB.out | apply below_alloc | apply pw_below_drewN | apply below_drew1) | exact HB.out))) : w.heap.size ≤ gb191)); have n3_ := Aside0.mk ((by rw [hg]; exact (below_size (by repeat (first | (with_reducible first | exact HB.out | apply below_alloc | apply pw_below_drewN | apply below_drew1) | exact HB.out))) : w.heap.size ≤ gb191)); clear HB; have HB := n0_; have BK191 := n1_; have GW191 := n2_; have GE191 := n3_; clear n0_ n1_ n2_ n3_; clear hb hbox hg; have hcz8_0 : w7.cell? ⟨gb191, 0, none⟩ = some (.slice A0_0 l0_0.length c0_0) := (blk_cell BK191.out 0).trans rfl; have hcz8_1 : w7.cell? ⟨gb191, 1, none⟩ = some (.slice A0_1 l0_1.length c0_1) := (blk_cell BK191.out 1).trans rfl; have hcz8_2 : w7.cell? ⟨gb191, 2, none⟩ = some (.int .i64 a0_2) := (blk_cell BK191.out 2).trans rfl; have hfz8_0 := blk_frozen BK191.out 0; have hfz8_1 := blk_frozen BK191.out 1; have hfz8_2 := blk_frozen BK191.out 2) | ((with_reducible refine gate_callee (f := 53) rfl ?_); refine goesL_ (some 5) rfl rfl Try.func53 (by kernel_rfl) rfl #[.slice A0_0 l0_0.length c0_0, .int .i64 3, .int .i64 10000000] rfl (by (try simp only [List.map_toArray, List.map_cons, List.map_nil]); first | done | rfl | (simp only [List.length_drop, List.length_take]; rfl)) ?_; (with_reducible refine (impl_within.calls _ _ l0_0 3 10000000 true _ ?side1 ?side2 A2.out).mono ?_); (case side1 => repeat (first | exact (Kd.C_below HR0_0.out HB.out) | (with_reducible refine Kd.C_alloc ?_ _) | (with_reducible refine Kd.C_drewN ?_ _) | (with_reducible refine Kd.C_drew ?_))); (case side2 => exact HC0_0.out); rintro e w9 ⟨rfl, hb⟩; refine ⟨_, rfl, ?_⟩; have n0_ := Aside0.mk (blk_below (g := gb191) (o := .cells #[.slice A0_0 l0_0.length c0_0, .slice A0_1 l0_1.length c0_1, .int .i64 a0_2] 28 (0, 0)) (by (with_reducible repeat (first | refine blk_drewN ?_ _ | refine blk_drew ?_ | refine blk_alloc ?_ _)); exact BK191.out) hb); have n1_ := Aside0.mk (below_step (by repeat (first | (with_reducible first | exact HB.out | apply below_alloc | apply pw_below_drewN | apply below_drew1 | refine below_set ?_ GE191.out) | exact HB.out)) hb); clear BK191; clear HB; have BK191 := n0_; have HB := n1_; clear n0_ n1_; (try clear hb); (try clear hb2); (try clear hk); (try clear hi); have hcz10_0 : w9.cell? ⟨gb191, 0, none⟩ = some (.slice A0_0 l0_0.length c0_0) := (blk_cell BK191.out 0).trans rfl; have hcz10_1 : w9.cell? ⟨gb191, 1, none⟩ = some (.slice A0_1 l0_1.length c0_1) := (blk_cell BK191.out 1).trans rfl; have hcz10_2 : w9.cell? ⟨gb191, 2, none⟩ = some (.int .i64 a0_2) := (blk_cell BK191.out 2).trans rfl; have hfz10_0 := blk_frozen BK191.out 0; have hfz10_1 := blk_frozen BK191.out 1; have hfz10_2 := blk_frozen BK191.out 2) | (go_at_call 53; (with_reducible refine (impl_within.calls _ _ l0_1 2 10000000 true _ ?side1 ?side2 A4.out).mono ?_); (case side1 => repeat (first | exact (Kd.C_below HR0_1.out HB.out) | (with_reducible refine Kd.C_alloc ?_ _) | (with_reducible refine Kd.C_drewN ?_ _) | (with_reducible refine Kd.C_drew ?_))); (case side2 => exact HC0_1.out); rintro e w11 ⟨rfl, hb⟩; have n0_ := Aside0.mk (blk_below (g := gb191) (o := .cells #[.slice A0_0 l0_0.length c0_0, .slice A0_1 l0_1.length c0_1, .int .i64 a0_2] 28 (0, 0)) (by (with_reducible repeat (first | refine blk_drewN ?_ _ | refine blk_drew ?_ | refine blk_alloc ?_ _)); exact BK191.out) hb); have n1_ := Aside0.mk (below_step (by repeat (first | (with_reducible first | exact HB.out | apply below_alloc | apply pw_below_drewN | apply below_drew1 | refine below_set ?_ GE191.out) | exact HB.out)) hb); clear BK191; clear HB; have BK191 := n0_; have HB := n1_; clear n0_ n1_; (try clear hb); (try clear hb2); (try clear hk); (try clear hi); have hcz12_0 : w11.cell? ⟨gb191, 0, none⟩ = some (.slice A0_0 l0_0.length c0_0) := (blk_cell BK191.out 0).trans rfl; have hcz12_1 : w11.cell? ⟨gb191, 1, none⟩ = some (.slice A0_1 l0_1.length c0_1) := (blk_cell BK191.out 1).trans rfl; have hcz12_2 : w11.cell? ⟨gb191, 2, none⟩ = some (.int .i64 a0_2) := (blk_cell BK191.out 2).trans rfl; have hfz12_0 := blk_frozen BK191.out 0; have hfz12_1 := blk_frozen BK191.out 1; have hfz12_2 := blk_frozen BK191.out 2) | (go_at_call 56; (with_reducible refine (impl_in.calls a0_2 (-10000000) 10000000 t194 _ A6.out).mono ?_); rintro e w' ⟨rfl, ⟨nd, rfl⟩⟩))
      go_ret
      exact ⟨by first | rfl | (simp [errW_none, errW_some] <;> rfl) | (simp [*, errW_none, errW_some] <;> rfl), by repeat (first | (with_reducible first | exact HB.out | apply below_alloc | apply pw_below_drewN | apply below_drew1 | refine below_set ?_ GE191.out) | exact HB.out)⟩
    · replace c5 := Bool.eq_false_iff.mpr c5
      subst c5
      have H1 : (some false) = some r := by rw [if_neg (show ¬ (false = true) by decide)] at H; exact H
      clear H
      have H := H1
      clear H1
      obtain rfl := Option.some.inj H
      go_enter Try.func36, Try.ntmps36
      go_wp2_with (first | ((with_reducible refine gate_dst (N := 1) rfl ?_); refine box_event ?hg (N := 1) ?hd (cs := #[.slice A0_0 l0_0.length c0_0, .slice A0_1 l0_1.length c0_1, .int .i64 a0_2]) (t := 28) ?hr ?_; (case hd => rfl); (case hg => rfl); (case hr => first | (go_simp; done) | (go_simp; rfl)); intro gb191 hg w13 hbox hb; have n0_ := Aside0.mk (below_step (by repeat (first | (with_reducible first | exact HB.out | apply below_alloc | apply pw_below_drewN | apply below_drew1) | exact HB.out)) hb); have n1_ := Aside0.mk (hbox); have n2_ := Aside0.mk ((by rw [hg]; exact (below_size (by repeat (first | (with_reducible first | exact HB.out | apply below_alloc | apply pw_below_drewN | apply below_drew1) | exact HB.out))) : w.heap.size ≤ gb191)); have n3_ := Aside0.mk ((by rw [hg]; exact (below_size (by repeat (first | (with_reducible first | exact HB.out | apply below_alloc | apply pw_below_drewN | apply below_drew1) | exact HB.out))) : w.heap.size ≤ gb191)); clear HB; have HB := n0_; have BK191 := n1_; have GW191 := n2_; have GE191 := n3_; clear n0_ n1_ n2_ n3_; clear hb hbox hg; have hcz14_0 : w13.cell? ⟨gb191, 0, none⟩ = some (.slice A0_0 l0_0.length c0_0) := (blk_cell BK191.out 0).trans rfl; have hcz14_1 : w13.cell? ⟨gb191, 1, none⟩ = some (.slice A0_1 l0_1.length c0_1) := (blk_cell BK191.out 1).trans rfl; have hcz14_2 : w13.cell? ⟨gb191, 2, none⟩ = some (.int .i64 a0_2) := (blk_cell BK191.out 2).trans rfl; have hfz14_0 := blk_frozen BK191.out 0; have hfz14_1 := blk_frozen BK191.out 1; have hfz14_2 := blk_frozen BK191.out 2) | ((with_reducible refine gate_callee (f := 53) rfl ?_); refine goesL_ (some 5) rfl rfl Try.func53 (by kernel_rfl) rfl #[.slice A0_0 l0_0.length c0_0, .int .i64 3, .int .i64 10000000] rfl (by (try simp only [List.map_toArray, List.map_cons, List.map_nil]); first | done | rfl | (simp only [List.length_drop, List.length_take]; rfl)) ?_; (with_reducible refine (impl_within.calls _ _ l0_0 3 10000000 true _ ?side1 ?side2 A2.out).mono ?_); (case side1 => repeat (first | exact (Kd.C_below HR0_0.out HB.out) | (with_reducible refine Kd.C_alloc ?_ _) | (with_reducible refine Kd.C_drewN ?_ _) | (with_reducible refine Kd.C_drew ?_))); (case side2 => exact HC0_0.out); rintro e w15 ⟨rfl, hb⟩; refine ⟨_, rfl, ?_⟩; have n0_ := Aside0.mk (blk_below (g := gb191) (o := .cells #[.slice A0_0 l0_0.length c0_0, .slice A0_1 l0_1.length c0_1, .int .i64 a0_2] 28 (0, 0)) (by (with_reducible repeat (first | refine blk_drewN ?_ _ | refine blk_drew ?_ | refine blk_alloc ?_ _)); exact BK191.out) hb); have n1_ := Aside0.mk (below_step (by repeat (first | (with_reducible first | exact HB.out | apply below_alloc | apply pw_below_drewN | apply below_drew1 | refine below_set ?_ GE191.out) | exact HB.out)) hb); clear BK191; clear HB; have BK191 := n0_; have HB := n1_; clear n0_ n1_; (try clear hb); (try clear hb2); (try clear hk); (try clear hi); have hcz16_0 : w15.cell? ⟨gb191, 0, none⟩ = some (.slice A0_0 l0_0.length c0_0) := (blk_cell BK191.out 0).trans rfl; have hcz16_1 : w15.cell? ⟨gb191, 1, none⟩ = some (.slice A0_1 l0_1.length c0_1) := (blk_cell BK191.out 1).trans rfl; have hcz16_2 : w15.cell? ⟨gb191, 2, none⟩ = some (.int .i64 a0_2) := (blk_cell BK191.out 2).trans rfl; have hfz16_0 := blk_frozen BK191.out 0; have hfz16_1 := blk_frozen BK191.out 1; have hfz16_2 := blk_frozen BK191.out 2) | (go_at_call 53; (with_reducible refine (impl_within.calls _ _ l0_1 2 10000000 false _ ?side1 ?side2 A4.out).mono ?_); (case side1 => repeat (first | exact (Kd.C_below HR0_1.out HB.out) | (with_reducible refine Kd.C_alloc ?_ _) | (with_reducible refine Kd.C_drewN ?_ _) | (with_reducible refine Kd.C_drew ?_))); (case side2 => exact HC0_1.out); rintro e w17 ⟨rfl, hb⟩; have n0_ := Aside0.mk (blk_below (g := gb191) (o := .cells #[.slice A0_0 l0_0.length c0_0, .slice A0_1 l0_1.length c0_1, .int .i64 a0_2] 28 (0, 0)) (by (with_reducible repeat (first | refine blk_drewN ?_ _ | refine blk_drew ?_ | refine blk_alloc ?_ _)); exact BK191.out) hb); have n1_ := Aside0.mk (below_step (by repeat (first | (with_reducible first | exact HB.out | apply below_alloc | apply pw_below_drewN | apply below_drew1 | refine below_set ?_ GE191.out) | exact HB.out)) hb); clear BK191; clear HB; have BK191 := n0_; have HB := n1_; clear n0_ n1_; (try clear hb); (try clear hb2); (try clear hk); (try clear hi)))
      go_ret
      exact ⟨by first | rfl | (simp [errW_none, errW_some] <;> rfl) | (simp [*, errW_none, errW_some] <;> rfl), by repeat (first | (with_reducible first | exact HB.out | apply below_alloc | apply pw_below_drewN | apply below_drew1 | refine below_set ?_ GE191.out) | exact HB.out)⟩
  · replace c3 := Bool.eq_false_iff.mpr c3
    subst c3
    have H1 : (some false) = some r := by rw [if_neg (show ¬ (false = true) by decide)] at H; exact H
    clear H
    have H := H1
    clear H1
    obtain rfl := Option.some.inj H
    go_enter Try.func36, Try.ntmps36
    go_wp2_with (first | ((with_reducible refine gate_dst (N := 1) rfl ?_); refine box_event ?hg (N := 1) ?hd (cs := #[.slice A0_0 l0_0.length c0_0, .slice A0_1 l0_1.length c0_1, .int .i64 a0_2]) (t := 28) ?hr ?_; (case hd => rfl); (case hg => rfl); (case hr => first | (go_simp; done) | (go_simp; rfl)); intro gb191 hg w18 hbox hb; have n0_ := Aside0.mk (below_step (by repeat (first | (with_reducible first | exact HB.out | apply below_alloc | apply pw_below_drewN | apply below_drew1) | exact HB.out)) hb); have n1_ := Aside0.mk (hbox); have n2_ := Aside0.mk ((by rw [hg]; exact (below_size (by repeat (first | (with_reducible first | exact HB.out | apply below_alloc | apply pw_below_drewN | apply below_drew1) | exact HB.out))) : w.heap.size ≤ gb191)); have n3_ := Aside0.mk ((by rw [hg]; exact (below_size (by repeat (first | (with_reducible first | exact HB.out | apply below_alloc | apply pw_below_drewN | apply below_drew1) | exact HB.out))) : w.heap.size ≤ gb191)); clear HB; have HB := n0_; have BK191 := n1_; have GW191 := n2_; have GE191 := n3_; clear n0_ n1_ n2_ n3_; clear hb hbox hg; have hcz19_0 : w18.cell? ⟨gb191, 0, none⟩ = some (.slice A0_0 l0_0.length c0_0) := (blk_cell BK191.out 0).trans rfl; have hcz19_1 : w18.cell? ⟨gb191, 1, none⟩ = some (.slice A0_1 l0_1.length c0_1) := (blk_cell BK191.out 1).trans rfl; have hcz19_2 : w18.cell? ⟨gb191, 2, none⟩ = some (.int .i64 a0_2) := (blk_cell BK191.out 2).trans rfl; have hfz19_0 := blk_frozen BK191.out 0; have hfz19_1 := blk_frozen BK191.out 1; have hfz19_2 := blk_frozen BK191.out 2) | ((with_reducible refine gate_callee (f := 53) rfl ?_); refine goesL_ (some 5) rfl rfl Try.func53 (by kernel_rfl) rfl #[.slice A0_0 l0_0.length c0_0, .int .i64 3, .int .i64 10000000] rfl (by (try simp only [List.map_toArray, List.map_cons, List.map_nil]); first | done | rfl | (simp only [List.length_drop, List.length_take]; rfl)) ?_; (with_reducible refine (impl_within.calls _ _ l0_0 3 10000000 false _ ?side1 ?side2 A2.out).mono ?_); (case side1 => repeat (first | exact (Kd.C_below HR0_0.out HB.out) | (with_reducible refine Kd.C_alloc ?_ _) | (with_reducible refine Kd.C_drewN ?_ _) | (with_reducible refine Kd.C_drew ?_))); (case side2 => exact HC0_0.out); rintro e w20 ⟨rfl, hb⟩; refine ⟨_, rfl, ?_⟩; have n0_ := Aside0.mk (blk_below (g := gb191) (o := .cells #[.slice A0_0 l0_0.length c0_0, .slice A0_1 l0_1.length c0_1, .int .i64 a0_2] 28 (0, 0)) (by (with_reducible repeat (first | refine blk_drewN ?_ _ | refine blk_drew ?_ | refine blk_alloc ?_ _)); exact BK191.out) hb); have n1_ := Aside0.mk (below_step (by repeat (first | (with_reducible first | exact HB.out | apply below_alloc | apply pw_below_drewN | apply below_drew1 | refine below_set ?_ GE191.out) | exact HB.out)) hb); clear BK191; clear HB; have BK191 := n0_; have HB := n1_; clear n0_ n1_; (try clear hb); (try clear hb2); (try clear hk); (try clear hi)))
    go_ret
    exact ⟨by first | rfl | (simp [errW_none, errW_some] <;> rfl) | (simp [*, errW_none, errW_some] <;> rfl), by repeat (first | (with_reducible first | exact HB.out | apply below_alloc | apply pw_below_drewN | apply below_drew1 | refine below_set ?_ GE191.out) | exact HB.out)⟩

-- NOT PRINTED: function 69 (impl_FrmForm_add)

/-! ### impl_checked: function 70 -/
def impl_checked.f (l0_0 : List Int) (l0_1 : List Int) (a0_2 : Int) : Option (List Int × List Int × Int) := (impl_FrmOk.f l0_0 l0_1 a0_2).bind fun t200 => (if t200 = true then (some (l0_0, l0_1, a0_2)) else (some (([] : List Int), ([] : List Int), 0)))
set_option maxHeartbeats 8000000 in
set_option maxRecDepth 100000 in
theorem impl_checked.calls (P0_0_ : Nat → Prop) (u9000_ : Value) (l0_0 : List Int) (P0_1_ : Nat → Prop) (u9001_ : Value) (l0_1 : List Int) (a0_2 : Int) (r1 : List Int) (r2 : List Int) (r3 : Int) (w0 w : World) (hB : Below w0.heap.size w0 w) (ho0_0 : Kd.R (Kd.int .i64) 3 w w0.heap.size P0_0_ u9000_ l0_0) (hp0_0_0_1 : ∀ k_, P0_0_ k_ → ¬ P0_1_ k_) (ho0_1 : Kd.R (Kd.int .i64) 3 w w0.heap.size P0_1_ u9001_ l0_1) (hp0_1_0_0 : ∀ k_, P0_1_ k_ → ¬ P0_0_ k_) (h : impl_checked.f l0_0 l0_1 a0_2 = some (r1, r2, r3)) :
    Calls Try.prog 70 #[.agg #[u9000_, u9001_, .int .i64 a0_2]] w fun e w' => ∃ v0_ v1_ : Value, e = .returned (.agg #[v0_, v1_, .int .i64 r3]) ∧ Kd.R (Kd.int .i64) 3 w' w0.heap.size (fun k_ => ((P0_0_ k_ ∨ P0_1_ k_) ∨ w.heap.size ≤ k_) ∧ some k_ ≠ (v1_ : Value).ownBlock) v0_ r1 ∧ Kd.R (Kd.int .i64) 3 w' w0.heap.size (fun k_ => ((P0_0_ k_ ∨ P0_1_ k_) ∨ w.heap.size ≤ k_) ∧ some k_ ≠ (v0_ : Value).ownBlock) v1_ r2 ∧ Below w0.heap.size w0 w' ∧ Kept w w' (fun k_ => P0_0_ k_ ∨ P0_1_ k_) := by
  have hu28 := Try.underlying28
  have HO0_0 := Aside0.mk (show Kd.R (Kd.int .i64) 3 w w0.heap.size (fun k_ => ((P0_0_ k_ ∨ P0_1_ k_) ∨ w.heap.size ≤ k_) ∧ some k_ ≠ (u9001_ : Value).ownBlock) u9000_ l0_0 from Kd.R_mono ho0_0 (fun k_ hk => ⟨(.inl (.inl hk)), fun e_ => hp0_0_0_1 k_ hk (ho0_1.1 k_ e_.symm)⟩))
  have HO0_1 := Aside0.mk (show Kd.R (Kd.int .i64) 3 w w0.heap.size (fun k_ => ((P0_0_ k_ ∨ P0_1_ k_) ∨ w.heap.size ≤ k_) ∧ some k_ ≠ (u9000_ : Value).ownBlock) u9001_ l0_1 from Kd.R_mono ho0_1 (fun k_ hk => ⟨(.inl (.inr hk)), fun e_ => hp0_1_0_0 k_ hk (ho0_0.1 k_ e_.symm)⟩))
  have HK := Aside0.mk (Kept.refl w (fun k_ => P0_0_ k_ ∨ P0_1_ k_))
  have HW0 := Aside0.mk hB.size
  have HB := Aside0.mk hB
  clear hB
  have H : ((impl_FrmOk.f l0_0 l0_1 a0_2).bind fun t200 => (if t200 = true then (some (l0_0, l0_1, a0_2)) else (some (([] : List Int), ([] : List Int), 0)))) = some (r1, r2, r3) := h
  clear h
  replace H := Option.bind_eq_some_iff.mp H
  obtain ⟨t200, A20, H⟩ := H
  replace H : (if t200 = true then (some (l0_0, l0_1, a0_2)) else (some (([] : List Int), ([] : List Int), 0))) = some (r1, r2, r3) := H
  have A2 := Aside0.mk A20
  clear A20
  by_cases c3 : t200 = true
  · subst c3
    have H1 : (some (l0_0, l0_1, a0_2)) = some (r1, r2, r3) := by rw [if_pos rfl] at H; exact H
    clear H
    have H := H1
    clear H1
    simp only [Option.some.injEq, Prod.mk.injEq] at H
    obtain ⟨rfl, rfl, rfl⟩ := H
    obtain ⟨Ao4, co4, eo4⟩ := Kd.R_slice HO0_0.out
    subst eo4
    obtain ⟨Ao5, co5, eo5⟩ := Kd.R_slice HO0_1.out
    subst eo5
    go_enter Try.func70, Try.ntmps70
    go_wp2_with (first | ((with_reducible refine gate_dst (N := 1) rfl ?_); refine box_event ?hg (N := 1) ?hd (cs := #[.slice Ao4 l0_0.length co4, .slice Ao5 l0_1.length co5, .int .i64 a0_2]) (t := 28) ?hr ?_; (case hd => rfl); (case hg => rfl); (case hr => first | (go_simp; done) | (go_simp; rfl)); intro gb198 hg w6 hbox hb; have n0_ := Aside0.mk (Kd.R_below (by (with_reducible repeat (first | apply Kd.R_alloc | apply Kd.R_drewN | apply Kd.R_drew)); exact HO0_0.out) hb); have n1_ := Aside0.mk (Kd.R_below (by (with_reducible repeat (first | apply Kd.R_alloc | apply Kd.R_drewN | apply Kd.R_drew)); exact HO0_1.out) hb); have n2_ := Aside0.mk (Kept.below (S := (fun k_ => P0_0_ k_ ∨ P0_1_ k_)) (by repeat (first | (with_reducible first | exact HK.out | apply Kept.alloc | apply Kept.drewN | apply Kept.drew) | exact HK.out)) hb); have n3_ := Aside0.mk (below_step (by repeat (first | (with_reducible first | exact HB.out | apply below_alloc | apply pw_below_drewN | apply below_drew1) | exact HB.out)) hb); have n4_ := Aside0.mk (hbox); have n5_ := Aside0.mk ((by rw [hg]; exact (by first | exact HK.out.1 | exact (show Kept w _ (fun k_ => P0_0_ k_ ∨ P0_1_ k_) from by repeat (first | (with_reducible first | exact HK.out | apply Kept.alloc | apply Kept.drewN | apply Kept.drew) | exact HK.out)).1) : w.heap.size ≤ gb198)); have n6_ := Aside0.mk ((by rw [hg]; exact (below_size (by repeat (first | (with_reducible first | exact HB.out | apply below_alloc | apply pw_below_drewN | apply below_drew1) | exact HB.out))) : w0.heap.size ≤ gb198)); clear HO0_0; clear HO0_1; clear HK; clear HB; have HO0_0 := n0_; have HO0_1 := n1_; have HK := n2_; have HB := n3_; have BK198 := n4_; have GW198 := n5_; have GE198 := n6_; clear n0_ n1_ n2_ n3_ n4_ n5_ n6_; clear hb hbox hg) | ((with_reducible refine gate_dst (N := 2) rfl ?_); refine box_event ?hg (N := 2) ?hd (cs := #[.slice none 0 0, .slice none 0 0, .int .i64 0]) (t := 28) ?hr ?_; (case hd => rfl); (case hg => rfl); (case hr => first | (go_simp; done) | (go_simp; rfl)); intro gb199 hg w7 hbox hb; have n0_ := Aside0.mk (Kd.R_below (by (with_reducible repeat (first | apply Kd.R_alloc | apply Kd.R_drewN | apply Kd.R_drew)); exact HO0_0.out) hb); have n1_ := Aside0.mk (Kd.R_below (by (with_reducible repeat (first | apply Kd.R_alloc | apply Kd.R_drewN | apply Kd.R_drew)); exact HO0_1.out) hb); have n2_ := Aside0.mk (blk_below (g := gb198) (o := .cells #[.slice Ao4 l0_0.length co4, .slice Ao5 l0_1.length co5, .int .i64 a0_2] 28 (0, 0)) (by (with_reducible repeat (first | refine blk_drewN ?_ _ | refine blk_drew ?_ | refine blk_alloc ?_ _)); exact BK198.out) hb); have n3_ := Aside0.mk (Kept.below (S := (fun k_ => P0_0_ k_ ∨ P0_1_ k_)) (by repeat (first | (with_reducible first | exact HK.out | apply Kept.alloc | apply Kept.drewN | apply Kept.drew | refine Kept.setCell ?_ (.inr GW198.out) _) | exact HK.out)) hb); have n4_ := Aside0.mk (below_step (by repeat (first | (with_reducible first | exact HB.out | apply below_alloc | apply pw_below_drewN | apply below_drew1 | refine below_set ?_ GE198.out) | exact HB.out)) hb); have n5_ := Aside0.mk (hbox); have n6_ := Aside0.mk ((by rw [hg]; exact (by first | exact HK.out.1 | exact (show Kept w _ (fun k_ => P0_0_ k_ ∨ P0_1_ k_) from by repeat (first | (with_reducible first | exact HK.out | apply Kept.alloc | apply Kept.drewN | apply Kept.drew | refine Kept.setCell ?_ (.inr GW198.out) _) | exact HK.out)).1) : w.heap.size ≤ gb199)); have n7_ := Aside0.mk ((by rw [hg]; exact (below_size (by repeat (first | (with_reducible first | exact HB.out | apply below_alloc | apply pw_below_drewN | apply below_drew1 | refine below_set ?_ GE198.out) | exact HB.out))) : w0.heap.size ≤ gb199)); have n8_ := Aside0.mk ((by rw [hg]; exact Nat.ne_of_lt (blk_lt (g := gb198) (o := .cells #[.slice Ao4 l0_0.length co4, .slice Ao5 l0_1.length co5, .int .i64 a0_2] 28 (0, 0)) (by (with_reducible repeat (first | refine blk_drewN ?_ _ | refine blk_drew ?_ | refine blk_alloc ?_ _)); exact BK198.out)) : gb198 ≠ gb199)); have n9_ := Aside0.mk ((by rw [hg]; exact Nat.ne_of_gt (blk_lt (g := gb198) (o := .cells #[.slice Ao4 l0_0.length co4, .slice Ao5 l0_1.length co5, .int .i64 a0_2] 28 (0, 0)) (by (with_reducible repeat (first | refine blk_drewN ?_ _ | refine blk_drew ?_ | refine blk_alloc ?_ _)); exact BK198.out)) : gb199 ≠ gb198)); clear HO0_0; clear HO0_1; clear BK198; clear HK; clear HB; have HO0_0 := n0_; have HO0_1 := n1_; have BK198 := n2_; have HK := n3_; have HB := n4_; have BK199 := n5_; have GW199 := n6_; have GE199 := n7_; have NB198_199 := n8_; have NB199_198 := n9_; clear n0_ n1_ n2_ n3_ n4_ n5_ n6_ n7_ n8_ n9_; clear hb hbox hg; have hnb8 := NB198_199.out; have hnc8 := NB199_198.out; have hcz9_0 : w7.cell? ⟨gb198, 0, none⟩ = some (.slice Ao4 l0_0.length co4) := (blk_cell BK198.out 0).trans rfl; have hcz9_1 : w7.cell? ⟨gb198, 1, none⟩ = some (.slice Ao5 l0_1.length co5) := (blk_cell BK198.out 1).trans rfl; have hcz9_2 : w7.cell? ⟨gb198, 2, none⟩ = some (.int .i64 a0_2) := (blk_cell BK198.out 2).trans rfl; have hfz9_0 := blk_frozen BK198.out 0; have hfz9_1 := blk_frozen BK198.out 1; have hfz9_2 := blk_frozen BK198.out 2) | ((with_reducible refine gate_callee (f := 36) rfl ?_); refine goesL_ (some 4) rfl rfl Try.func36 (by kernel_rfl) rfl #[.agg #[.slice Ao4 l0_0.length co4, .slice Ao5 l0_1.length co5, .int .i64 a0_2]] rfl (by (try simp only [List.map_toArray, List.map_cons, List.map_nil]); first | done | rfl | (simp only [List.length_drop, List.length_take]; rfl)) ?_; (with_reducible refine (impl_FrmOk.calls _ _ l0_0 _ _ l0_1 a0_2 true _ ?side1 ?side2 ?side3 ?side4 A2.out).mono ?_); (case side1 => repeat (first | exact (Kd.R_reads' HO0_0.out).2.2 | (with_reducible refine Kd.C_alloc ?_ _) | (with_reducible refine Kd.C_drewN ?_ _) | (with_reducible refine Kd.C_drew ?_))); (case side2 => exact (Kd.R_reads' HO0_0.out).2.1); (case side3 => repeat (first | exact (Kd.R_reads' HO0_1.out).2.2 | (with_reducible refine Kd.C_alloc ?_ _) | (with_reducible refine Kd.C_drewN ?_ _) | (with_reducible refine Kd.C_drew ?_))); (case side4 => exact (Kd.R_reads' HO0_1.out).2.1); rintro e w10 ⟨rfl, hb⟩; refine ⟨_, rfl, ?_⟩; have n0_ := Aside0.mk (Kd.R_below (by (with_reducible repeat (first | apply Kd.R_alloc | apply Kd.R_drewN | apply Kd.R_drew)); exact HO0_0.out) hb); have n1_ := Aside0.mk (Kd.R_below (by (with_reducible repeat (first | apply Kd.R_alloc | apply Kd.R_drewN | apply Kd.R_drew)); exact HO0_1.out) hb); have n2_ := Aside0.mk (blk_below (g := gb198) (o := .cells #[.slice Ao4 l0_0.length co4, .slice Ao5 l0_1.length co5, .int .i64 a0_2] 28 (0, 0)) (by (with_reducible repeat (first | refine blk_drewN ?_ _ | refine blk_drew ?_ | refine blk_alloc ?_ _)); exact BK198.out) hb); have n3_ := Aside0.mk (blk_below (g := gb199) (o := .cells #[.slice none 0 0, .slice none 0 0, .int .i64 0] 28 (0, 0)) (by (with_reducible repeat (first | refine blk_drewN ?_ _ | refine blk_drew ?_ | refine blk_alloc ?_ _)); exact BK199.out) hb); have n4_ := Aside0.mk (Kept.below (S := (fun k_ => P0_0_ k_ ∨ P0_1_ k_)) (by repeat (first | (with_reducible first | exact HK.out | apply Kept.alloc | apply Kept.drewN | apply Kept.drew | refine Kept.setCell ?_ (.inr GW198.out) _ | refine Kept.setCell ?_ (.inr GW199.out) _) | exact HK.out)) hb); have n5_ := Aside0.mk (below_step (by repeat (first | (with_reducible first | exact HB.out | apply below_alloc | apply pw_below_drewN | apply below_drew1 | refine below_set ?_ GE198.out | refine below_set ?_ GE199.out) | exact HB.out)) hb); clear HO0_0; clear HO0_1; clear BK198; clear BK199; clear HK; clear HB; have HO0_0 := n0_; have HO0_1 := n1_; have BK198 := n2_; have BK199 := n3_; have HK := n4_; have HB := n5_; clear n0_ n1_ n2_ n3_ n4_ n5_; (try clear hb); (try clear hb2); (try clear hk); (try clear hi); have hcz11_0 : w10.cell? ⟨gb198, 0, none⟩ = some (.slice Ao4 l0_0.length co4) := (blk_cell BK198.out 0).trans rfl; have hcz11_1 : w10.cell? ⟨gb198, 1, none⟩ = some (.slice Ao5 l0_1.length co5) := (blk_cell BK198.out 1).trans rfl; have hcz11_2 : w10.cell? ⟨gb198, 2, none⟩ = some (.int .i64 a0_2) := (blk_cell BK198.out 2).trans rfl; have hfz11_0 := blk_frozen BK198.out 0; have hfz11_1 := blk_frozen BK198.out 1; have hfz11_2 := blk_frozen BK198.out 2; have hcz12_0 : w10.cell? ⟨gb199, 0, none⟩ = some (.slice none 0 0) := (blk_cell BK199.out 0).trans rfl; have hcz12_1 : w10.cell? ⟨gb199, 1, none⟩ = some (.slice none 0 0) := (blk_cell BK199.out 1).trans rfl; have hcz12_2 : w10.cell? ⟨gb199, 2, none⟩ = some (.int .i64 0) := (blk_cell BK199.out 2).trans rfl; have hfz12_0 := blk_frozen BK199.out 0; have hfz12_1 := blk_frozen BK199.out 1; have hfz12_2 := blk_frozen BK199.out 2))
    refine bodyPost_ret (results_cell_row rfl _ _ gb199 28 #[.slice Ao4 l0_0.length co4, .slice Ao5 l0_1.length co5, .int .i64 a0_2] (0, 0) _ rfl (by (with_reducible repeat (first | refine blk_drewN ?_ _ | refine blk_drew ?_ | refine blk_alloc ?_ _)); refine blk_put (cs := #[.slice Ao4 l0_0.length co4, .slice Ao5 l0_1.length co5, .int .i64 0]) ?_ 2 _ rfl; (with_reducible repeat (first | refine blk_drewN ?_ _ | refine blk_drew ?_ | refine blk_alloc ?_ _)); refine blk_put (cs := #[.slice Ao4 l0_0.length co4, .slice none 0 0, .int .i64 0]) ?_ 1 _ rfl; (with_reducible repeat (first | refine blk_drewN ?_ _ | refine blk_drew ?_ | refine blk_alloc ?_ _)); refine blk_put (cs := #[.slice none 0 0, .slice none 0 0, .int .i64 0]) ?_ 0 _ rfl; (with_reducible repeat (first | refine blk_drewN ?_ _ | refine blk_drew ?_ | refine blk_alloc ?_ _)); exact BK199.out) Try.underlying28 rfl (by kernel_rfl)) rfl ?_
    exact ⟨_, _, by first | rfl | (simp [errW_none, errW_some] <;> rfl) | (simp [*, errW_none, errW_some] <;> rfl), by (with_reducible repeat (first | apply Kd.R_alloc | apply Kd.R_drewN | apply Kd.R_drew)); exact Kd.R_mono (Kd.R_far (p := ⟨gb199, 2, none⟩) (Kd.R_far (p := ⟨gb199, 1, none⟩) (Kd.R_far (p := ⟨gb199, 0, none⟩) (Kd.R_types HO0_0.out BK199.out (by decide)) (fun _ hk => hk.2) (.slice Ao4 l0_0.length co4)) (fun _ hk => hk.2) (.slice Ao5 l0_1.length co5)) (fun _ hk => hk.2) (.int .i64 a0_2)) (fun _ hk => ⟨hk.1.1, hk.1.2⟩), by (with_reducible repeat (first | apply Kd.R_alloc | apply Kd.R_drewN | apply Kd.R_drew)); exact Kd.R_mono (Kd.R_far (p := ⟨gb199, 2, none⟩) (Kd.R_far (p := ⟨gb199, 1, none⟩) (Kd.R_far (p := ⟨gb199, 0, none⟩) (Kd.R_types HO0_1.out BK199.out (by decide)) (fun _ hk => hk.2) (.slice Ao4 l0_0.length co4)) (fun _ hk => hk.2) (.slice Ao5 l0_1.length co5)) (fun _ hk => hk.2) (.int .i64 a0_2)) (fun _ hk => ⟨hk.1.1, hk.1.2⟩), by repeat (first | (with_reducible first | exact HB.out | apply below_alloc | apply pw_below_drewN | apply below_drew1 | refine below_set ?_ GE198.out | refine below_set ?_ GE199.out) | exact HB.out), by repeat (first | (with_reducible first | exact HK.out | apply Kept.alloc | apply Kept.drewN | apply Kept.drew | refine Kept.setCell ?_ (.inr GW198.out) _ | refine Kept.setCell ?_ (.inr GW199.out) _) | exact HK.out)⟩
  · replace c3 := Bool.eq_false_iff.mpr c3
    subst c3
    have H1 : (some (([] : List Int), ([] : List Int), 0)) = some (r1, r2, r3) := by rw [if_neg (show ¬ (false = true) by decide)] at H; exact H
    clear H
    have H := H1
    clear H1
    simp only [Option.some.injEq, Prod.mk.injEq] at H
    obtain ⟨rfl, rfl, rfl⟩ := H
    obtain ⟨Ao13, co13, eo13⟩ := Kd.R_slice HO0_0.out
    subst eo13
    obtain ⟨Ao14, co14, eo14⟩ := Kd.R_slice HO0_1.out
    subst eo14
    go_enter Try.func70, Try.ntmps70
    go_wp2_with (first | ((with_reducible refine gate_dst (N := 1) rfl ?_); refine box_event ?hg (N := 1) ?hd (cs := #[.slice Ao13 l0_0.length co13, .slice Ao14 l0_1.length co14, .int .i64 a0_2]) (t := 28) ?hr ?_; (case hd => rfl); (case hg => rfl); (case hr => first | (go_simp; done) | (go_simp; rfl)); intro gb198 hg w15 hbox hb; have n0_ := Aside0.mk (Kd.R_below (by (with_reducible repeat (first | apply Kd.R_alloc | apply Kd.R_drewN | apply Kd.R_drew)); exact HO0_0.out) hb); have n1_ := Aside0.mk (Kd.R_below (by (with_reducible repeat (first | apply Kd.R_alloc | apply Kd.R_drewN | apply Kd.R_drew)); exact HO0_1.out) hb); have n2_ := Aside0.mk (Kept.below (S := (fun k_ => P0_0_ k_ ∨ P0_1_ k_)) (by repeat (first | (with_reducible first | exact HK.out | apply Kept.alloc | apply Kept.drewN | apply Kept.drew) | exact HK.out)) hb); have n3_ := Aside0.mk (below_step (by repeat (first | (with_reducible first | exact HB.out | apply below_alloc | apply pw_below_drewN | apply below_drew1) | exact HB.out)) hb); have n4_ := Aside0.mk (hbox); have n5_ := Aside0.mk ((by rw [hg]; exact (by first | exact HK.out.1 | exact (show Kept w _ (fun k_ => P0_0_ k_ ∨ P0_1_ k_) from by repeat (first | (with_reducible first | exact HK.out | apply Kept.alloc | apply Kept.drewN | apply Kept.drew) | exact HK.out)).1) : w.heap.size ≤ gb198)); have n6_ := Aside0.mk ((by rw [hg]; exact (below_size (by repeat (first | (with_reducible first | exact HB.out | apply below_alloc | apply pw_below_drewN | apply below_drew1) | exact HB.out))) : w0.heap.size ≤ gb198)); clear HO0_0; clear HO0_1; clear HK; clear HB; have HO0_0 := n0_; have HO0_1 := n1_; have HK := n2_; have HB := n3_; have BK198 := n4_; have GW198 := n5_; have GE198 := n6_; clear n0_ n1_ n2_ n3_ n4_ n5_ n6_; clear hb hbox hg) | ((with_reducible refine gate_dst (N := 2) rfl ?_); refine box_event ?hg (N := 2) ?hd (cs := #[.slice none 0 0, .slice none 0 0, .int .i64 0]) (t := 28) ?hr ?_; (case hd => rfl); (case hg => rfl); (case hr => first | (go_simp; done) | (go_simp; rfl)); intro gb199 hg w16 hbox hb; have n0_ := Aside0.mk (Kd.R_below (by (with_reducible repeat (first | apply Kd.R_alloc | apply Kd.R_drewN | apply Kd.R_drew)); exact HO0_0.out) hb); have n1_ := Aside0.mk (Kd.R_below (by (with_reducible repeat (first | apply Kd.R_alloc | apply Kd.R_drewN | apply Kd.R_drew)); exact HO0_1.out) hb); have n2_ := Aside0.mk (blk_below (g := gb198) (o := .cells #[.slice Ao13 l0_0.length co13, .slice Ao14 l0_1.length co14, .int .i64 a0_2] 28 (0, 0)) (by (with_reducible repeat (first | refine blk_drewN ?_ _ | refine blk_drew ?_ | refine blk_alloc ?_ _)); exact BK198.out) hb); have n3_ := Aside0.mk (Kept.below (S := (fun k_ => P0_0_ k_ ∨ P0_1_ k_)) (by repeat (first | (with_reducible first | exact HK.out | apply Kept.alloc | apply Kept.drewN | apply Kept.drew | refine Kept.setCell ?_ (.inr GW198.out) _) | exact HK.out)) hb); have n4_ := Aside0.mk (below_step (by repeat (first | (with_reducible first | exact HB.out | apply below_alloc | apply pw_below_drewN | apply below_drew1 | refine below_set ?_ GE198.out) | exact HB.out)) hb); have n5_ := Aside0.mk (hbox); have n6_ := Aside0.mk ((by rw [hg]; exact (by first | exact HK.out.1 | exact (show Kept w _ (fun k_ => P0_0_ k_ ∨ P0_1_ k_) from by repeat (first | (with_reducible first | exact HK.out | apply Kept.alloc | apply Kept.drewN | apply Kept.drew | refine Kept.setCell ?_ (.inr GW198.out) _) | exact HK.out)).1) : w.heap.size ≤ gb199)); have n7_ := Aside0.mk ((by rw [hg]; exact (below_size (by repeat (first | (with_reducible first | exact HB.out | apply below_alloc | apply pw_below_drewN | apply below_drew1 | refine below_set ?_ GE198.out) | exact HB.out))) : w0.heap.size ≤ gb199)); have n8_ := Aside0.mk ((by rw [hg]; exact Nat.ne_of_lt (blk_lt (g := gb198) (o := .cells #[.slice Ao13 l0_0.length co13, .slice Ao14 l0_1.length co14, .int .i64 a0_2] 28 (0, 0)) (by (with_reducible repeat (first | refine blk_drewN ?_ _ | refine blk_drew ?_ | refine blk_alloc ?_ _)); exact BK198.out)) : gb198 ≠ gb199)); have n9_ := Aside0.mk ((by rw [hg]; exact Nat.ne_of_gt (blk_lt (g := gb198) (o := .cells #[.slice Ao13 l0_0.length co13, .slice Ao14 l0_1.length co14, .int .i64 a0_2] 28 (0, 0)) (by (with_reducible repeat (first | refine blk_drewN ?_ _ | refine blk_drew ?_ | refine blk_alloc ?_ _)); exact BK198.out)) : gb199 ≠ gb198)); clear HO0_0; clear HO0_1; clear BK198; clear HK; clear HB; have HO0_0 := n0_; have HO0_1 := n1_; have BK198 := n2_; have HK := n3_; have HB := n4_; have BK199 := n5_; have GW199 := n6_; have GE199 := n7_; have NB198_199 := n8_; have NB199_198 := n9_; clear n0_ n1_ n2_ n3_ n4_ n5_ n6_ n7_ n8_ n9_; clear hb hbox hg; have hnb17 := NB198_199.out; have hnc17 := NB199_198.out; have hcz18_0 : w16.cell? ⟨gb198, 0, none⟩ = some (.slice Ao13 l0_0.length co13) := (blk_cell BK198.out 0).trans rfl; have hcz18_1 : w16.cell? ⟨gb198, 1, none⟩ = some (.slice Ao14 l0_1.length co14) := (blk_cell BK198.out 1).trans rfl; have hcz18_2 : w16.cell? ⟨gb198, 2, none⟩ = some (.int .i64 a0_2) := (blk_cell BK198.out 2).trans rfl; have hfz18_0 := blk_frozen BK198.out 0; have hfz18_1 := blk_frozen BK198.out 1; have hfz18_2 := blk_frozen BK198.out 2) | ((with_reducible refine gate_callee (f := 36) rfl ?_); refine goesL_ (some 4) rfl rfl Try.func36 (by kernel_rfl) rfl #[.agg #[.slice Ao13 l0_0.length co13, .slice Ao14 l0_1.length co14, .int .i64 a0_2]] rfl (by (try simp only [List.map_toArray, List.map_cons, List.map_nil]); first | done | rfl | (simp only [List.length_drop, List.length_take]; rfl)) ?_; (with_reducible refine (impl_FrmOk.calls _ _ l0_0 _ _ l0_1 a0_2 false _ ?side1 ?side2 ?side3 ?side4 A2.out).mono ?_); (case side1 => repeat (first | exact (Kd.R_reads' HO0_0.out).2.2 | (with_reducible refine Kd.C_alloc ?_ _) | (with_reducible refine Kd.C_drewN ?_ _) | (with_reducible refine Kd.C_drew ?_))); (case side2 => exact (Kd.R_reads' HO0_0.out).2.1); (case side3 => repeat (first | exact (Kd.R_reads' HO0_1.out).2.2 | (with_reducible refine Kd.C_alloc ?_ _) | (with_reducible refine Kd.C_drewN ?_ _) | (with_reducible refine Kd.C_drew ?_))); (case side4 => exact (Kd.R_reads' HO0_1.out).2.1); rintro e w19 ⟨rfl, hb⟩; refine ⟨_, rfl, ?_⟩; have n0_ := Aside0.mk (Kd.R_below (by (with_reducible repeat (first | apply Kd.R_alloc | apply Kd.R_drewN | apply Kd.R_drew)); exact HO0_0.out) hb); have n1_ := Aside0.mk (Kd.R_below (by (with_reducible repeat (first | apply Kd.R_alloc | apply Kd.R_drewN | apply Kd.R_drew)); exact HO0_1.out) hb); have n2_ := Aside0.mk (blk_below (g := gb198) (o := .cells #[.slice Ao13 l0_0.length co13, .slice Ao14 l0_1.length co14, .int .i64 a0_2] 28 (0, 0)) (by (with_reducible repeat (first | refine blk_drewN ?_ _ | refine blk_drew ?_ | refine blk_alloc ?_ _)); exact BK198.out) hb); have n3_ := Aside0.mk (blk_below (g := gb199) (o := .cells #[.slice none 0 0, .slice none 0 0, .int .i64 0] 28 (0, 0)) (by (with_reducible repeat (first | refine blk_drewN ?_ _ | refine blk_drew ?_ | refine blk_alloc ?_ _)); exact BK199.out) hb); have n4_ := Aside0.mk (Kept.below (S := (fun k_ => P0_0_ k_ ∨ P0_1_ k_)) (by repeat (first | (with_reducible first | exact HK.out | apply Kept.alloc | apply Kept.drewN | apply Kept.drew | refine Kept.setCell ?_ (.inr GW198.out) _ | refine Kept.setCell ?_ (.inr GW199.out) _) | exact HK.out)) hb); have n5_ := Aside0.mk (below_step (by repeat (first | (with_reducible first | exact HB.out | apply below_alloc | apply pw_below_drewN | apply below_drew1 | refine below_set ?_ GE198.out | refine below_set ?_ GE199.out) | exact HB.out)) hb); clear HO0_0; clear HO0_1; clear BK198; clear BK199; clear HK; clear HB; have HO0_0 := n0_; have HO0_1 := n1_; have BK198 := n2_; have BK199 := n3_; have HK := n4_; have HB := n5_; clear n0_ n1_ n2_ n3_ n4_ n5_; (try clear hb); (try clear hb2); (try clear hk); (try clear hi); have hcz20_0 : w19.cell? ⟨gb199, 0, none⟩ = some (.slice none 0 0) := (blk_cell BK199.out 0).trans rfl; have hcz20_1 : w19.cell? ⟨gb199, 1, none⟩ = some (.slice none 0 0) := (blk_cell BK199.out 1).trans rfl; have hcz20_2 : w19.cell? ⟨gb199, 2, none⟩ = some (.int .i64 0) := (blk_cell BK199.out 2).trans rfl; have hfz20_0 := blk_frozen BK199.out 0; have hfz20_1 := blk_frozen BK199.out 1; have hfz20_2 := blk_frozen BK199.out 2))
    refine bodyPost_ret (results_cell_row rfl _ _ gb199 28 #[.slice none 0 0, .slice none 0 0, .int .i64 0] (0, 0) _ rfl (by (with_reducible repeat (first | refine blk_drewN ?_ _ | refine blk_drew ?_ | refine blk_alloc ?_ _)); refine blk_put (cs := #[.slice none 0 0, .slice none 0 0, .int .i64 0]) ?_ 2 _ rfl; (with_reducible repeat (first | refine blk_drewN ?_ _ | refine blk_drew ?_ | refine blk_alloc ?_ _)); refine blk_put (cs := #[.slice none 0 0, .slice none 0 0, .int .i64 0]) ?_ 1 _ rfl; (with_reducible repeat (first | refine blk_drewN ?_ _ | refine blk_drew ?_ | refine blk_alloc ?_ _)); refine blk_put (cs := #[.slice none 0 0, .slice none 0 0, .int .i64 0]) ?_ 0 _ rfl; (with_reducible repeat (first | refine blk_drewN ?_ _ | refine blk_drew ?_ | refine blk_alloc ?_ _)); exact BK199.out) Try.underlying28 rfl (by kernel_rfl)) rfl ?_
    exact ⟨_, _, by first | rfl | (simp [errW_none, errW_some] <;> rfl) | (simp [*, errW_none, errW_some] <;> rfl), by first | exact Kd.R_nil _ _ _ _ _ | exact Kd.N_nil _ _ _ _ _ | exact Kd.V_nil _ _ _ _ _ | exact Kd.Q_nil _ _ _ _ _ | exact Kd.S_nil _ _ _ _ _, by first | exact Kd.R_nil _ _ _ _ _ | exact Kd.N_nil _ _ _ _ _ | exact Kd.V_nil _ _ _ _ _ | exact Kd.Q_nil _ _ _ _ _ | exact Kd.S_nil _ _ _ _ _, by repeat (first | (with_reducible first | exact HB.out | apply below_alloc | apply pw_below_drewN | apply below_drew1 | refine below_set ?_ GE198.out | refine below_set ?_ GE199.out) | exact HB.out), by repeat (first | (with_reducible first | exact HK.out | apply Kept.alloc | apply Kept.drewN | apply Kept.drew | refine Kept.setCell ?_ (.inr GW198.out) _ | refine Kept.setCell ?_ (.inr GW199.out) _) | exact HK.out)⟩

/-! ### impl_FrmTimes: function 51, by hand -/
/-- What 'within' answers. -/
def withinB (l : List Int) (n m : Int) : Bool := decide ((l.length : Int) = n) && !(l.any fun x => !inB x (wrap64 (-m)) m)
theorem within_calls (A : Option Addr) (c : Nat) (l : List Int) (n m : Int) (w : World) (hr : Kd.C (Kd.int .i64) w A l.length l) (hc : l.length ≤ c) :
    Calls Try.prog 53 #[.slice A l.length c, .int .i64 n, .int .i64 m] w fun e w' => e = .returned (.bool (withinB l n m)) ∧ Below w.heap.size w w' := impl_within.calls A c l n m _ w hr hc rfl
theorem in_calls (a lo hi : Int) (w : World) : Calls Try.prog 56 #[.int .i64 a, .int .i64 lo, .int .i64 hi] w fun e w' => e = .returned (.bool (inB a lo hi)) ∧ Drawn0 w w' := impl_in.calls a lo hi _ w (in_inB _ _ _)
theorem put3 {w : World} {g T : Nat} {a b c x y z : Value} (h : w.heap[g]? = some (.cells #[a, b, c] T (0, 0))) :
    (((w.setCell ⟨g, 0, none⟩ x).setCell ⟨g, 1, none⟩ y).setCell ⟨g, 2, none⟩ z).heap[g]? = some (.cells #[x, y, z] T (0, 0)) :=
  blk_put (cs := #[x, y, c]) (blk_put (cs := #[x, b, c]) (blk_put (cs := #[a, b, c]) h 0 _ rfl) 1 _ rfl) 2 _ rfl
theorem far3 {w : World} {g k T : Nat} {cs : Array Value} {x y z : Value} (h : w.heap[k]? = some (.cells cs T (0, 0))) (hne : k ≠ g) :
    (((w.setCell ⟨g, 0, none⟩ x).setCell ⟨g, 1, none⟩ y).setCell ⟨g, 2, none⟩ z).heap[k]? = some (.cells cs T (0, 0)) :=
  blk_far (blk_far (blk_far h hne _) hne _) hne _
theorem below_put3 {B : Nat} {w0 w : World} {g : Nat} {x y z : Value} (h : Below B w0 w) (hg : B ≤ g) : Below B w0 (((w.setCell ⟨g, 0, none⟩ x).setCell ⟨g, 1, none⟩ y).setCell ⟨g, 2, none⟩ z) :=
  ((h.setCell (p := ⟨g, 0, none⟩) hg _).setCell (p := ⟨g, 1, none⟩) hg _).setCell (p := ⟨g, 2, none⟩) hg _
theorem R_put3 {w : World} {base : Nat} {ok : Nat → Prop} {v : Value} {xs : List Int} {g T : Nat} {cs : Array Value} {x y z : Value} (h : Kd.R (Kd.int .i64) 3 w base ok v xs) (hb : w.heap[g]? = some (.cells cs T (0, 0))) (hT : ∀ q, q ∈ 3 :: (Kd.int .i64).E → q ≠ T) :
    Kd.R (Kd.int .i64) 3 (((w.setCell ⟨g, 0, none⟩ x).setCell ⟨g, 1, none⟩ y).setCell ⟨g, 2, none⟩ z) base ok v xs :=
  Kd.R_mono (Kd.R_far (p := ⟨g, 2, none⟩) (Kd.R_far (p := ⟨g, 1, none⟩) (Kd.R_far (p := ⟨g, 0, none⟩) (Kd.R_types h hb hT) (fun _ hk => hk.2) x) (fun _ hk => hk.2) y) (fun _ hk => hk.2) z) (fun _ hk => hk.1)
/-- So many times a list added to another, place by place, as the Go loop goes. -/
def addL : Nat → List Int → List Int → Int → Int → Option (List Int)
  | 0, _, _, _, _ => none
  | k + 1, xs, c, t, i => if i < (c.length : Int) then (if 0 ≤ i then (if i < (xs.length : Int) then addL k (xs.set i.toNat (wrap64 (rd xs i + wrap64 (t * rd c i)))) c t (wrap64 (i + 1)) else none) else none) else some xs
def AddPost (w0 w : World) (F : Nat) (vC vD : Value) (K' : Int) (xs' ys' : List Int) (e : Ending) (w' : World) : Prop :=
  e = .returned (.tuple #[]) ∧ w'.heap[F]? = some (.cells #[vC, vD, .int .i64 K'] 28 (0, 0)) ∧
    Kd.R (Kd.int .i64) 3 w' w0.heap.size (fun k => some k ≠ vD.ownBlock) vC xs' ∧ Kd.R (Kd.int .i64) 3 w' w0.heap.size (fun k => some k ≠ vC.ownBlock) vD ys' ∧ Below w0.heap.size w0 w' ∧
    Kept w w' (fun k => k = F ∨ some k = vC.ownBlock ∨ some k = vD.ownBlock)
theorem kept_alloc {w : World} {S : Nat → Prop} {W : World} (h : Kept w W S) (o : Obj) : Kept w (W.alloc o) S := h.alloc o
set_option maxHeartbeats 4000000 in
set_option maxRecDepth 100000 in
theorem add_calls (k F : Nat) (vC vD : Value) (xs ys : List Int) (K : Int) (A0 : Option Addr) (c0 : Nat) (C : List Int) (A1 : Option Addr) (c1 : Nat) (D : List Int) (gK t : Int) (xs' ys' : List Int) (w0 w : World)
    (hB : Below w0.heap.size w0 w) (hF0 : w0.heap.size ≤ F) (hF : w.heap[F]? = some (.cells #[vC, vD, .int .i64 K] 28 (0, 0)))
    (hC : Kd.R (Kd.int .i64) 3 w w0.heap.size (fun k => some k ≠ vD.ownBlock) vC xs) (hD : Kd.R (Kd.int .i64) 3 w w0.heap.size (fun k => some k ≠ vC.ownBlock) vD ys)
    (hr0 : Kd.C (Kd.int .i64) w0 A0 C.length C) (hr1 : Kd.C (Kd.int .i64) w0 A1 D.length D) (h1 : addL k xs C t 0 = some xs') (h2 : addL k ys D t 0 = some ys') :
    Calls Try.prog 69 #[.pointer (some ⟨F, 0, none⟩), .agg #[.slice A0 C.length c0, .slice A1 D.length c1, .int .i64 gK], .int .i64 t] w (AddPost w0 w F vC vD (wrap64 (K + wrap64 (t * gK))) xs' ys') := by
  have hu := Try.underlying28
  obtain ⟨AC, cC, rfl⟩ := Kd.R_slice hC
  obtain ⟨AD, cD, rfl⟩ := Kd.R_slice hD
  have hm0 := Kd.C_max hr0
  have hm1 := Kd.C_max hr1
  have HR0 := Aside0.mk hr0
  have HR1 := Aside0.mk hr1
  have HB := Aside0.mk hB
  have HF0 := Aside0.mk hF0
  have HF := Aside0.mk hF
  have HC := Aside0.mk hC
  have HD := Aside0.mk hD
  have H1 := Aside0.mk h1
  have H2 := Aside0.mk h2
  have HFl := Aside0.mk (blk_lt hF)
  clear hr0 hr1 hB hF0 hF hC hD h1 h2
  go_enter Try.func69, Try.ntmps69
  go_wp2_with (first | ((with_reducible refine gate_dst (N := 4) rfl ?_); refine box_event ?hg (N := 4) ?hd (cs := #[.slice A0 C.length c0, .slice A1 D.length c1, .int .i64 gK]) (t := 28) ?hr ?_; (case hd => rfl); (case hg => rfl); (case hr => first | (go_simp; done) | (go_simp; rfl)); intro G hG w6 hbox hb; have BG := Aside0.mk hbox; have HFG := Aside0.mk (show F ≠ G by rw [hG]; exact Nat.ne_of_lt HFl.out); have n1 := Aside0.mk (Kd.R_below HC.out hb); have n2 := Aside0.mk (Kd.R_below HD.out hb); have n3 := Aside0.mk (blk_below HF.out hb); have n4 := Aside0.mk (below_then HB.out HB.out.size hb); have HKK := Aside0.mk (show Kept w w6 (fun k => k = F ∨ some k = (Value.slice AC xs.length cC).ownBlock ∨ some k = (Value.slice AD ys.length cD).ownBlock) from ⟨hb.size, fun i hi _ => hb.block i hi⟩); have HGw := Aside0.mk (show w.heap.size ≤ G by rw [hG]; exact Nat.le_refl _); clear HC HD HF HB hb hbox hG; have HC := n1; have HD := n2; have HF := n3; have HB := n4; clear n1 n2 n3 n4; have hg0 : w6.cell? ⟨G, 0, none⟩ = some (.slice A0 C.length c0) := (blk_cell BG.out 0).trans rfl))
  go_loopg [13] k (fun kq v13 wr => ∃ (xi : List Int) (i : Int), v13 = .int .i64 i ∧ Aside0 (xi.length = xs.length) ∧ Aside0 (addL kq xi C t i = some xs') ∧ Aside0 (kq ≤ k) ∧ Aside0 (Kd.R (Kd.int .i64) 3 wr w0.heap.size (fun k => some k ≠ (Value.slice AD ys.length cD).ownBlock) (.slice AC xs.length cC) xi) ∧
    Aside0 (Kd.R (Kd.int .i64) 3 wr w0.heap.size (fun k => some k ≠ (Value.slice AC xs.length cC).ownBlock) (.slice AD ys.length cD) ys) ∧ Aside0 (wr.heap[F]? = some (.cells #[.slice AC xs.length cC, .slice AD ys.length cD, .int .i64 K] 28 (0, 0))) ∧ Aside0 (wr.heap[G]? = some (.cells #[.slice A0 C.length c0, .slice A1 D.length c1, .int .i64 gK] 28 (0, 0))) ∧
    Aside0 (Below w0.heap.size w0 wr) ∧ Aside0 (Kept w wr (fun k => k = F ∨ some k = (Value.slice AC xs.length cC).ownBlock ∨ some k = (Value.slice AD ys.length cD).ownBlock)))
  case atStart => exact ⟨xs, 0, rfl, ⟨rfl⟩, H1, ⟨Nat.le_refl _⟩, HC, HD, HF, BG, HB, HKK⟩
  case round =>
    clear HC HD HF BG HB HKK H1
    obtain ⟨xi, i, rfl, HLn, HA, HK1, HC, HD, HF, BG, HB, HKK⟩ := hrel
    cases gk with
    | zero => exact absurd HA.out (by simp [addL])
    | succ k1 =>
      have H := HA.out
      clear HA
      simp only [addL] at H
      by_cases c6 : i < (C.length : Int)
      · rw [if_pos c6] at H
        by_cases c7 : 0 ≤ i
        case neg => rw [if_neg c7] at H; exact absurd H (by simp)
        case pos =>
          rw [if_pos c7] at H
          by_cases c8 : i < (xi.length : Int)
          case neg => rw [if_neg c8] at H; exact absurd H (by simp)
          case pos =>
            rw [if_pos c8, show wrap64 (i + 1) = i + 1 from by unfold wrap64; omega] at H
            have H' := Aside0.mk H
            clear H
            obtain ⟨ad, e1, hx⟩ := Kd.at_int HR0.out i c7 c6
            cases e1
            replace hx := (HB.out.cell (World.block_lt_of_cell? w0 _ hx)).trans hx
            have hq : i < (xs.length : Int) := by have := HLn.out; omega
            obtain ⟨g9, co9, e9, gb9, gl9, cl9, HG9⟩ := Kd.R_form HC.out (by omega)
            injection e9 with ea en ec
            subst ea
            obtain ⟨hy, hz⟩ := Kd.R_celln 0 HC.out i c7 hq
            have hy' : wr.cell? ⟨g9, i.toNat, none⟩ = some (.int .i64 (rd xi i)) := hy
            clear hy
            have hf0 : wr.cell? ⟨F, 0, none⟩ = some (.slice (some ⟨g9, 0, none⟩) xs.length cC) := (blk_cell HF.out 0).trans rfl
            have HP := Aside0.mk (Kd.R_putg HC.out i (wrap64 (rd xi i + wrap64 (t * rd C i))))
            have GB := Aside0.mk gb9
            clear gb9 gl9 HG9 ec en
            go_wp2
            go_roundg k1
            case measure => have := HK1.out; omega
            case rel => exact ⟨_, i + 1, by go_num, ⟨by rw [List.length_set]; exact HLn.out⟩, H', ⟨by have := HK1.out; omega⟩, ⟨HP.out.1⟩, ⟨Kd.R_grown HD.out HP.out.2 (fun k hk => hk)⟩, ⟨blk_grown HF.out HP.out.2 (Kd.R_ne HC.out HF.out (by decide))⟩, ⟨blk_grown BG.out HP.out.2 (Kd.R_ne HC.out BG.out (by decide))⟩, ⟨HB.out.setCell GB.out _⟩, ⟨Kept.setCell (p := ⟨g9, i.toNat, none⟩) HKK.out (.inl (.inr (.inl rfl))) _⟩⟩
      · rw [if_neg c6] at H
        obtain rfl := Option.some.inj H
        clear H HK1
        have HLx := HLn
        clear HLn
        have hg1 : wr.cell? ⟨G, 1, none⟩ = some (.slice A1 D.length c1) := (blk_cell BG.out 1).trans rfl
        go_wp2
        clear c6
        go_loopg [34] k (fun kq v34 wr => ∃ (yi : List Int) (j : Int), v34 = .int .i64 j ∧ Aside0 (yi.length = ys.length) ∧ Aside0 (addL kq yi D t j = some ys') ∧ Aside0 (kq ≤ k) ∧ Aside0 (Kd.R (Kd.int .i64) 3 wr w0.heap.size (fun k => some k ≠ (Value.slice AD ys.length cD).ownBlock) (.slice AC xs.length cC) xi) ∧
          Aside0 (Kd.R (Kd.int .i64) 3 wr w0.heap.size (fun k => some k ≠ (Value.slice AC xs.length cC).ownBlock) (.slice AD ys.length cD) yi) ∧ Aside0 (wr.heap[F]? = some (.cells #[.slice AC xs.length cC, .slice AD ys.length cD, .int .i64 K] 28 (0, 0))) ∧ Aside0 (wr.heap[G]? = some (.cells #[.slice A0 C.length c0, .slice A1 D.length c1, .int .i64 gK] 28 (0, 0))) ∧
          Aside0 (Below w0.heap.size w0 wr) ∧ Aside0 (Kept w wr (fun k => k = F ∨ some k = (Value.slice AC xs.length cC).ownBlock ∨ some k = (Value.slice AD ys.length cD).ownBlock)))
        case atStart => exact ⟨ys, 0, rfl, ⟨rfl⟩, H2, ⟨Nat.le_refl _⟩, HC, HD, HF, BG, HB, HKK⟩
        case round =>
          clear HC HD HF BG HB HKK H2 hg1
          obtain ⟨yi, j, rfl, HLn, HA, HK1, HC, HD, HF, BG, HB, HKK⟩ := hrel
          cases gk with
          | zero => exact absurd HA.out (by simp [addL])
          | succ k2 =>
            have H := HA.out
            clear HA
            simp only [addL] at H
            by_cases c6 : j < (D.length : Int)
            · rw [if_pos c6] at H
              by_cases c7 : 0 ≤ j
              case neg => rw [if_neg c7] at H; exact absurd H (by simp)
              case pos =>
                rw [if_pos c7] at H
                by_cases c8 : j < (yi.length : Int)
                case neg => rw [if_neg c8] at H; exact absurd H (by simp)
                case pos =>
                  rw [if_pos c8, show wrap64 (j + 1) = j + 1 from by unfold wrap64; omega] at H
                  have H' := Aside0.mk H
                  clear H
                  obtain ⟨ad, e1, hx⟩ := Kd.at_int HR1.out j c7 c6
                  cases e1
                  replace hx := (HB.out.cell (World.block_lt_of_cell? w0 _ hx)).trans hx
                  have hq : j < (ys.length : Int) := by have := HLn.out; omega
                  obtain ⟨g9, co9, e9, gb9, gl9, cl9, HG9⟩ := Kd.R_form HD.out (by omega)
                  injection e9 with ea en ec
                  subst ea
                  obtain ⟨hy, hz⟩ := Kd.R_celln 0 HD.out j c7 hq
                  have hy' : wr.cell? ⟨g9, j.toNat, none⟩ = some (.int .i64 (rd yi j)) := hy
                  clear hy c8
                  have hf1 : wr.cell? ⟨F, 1, none⟩ = some (.slice (some ⟨g9, 0, none⟩) ys.length cD) := (blk_cell HF.out 1).trans rfl
                  have HP := Aside0.mk (Kd.R_putg HD.out j (wrap64 (rd yi j + wrap64 (t * rd D j))))
                  have GB := Aside0.mk gb9
                  clear gb9 gl9 HG9 ec en
                  go_wp2
                  go_roundg k2
                  case measure => have := HK1.out; omega
                  case rel => exact ⟨_, j + 1, by go_num, ⟨by rw [List.length_set]; exact HLn.out⟩, H', ⟨by have := HK1.out; omega⟩, ⟨Kd.R_grown HC.out HP.out.2 (fun k hk => hk)⟩, ⟨HP.out.1⟩, ⟨blk_grown HF.out HP.out.2 (Kd.R_ne HD.out HF.out (by decide))⟩, ⟨blk_grown BG.out HP.out.2 (Kd.R_ne HD.out BG.out (by decide))⟩, ⟨HB.out.setCell GB.out _⟩, ⟨Kept.setCell (p := ⟨g9, j.toNat, none⟩) HKK.out (.inl (.inr (.inr rfl))) _⟩⟩
            · rw [if_neg c6] at H
              obtain rfl := Option.some.inj H
              clear H HK1 HLn HLx
              have hg2 : wr.cell? ⟨G, 2, none⟩ = some (.int .i64 gK) := (blk_cell BG.out 2).trans rfl
              have hf2 : wr.cell? ⟨F, 2, none⟩ = some (.int .i64 K) := (blk_cell HF.out 2).trans rfl
              have hz2 := blk_frozen HF.out 2
              have hne := HFG.out
              go_wp2
              go_region
              all_goals
                go_end0
                exact ⟨rfl, blk_put (cs := #[.slice AC xs.length cC, .slice AD ys.length cD, .int .i64 K]) HF.out 2 _ rfl,
                  Kd.R_mono (Kd.R_far (p := ⟨F, 2, none⟩) (Kd.R_types HC.out HF.out (by decide)) (fun _ hk => hk.2) _) (fun _ hk => hk.1),
                  Kd.R_mono (Kd.R_far (p := ⟨F, 2, none⟩) (Kd.R_types HD.out HF.out (by decide)) (fun _ hk => hk.2) _) (fun _ hk => hk.1),
                  (HB.out.setCell (p := ⟨F, 2, none⟩) HF0.out _).drew, (Kept.setCell (p := ⟨F, 2, none⟩) HKK.out (.inl (.inl rfl)) _).drew⟩
set_option maxHeartbeats 4000000 in
set_option maxRecDepth 100000 in
theorem checked_calls (vC vD : Value) (xs ys : List Int) (K : Int) (b : Bool) (w0 w : World) (hB : Below w0.heap.size w0 w)
    (hC : Kd.R (Kd.int .i64) 3 w w0.heap.size (fun k => some k ≠ vD.ownBlock) vC xs) (hD : Kd.R (Kd.int .i64) 3 w w0.heap.size (fun k => some k ≠ vC.ownBlock) vD ys) (hb : impl_FrmOk.f xs ys K = some b) :
    Calls Try.prog 70 #[.agg #[vC, vD, .int .i64 K]] w fun e w' => ∃ u0 u1 : Value, e = .returned (.agg #[u0, u1, .int .i64 (if b then K else 0)]) ∧
      Kd.R (Kd.int .i64) 3 w' w0.heap.size (fun k => some k ≠ u1.ownBlock) u0 (if b then xs else []) ∧ Kd.R (Kd.int .i64) 3 w' w0.heap.size (fun k => some k ≠ u0.ownBlock) u1 (if b then ys else []) ∧ Below w0.heap.size w0 w' ∧ Below w.heap.size w w' := by
  have hu := Try.underlying28
  obtain ⟨AC, cC, rfl⟩ := Kd.R_slice hC
  obtain ⟨AD, cD, rfl⟩ := Kd.R_slice hD
  obtain ⟨A0, q0, e0, l0, g0⟩ := Kd.R_reads hC
  obtain ⟨A1, q1, e1, l1, g1⟩ := Kd.R_reads hD
  injection e0 with ea0 en0 ec0
  injection e1 with ea1 en1 ec1
  subst ea0 ec0 ea1 ec1
  have HK := Aside0.mk (fun (W : World) (h : Below w.heap.size w W) => impl_FrmOk.calls AC cC xs AD cD ys K b W (Kd.C_below g0 h) l0 (Kd.C_below g1 h) l1 hb)
  have HC := Aside0.mk hC
  have HD := Aside0.mk hD
  have HB0 := Aside0.mk hB
  have HBw := Aside0.mk (Below.refl w.heap.size w)
  have HBz := Aside0.mk hB.size
  clear hC hD g0 g1 l0 l1 hb hB en0 en1
  cases b
  all_goals
    go_enter Try.func70, Try.ntmps70
    go_wp2_with (first
      | ((with_reducible refine gate_dst (N := 1) rfl ?_); refine box_event ?hg (N := 1) ?hd (cs := #[.slice AC xs.length cC, .slice AD ys.length cD, .int .i64 K]) (t := 28) ?hr ?_; (case hd => rfl); (case hg => rfl); (case hr => first | (go_simp; done) | (go_simp; rfl)); intro G1 hG w1 hbox hb; have B1 := Aside0.mk hbox; have n3 := Aside0.mk (below_then HBw.out HBw.out.size hb); clear HBw hbox hb hG; have HBw := n3; clear n3)
      | ((with_reducible refine gate_dst (N := 2) rfl ?_); refine box_event ?hg (N := 2) ?hd (cs := #[.slice none 0 0, .slice none 0 0, .int .i64 0]) (t := 28) ?hr ?_; (case hd => rfl); (case hg => rfl); (case hr => first | (go_simp; done) | (go_simp; rfl)); intro G2 hG w2 hbox hb; have B2 := Aside0.mk hbox; have NE := Aside0.mk (show G2 ≠ G1 by rw [hG]; exact Nat.ne_of_gt (blk_lt B1.out)); have GE2 := Aside0.mk (show w.heap.size ≤ G2 by rw [hG]; exact HBw.out.size); have n1 := Aside0.mk (blk_below B1.out hb); have n3 := Aside0.mk (below_then HBw.out HBw.out.size hb); clear HBw B1 hbox hb hG; have HBw := n3; have B1 := n1; clear n1 n3; have ha0 : w2.cell? ⟨G1, 0, none⟩ = some (.slice AC xs.length cC) := (blk_cell B1.out 0).trans rfl; have ha1 : w2.cell? ⟨G1, 1, none⟩ = some (.slice AD ys.length cD) := (blk_cell B1.out 1).trans rfl; have ha2 : w2.cell? ⟨G1, 2, none⟩ = some (.int .i64 K) := (blk_cell B1.out 2).trans rfl)
      | (go_at_call 36; refine (HK.out _ HBw.out).mono ?_; rintro e w3 ⟨rfl, hb3⟩; have n1 := Aside0.mk (blk_below B1.out hb3); have n2 := Aside0.mk (blk_below B2.out hb3); have n3 := Aside0.mk (below_then HBw.out HBw.out.size hb3); clear B1 B2 HBw hb3; have B1 := n1; have B2 := n2; have HBw := n3; clear n1 n2 n3; have hc0 : w3.cell? ⟨G1, 0, none⟩ = some (.slice AC xs.length cC) := (blk_cell B1.out 0).trans rfl; have hc1 : w3.cell? ⟨G1, 1, none⟩ = some (.slice AD ys.length cD) := (blk_cell B1.out 1).trans rfl; have hc2 : w3.cell? ⟨G1, 2, none⟩ = some (.int .i64 K) := (blk_cell B1.out 2).trans rfl; have hd0 : w3.cell? ⟨G2, 0, none⟩ = some (.slice none 0 0) := (blk_cell B2.out 0).trans rfl; have hd1 : w3.cell? ⟨G2, 1, none⟩ = some (.slice none 0 0) := (blk_cell B2.out 1).trans rfl; have hd2 : w3.cell? ⟨G2, 2, none⟩ = some (.int .i64 0) := (blk_cell B2.out 2).trans rfl; have hz0 := blk_frozen B2.out 0; have hz1 := blk_frozen B2.out 1; have hz2 := blk_frozen B2.out 2; have hne := NE.out))
  · refine bodyPost_ret (results_cell_row rfl _ _ G2 28 #[.slice none 0 0, .slice none 0 0, .int .i64 0] (0, 0) _ rfl (put3 B2.out) Try.underlying28 rfl (by kernel_rfl)) rfl ?_
    exact ⟨_, _, rfl, Kd.R_nil _ _ _ _ _, Kd.R_nil _ _ _ _ _, below_put3 (below_then HB0.out HB0.out.size HBw.out) (Nat.le_trans HBz.out GE2.out), below_put3 HBw.out GE2.out⟩
  · refine bodyPost_ret (results_cell_row rfl _ _ G2 28 #[.slice AC xs.length cC, .slice AD ys.length cD, .int .i64 K] (0, 0) _ rfl (put3 B2.out) Try.underlying28 rfl (by kernel_rfl)) rfl ?_
    exact ⟨_, _, rfl, R_put3 (Kd.R_below HC.out HBw.out) B2.out (by decide), R_put3 (Kd.R_below HD.out HBw.out) B2.out (by decide), below_put3 (below_then HB0.out HB0.out.size HBw.out) (Nat.le_trans HBz.out GE2.out), below_put3 HBw.out GE2.out⟩
def impl_FrmTimes.f (l0_0 : List Int) (l0_1 : List Int) (a0_2 : Int) (a1 : Int) : Option (List Int × List Int × Int) := (impl_FrmOk.f l0_0 l0_1 a0_2).bind fun o => if o = true then (if inB a1 (-10000000) 10000000 = true then ((addL 5 [0, 0, 0] l0_0 a1 0).bind fun x => (addL 5 [0, 0] l0_1 a1 0).bind fun y => (impl_FrmOk.f x y (wrap64 (wrap64 (a1 * a0_2)))).bind fun b => some ((if b then x else []), (if b then y else []), (if b then wrap64 (wrap64 (a1 * a0_2)) else 0))) else some ([], [], 0)) else some ([], [], 0)
set_option maxHeartbeats 8000000 in
set_option maxRecDepth 100000 in
theorem impl_FrmTimes.calls (A0_0 : Option Addr) (c0_0 : Nat) (l0_0 : List Int) (A0_1 : Option Addr) (c0_1 : Nat) (l0_1 : List Int) (a0_2 : Int) (a1 : Int) (r1 : List Int) (r2 : List Int) (r3 : Int) (w : World) (hr0_0 : Kd.C (Kd.int .i64) w A0_0 l0_0.length l0_0) (hc0_0 : l0_0.length ≤ c0_0) (hr0_1 : Kd.C (Kd.int .i64) w A0_1 l0_1.length l0_1) (hc0_1 : l0_1.length ≤ c0_1) (h : impl_FrmTimes.f l0_0 l0_1 a0_2 a1 = some (r1, r2, r3)) :
    Calls Try.prog 51 #[.agg #[.slice A0_0 l0_0.length c0_0, .slice A0_1 l0_1.length c0_1, .int .i64 a0_2], .int .i64 a1] w fun e w' => ∃ v0_ v1_ : Value, e = .returned (.agg #[v0_, v1_, .int .i64 r3]) ∧ Kd.R (Kd.int .i64) 3 w' w.heap.size (fun k_ => some k_ ≠ (v1_ : Value).ownBlock) v0_ r1 ∧ Kd.R (Kd.int .i64) 3 w' w.heap.size (fun k_ => some k_ ≠ (v0_ : Value).ownBlock) v1_ r2 ∧ Below w.heap.size w w' := by
  have hu := Try.underlying28
  unfold impl_FrmTimes.f at h
  have HBw := Aside0.mk (Below.refl w.heap.size w)
  have HZ := Aside0.mk (fun (W : World) => impl_FrmZero.calls [0, 0, 0] [0, 0] 0 W rfl)
  have HI := Aside0.mk (fun (W : World) => in_calls a1 (-10000000) 10000000 W)
  obtain ⟨o0, ho0, h⟩ := Option.bind_eq_some_iff.mp h
  have HK0 := Aside0.mk (fun (W : World) (hb : Below w.heap.size w W) => impl_FrmOk.calls A0_0 c0_0 l0_0 A0_1 c0_1 l0_1 a0_2 o0 W (Kd.C_below hr0_0 hb) hc0_0 (Kd.C_below hr0_1 hb) hc0_1 ho0)
  clear ho0
  cases o0 with
  | false =>
    simp only [Bool.false_eq_true, if_false, Option.some.injEq, Prod.mk.injEq] at h
    obtain ⟨rfl, rfl, rfl⟩ := h
    go_enter Try.func51, Try.ntmps51
    go_wp2_with (first
      | ((with_reducible refine gate_dst (N := 2) rfl ?_); refine box_event ?hg (N := 2) ?hd (cs := #[.slice A0_0 l0_0.length c0_0, .slice A0_1 l0_1.length c0_1, .int .i64 a0_2]) (t := 28) ?hr ?_; (case hd => rfl); (case hg => rfl); (case hr => first | (go_simp; done) | (go_simp; rfl)); intro G0 hG w1 hbox hb; have B0 := Aside0.mk hbox; have n9 := Aside0.mk (below_then HBw.out HBw.out.size hb); clear HBw hbox hb hG; have HBw := n9; clear n9)
      | ((with_reducible refine gate_dst (N := 4) rfl ?_); refine box_event ?hg (N := 4) ?hd (cs := #[.slice none 0 0, .slice none 0 0, .int .i64 0]) (t := 28) ?hr ?_; (case hd => rfl); (case hg => rfl); (case hr => first | (go_simp; done) | (go_simp; rfl)); intro GR hG w4 hbox hb; have BR := Aside0.mk hbox; have GER := Aside0.mk (show w.heap.size ≤ GR by rw [hG]; exact HBw.out.size); have NER0 := Aside0.mk (show GR ≠ G0 by rw [hG]; exact Nat.ne_of_gt (blk_lt B0.out)); have n_B0 := Aside0.mk (blk_below B0.out hb); clear B0; have B0 := n_B0; clear n_B0; have n9 := Aside0.mk (below_then HBw.out HBw.out.size hb); clear HBw; have HBw := n9; clear n9; have hq0 : w4.cell? ⟨G0, 0, none⟩ = some (.slice A0_0 l0_0.length c0_0) := (blk_cell B0.out 0).trans rfl; have hq1 : w4.cell? ⟨G0, 1, none⟩ = some (.slice A0_1 l0_1.length c0_1) := (blk_cell B0.out 1).trans rfl; have hq2 : w4.cell? ⟨G0, 2, none⟩ = some (.int .i64 a0_2) := (blk_cell B0.out 2).trans rfl; clear hbox hb hG)
      | (go_at_call 36; (with_reducible refine (HK0.out _ HBw.out).mono ?_); rintro e wk0 ⟨rfl, hb⟩; have n_B0 := Aside0.mk (blk_below B0.out hb); clear B0; have B0 := n_B0; clear n_B0; have n_BR := Aside0.mk (blk_below BR.out hb); clear BR; have BR := n_BR; clear n_BR; have n9 := Aside0.mk (below_then HBw.out HBw.out.size hb); clear HBw; have HBw := n9; clear n9; clear hb; have hd0_0 : wk0.cell? ⟨GR, 0, none⟩ = some (.slice none 0 0) := (blk_cell BR.out 0).trans rfl; have hd0_1 : wk0.cell? ⟨GR, 1, none⟩ = some (.slice none 0 0) := (blk_cell BR.out 1).trans rfl; have hd0_2 : wk0.cell? ⟨GR, 2, none⟩ = some (.int .i64 0) := (blk_cell BR.out 2).trans rfl; have hz0_0 := blk_frozen BR.out 0; have hz0_1 := blk_frozen BR.out 1; have hz0_2 := blk_frozen BR.out 2; skip)
      | (go_at_call 56; refine (HI.out _).mono ?_; rintro e w' ⟨rfl, ⟨n, rfl⟩⟩)
      | (go_at_call 22; (with_reducible refine (HZ.out _).mono ?_); rintro e w5 ⟨vC, vD, rfl, ho0, ho1, hb0⟩; have hb : Below wk0.heap.size wk0 w5 := ⟨hb0.os, hb0.tape, hb0.output, hb0.size, hb0.block⟩; have HC := Aside0.mk (Kd.R_lower ho0 HBw.out.size); have HD := Aside0.mk (Kd.R_lower ho1 HBw.out.size); have n_B0 := Aside0.mk (blk_below B0.out hb); clear B0; have B0 := n_B0; clear n_B0; have n_BR := Aside0.mk (blk_below BR.out hb); clear BR; have BR := n_BR; clear n_BR; have n9 := Aside0.mk (below_then HBw.out HBw.out.size hb); clear HBw; have HBw := n9; clear n9; clear hb hb0 ho0 ho1; obtain ⟨AC, cC, eC⟩ := Kd.R_slice HC.out; subst eC; obtain ⟨AD, cD, eD⟩ := Kd.R_slice HD.out; subst eD)
      | ((with_reducible refine gate_dst (N := 5) rfl ?_); refine box_event ?hg (N := 5) ?hd (cs := #[.slice none 0 0, .slice none 0 0, .int .i64 0]) (t := 28) ?hr ?_; (case hd => rfl); (case hg => rfl); (case hr => first | (go_simp; done) | (go_simp; rfl)); intro GF hG w6 hbox hb; have BF := Aside0.mk hbox; have GEF := Aside0.mk (show w.heap.size ≤ GF by rw [hG]; exact HBw.out.size); have NEFG0 := Aside0.mk (show G0 ≠ GF by rw [hG]; exact Nat.ne_of_lt (blk_lt B0.out)); have NEFGR := Aside0.mk (show GR ≠ GF by rw [hG]; exact Nat.ne_of_lt (blk_lt BR.out)); have n_B0 := Aside0.mk (blk_below B0.out hb); clear B0; have B0 := n_B0; clear n_B0; have n_BR := Aside0.mk (blk_below BR.out hb); clear BR; have BR := n_BR; clear n_BR; have n1 := Aside0.mk (Kd.R_below HC.out hb); have n2 := Aside0.mk (Kd.R_below HD.out hb); clear HC HD; have HC := n1; have HD := n2; clear n1 n2; have n9 := Aside0.mk (below_then HBw.out HBw.out.size hb); clear HBw; have HBw := n9; clear n9; clear hbox hb hG; have hf0 : w6.cell? ⟨GF, 0, none⟩ = some (.slice none 0 0) := (blk_cell BF.out 0).trans rfl; have hf1 : w6.cell? ⟨GF, 1, none⟩ = some (.slice none 0 0) := (blk_cell BF.out 1).trans rfl; have hf2 : w6.cell? ⟨GF, 2, none⟩ = some (.int .i64 0) := (blk_cell BF.out 2).trans rfl; have hy0 := blk_frozen BF.out 0; have hy1 := blk_frozen BF.out 1; have hy2 := blk_frozen BF.out 2)
      | ((with_reducible refine gate_store (t := 28) (p := 5) rfl ?_); refine store_event (t := 28) (p := 5) (v := ?vo_) (w1 := (((w6.setCell ⟨GF, 0, none⟩ (.slice AC 3 cC)).setCell ⟨GF, 1, none⟩ (.slice AD 2 cD)).setCell ⟨GF, 2, none⟩ (.int .i64 0))) ?hg ?ho ?hn ?hr ?_; (case ho => rfl); (case hg => rfl); (case hn => rfl); (case hr => first | (go_simp; done) | (go_simp; rfl)); intro w7 hw; have n1 : Aside0 (Kd.R (Kd.int .i64) 3 w7 w.heap.size (fun k => some k ≠ (Value.slice AD 2 cD).ownBlock) (.slice AC 3 cC) [0, 0, 0]) := ⟨by rw [hw]; exact R_put3 HC.out BF.out (by decide)⟩; have n2 : Aside0 (Kd.R (Kd.int .i64) 3 w7 w.heap.size (fun k => some k ≠ (Value.slice AC 3 cC).ownBlock) (.slice AD 2 cD) [0, 0]) := ⟨by rw [hw]; exact R_put3 HD.out BF.out (by decide)⟩; have n_B0 : Aside0 (w7.heap[G0]? = some (.cells #[.slice A0_0 l0_0.length c0_0, .slice A0_1 l0_1.length c0_1, .int .i64 a0_2] 28 (0, 0))) := ⟨by rw [hw]; exact far3 B0.out NEFG0.out⟩; clear B0; have B0 := n_B0; clear n_B0; have n_BR : Aside0 (w7.heap[GR]? = some (.cells #[.slice none 0 0, .slice none 0 0, .int .i64 0] 28 (0, 0))) := ⟨by rw [hw]; exact far3 BR.out NEFGR.out⟩; clear BR; have BR := n_BR; clear n_BR; have n4 : Aside0 (w7.heap[GF]? = some (.cells #[.slice AC 3 cC, .slice AD 2 cD, .int .i64 0] 28 (0, 0))) := ⟨by rw [hw]; exact put3 BF.out⟩; have n5 : Aside0 (Below w.heap.size w w7) := ⟨by rw [hw]; exact below_put3 HBw.out GEF.out⟩; clear HC HD BF HBw hw; have HC := n1; have HD := n2; have BF := n4; have HBw := n5; clear n1 n2 n4 n5; have hb0_0 : w7.cell? ⟨G0, 0, none⟩ = some (.slice A0_0 l0_0.length c0_0) := (blk_cell B0.out 0).trans rfl; have hb0_1 : w7.cell? ⟨G0, 1, none⟩ = some (.slice A0_1 l0_1.length c0_1) := (blk_cell B0.out 1).trans rfl; have hb0_2 : w7.cell? ⟨G0, 2, none⟩ = some (.int .i64 a0_2) := (blk_cell B0.out 2).trans rfl)
      | (go_at_call 69; (with_reducible refine (HA0.out _ _ HBw.out _ _ GEF.out BF.out HC.out HD.out).mono ?_); rintro e wa0 ⟨rfl, hF, hC, hD, hB, hKp⟩; (try simp only [Int.zero_add, Int.one_mul] at hF); have n_B0 := Aside0.mk (blk_kept B0.out hKp (fun e_ => e_.elim (fun e_ => NEFG0.out e_) (fun e_ => e_.elim (fun e_ => Kd.R_ne HC.out B0.out (by decide) e_) (fun e_ => Kd.R_ne HD.out B0.out (by decide) e_)))); have n_BR := Aside0.mk (blk_kept BR.out hKp (fun e_ => e_.elim (fun e_ => NEFGR.out e_) (fun e_ => e_.elim (fun e_ => Kd.R_ne HC.out BR.out (by decide) e_) (fun e_ => Kd.R_ne HD.out BR.out (by decide) e_)))); clear B0; have B0 := n_B0; clear n_B0; clear BR; have BR := n_BR; clear n_BR; have n1 := Aside0.mk hF; have n2 := Aside0.mk hC; have n3 := Aside0.mk hD; have n4 := Aside0.mk hB; clear BF HC HD HBw hF hC hD hB hKp; have BF := n1; have HC := n2; have HD := n3; have HBw := n4; clear n1 n2 n3 n4; have hf0_0 : wa0.cell? ⟨GF, 0, none⟩ = some (.slice AC 3 cC) := (blk_cell BF.out 0).trans rfl; have hf0_1 : wa0.cell? ⟨GF, 1, none⟩ = some (.slice AD 2 cD) := (blk_cell BF.out 1).trans rfl; have hf0_2 : wa0.cell? ⟨GF, 2, none⟩ = some (.int .i64 (wrap64 (wrap64 (a1 * a0_2)))) := (blk_cell BF.out 2).trans rfl; skip)
      | (go_at_call 70; (with_reducible refine (checked_calls _ _ _ _ _ true w _ HBw.out HC.out HD.out HCK.out).mono ?_); rintro e w9 ⟨u0, u1, rfl, hu0, hu1, hB, hb⟩; simp only [if_true, Bool.false_eq_true, if_false] at hu0 hu1; have n1 := Aside0.mk (blk_below BR.out hb); clear BR; have BR := n1; clear n1; have HU0 := Aside0.mk hu0; have HU1 := Aside0.mk hu1; have HB9 := Aside0.mk hB; clear hu0 hu1 hB hb; obtain ⟨U0, q0, e0⟩ := Kd.R_slice HU0.out; subst e0; obtain ⟨U1, q1, e1⟩ := Kd.R_slice HU1.out; subst e1; have hr0 : w9.cell? ⟨GR, 0, none⟩ = some (.slice none 0 0) := (blk_cell BR.out 0).trans rfl; have hr1 : w9.cell? ⟨GR, 1, none⟩ = some (.slice none 0 0) := (blk_cell BR.out 1).trans rfl; have hr2 : w9.cell? ⟨GR, 2, none⟩ = some (.int .i64 0) := (blk_cell BR.out 2).trans rfl; have hs0 := blk_frozen BR.out 0; have hs1 := blk_frozen BR.out 1; have hs2 := blk_frozen BR.out 2))
    refine bodyPost_ret (results_cell_row rfl _ _ GR 28 #[.slice none 0 0, .slice none 0 0, .int .i64 0] (0, 0) _ rfl (put3 (by first | exact BR.out | exact blk_drewN BR.out _)) Try.underlying28 rfl (by kernel_rfl)) rfl ?_
    exact ⟨_, _, rfl, Kd.R_nil _ _ _ _ _, Kd.R_nil _ _ _ _ _, below_put3 (by first | exact HBw.out | exact pw_below_drewN HBw.out _) GER.out⟩
  | true =>
    simp only [if_true] at h
    by_cases hin : inB a1 (-10000000) 10000000 = true
    case neg =>
      rw [if_neg hin] at h
      rw [Bool.eq_false_iff.mpr hin] at HI
      simp only [Option.some.injEq, Prod.mk.injEq] at h
      obtain ⟨rfl, rfl, rfl⟩ := h
      clear hin
      go_enter Try.func51, Try.ntmps51
      go_wp2_with (first
        | ((with_reducible refine gate_dst (N := 2) rfl ?_); refine box_event ?hg (N := 2) ?hd (cs := #[.slice A0_0 l0_0.length c0_0, .slice A0_1 l0_1.length c0_1, .int .i64 a0_2]) (t := 28) ?hr ?_; (case hd => rfl); (case hg => rfl); (case hr => first | (go_simp; done) | (go_simp; rfl)); intro G0 hG w1 hbox hb; have B0 := Aside0.mk hbox; have n9 := Aside0.mk (below_then HBw.out HBw.out.size hb); clear HBw hbox hb hG; have HBw := n9; clear n9)
        | ((with_reducible refine gate_dst (N := 4) rfl ?_); refine box_event ?hg (N := 4) ?hd (cs := #[.slice none 0 0, .slice none 0 0, .int .i64 0]) (t := 28) ?hr ?_; (case hd => rfl); (case hg => rfl); (case hr => first | (go_simp; done) | (go_simp; rfl)); intro GR hG w4 hbox hb; have BR := Aside0.mk hbox; have GER := Aside0.mk (show w.heap.size ≤ GR by rw [hG]; exact HBw.out.size); have NER0 := Aside0.mk (show GR ≠ G0 by rw [hG]; exact Nat.ne_of_gt (blk_lt B0.out)); have n_B0 := Aside0.mk (blk_below B0.out hb); clear B0; have B0 := n_B0; clear n_B0; have n9 := Aside0.mk (below_then HBw.out HBw.out.size hb); clear HBw; have HBw := n9; clear n9; have hq0 : w4.cell? ⟨G0, 0, none⟩ = some (.slice A0_0 l0_0.length c0_0) := (blk_cell B0.out 0).trans rfl; have hq1 : w4.cell? ⟨G0, 1, none⟩ = some (.slice A0_1 l0_1.length c0_1) := (blk_cell B0.out 1).trans rfl; have hq2 : w4.cell? ⟨G0, 2, none⟩ = some (.int .i64 a0_2) := (blk_cell B0.out 2).trans rfl; clear hbox hb hG)
        | (go_at_call 36; (with_reducible refine (HK0.out _ HBw.out).mono ?_); rintro e wk0 ⟨rfl, hb⟩; have n_B0 := Aside0.mk (blk_below B0.out hb); clear B0; have B0 := n_B0; clear n_B0; have n_BR := Aside0.mk (blk_below BR.out hb); clear BR; have BR := n_BR; clear n_BR; have n9 := Aside0.mk (below_then HBw.out HBw.out.size hb); clear HBw; have HBw := n9; clear n9; clear hb; have hd0_0 : wk0.cell? ⟨GR, 0, none⟩ = some (.slice none 0 0) := (blk_cell BR.out 0).trans rfl; have hd0_1 : wk0.cell? ⟨GR, 1, none⟩ = some (.slice none 0 0) := (blk_cell BR.out 1).trans rfl; have hd0_2 : wk0.cell? ⟨GR, 2, none⟩ = some (.int .i64 0) := (blk_cell BR.out 2).trans rfl; have hz0_0 := blk_frozen BR.out 0; have hz0_1 := blk_frozen BR.out 1; have hz0_2 := blk_frozen BR.out 2; skip)
        | (go_at_call 56; refine (HI.out _).mono ?_; rintro e w' ⟨rfl, ⟨n, rfl⟩⟩)
        | (go_at_call 22; (with_reducible refine (HZ.out _).mono ?_); rintro e w5 ⟨vC, vD, rfl, ho0, ho1, hb0⟩; have hb : Below wk0.heap.size wk0 w5 := ⟨hb0.os, hb0.tape, hb0.output, hb0.size, hb0.block⟩; have HC := Aside0.mk (Kd.R_lower ho0 HBw.out.size); have HD := Aside0.mk (Kd.R_lower ho1 HBw.out.size); have n_B0 := Aside0.mk (blk_below B0.out hb); clear B0; have B0 := n_B0; clear n_B0; have n_BR := Aside0.mk (blk_below BR.out hb); clear BR; have BR := n_BR; clear n_BR; have n9 := Aside0.mk (below_then HBw.out HBw.out.size hb); clear HBw; have HBw := n9; clear n9; clear hb hb0 ho0 ho1; obtain ⟨AC, cC, eC⟩ := Kd.R_slice HC.out; subst eC; obtain ⟨AD, cD, eD⟩ := Kd.R_slice HD.out; subst eD)
        | ((with_reducible refine gate_dst (N := 5) rfl ?_); refine box_event ?hg (N := 5) ?hd (cs := #[.slice none 0 0, .slice none 0 0, .int .i64 0]) (t := 28) ?hr ?_; (case hd => rfl); (case hg => rfl); (case hr => first | (go_simp; done) | (go_simp; rfl)); intro GF hG w6 hbox hb; have BF := Aside0.mk hbox; have GEF := Aside0.mk (show w.heap.size ≤ GF by rw [hG]; exact HBw.out.size); have NEFG0 := Aside0.mk (show G0 ≠ GF by rw [hG]; exact Nat.ne_of_lt (blk_lt B0.out)); have NEFGR := Aside0.mk (show GR ≠ GF by rw [hG]; exact Nat.ne_of_lt (blk_lt BR.out)); have n_B0 := Aside0.mk (blk_below B0.out hb); clear B0; have B0 := n_B0; clear n_B0; have n_BR := Aside0.mk (blk_below BR.out hb); clear BR; have BR := n_BR; clear n_BR; have n1 := Aside0.mk (Kd.R_below HC.out hb); have n2 := Aside0.mk (Kd.R_below HD.out hb); clear HC HD; have HC := n1; have HD := n2; clear n1 n2; have n9 := Aside0.mk (below_then HBw.out HBw.out.size hb); clear HBw; have HBw := n9; clear n9; clear hbox hb hG; have hf0 : w6.cell? ⟨GF, 0, none⟩ = some (.slice none 0 0) := (blk_cell BF.out 0).trans rfl; have hf1 : w6.cell? ⟨GF, 1, none⟩ = some (.slice none 0 0) := (blk_cell BF.out 1).trans rfl; have hf2 : w6.cell? ⟨GF, 2, none⟩ = some (.int .i64 0) := (blk_cell BF.out 2).trans rfl; have hy0 := blk_frozen BF.out 0; have hy1 := blk_frozen BF.out 1; have hy2 := blk_frozen BF.out 2)
        | ((with_reducible refine gate_store (t := 28) (p := 5) rfl ?_); refine store_event (t := 28) (p := 5) (v := ?vo_) (w1 := (((w6.setCell ⟨GF, 0, none⟩ (.slice AC 3 cC)).setCell ⟨GF, 1, none⟩ (.slice AD 2 cD)).setCell ⟨GF, 2, none⟩ (.int .i64 0))) ?hg ?ho ?hn ?hr ?_; (case ho => rfl); (case hg => rfl); (case hn => rfl); (case hr => first | (go_simp; done) | (go_simp; rfl)); intro w7 hw; have n1 : Aside0 (Kd.R (Kd.int .i64) 3 w7 w.heap.size (fun k => some k ≠ (Value.slice AD 2 cD).ownBlock) (.slice AC 3 cC) [0, 0, 0]) := ⟨by rw [hw]; exact R_put3 HC.out BF.out (by decide)⟩; have n2 : Aside0 (Kd.R (Kd.int .i64) 3 w7 w.heap.size (fun k => some k ≠ (Value.slice AC 3 cC).ownBlock) (.slice AD 2 cD) [0, 0]) := ⟨by rw [hw]; exact R_put3 HD.out BF.out (by decide)⟩; have n_B0 : Aside0 (w7.heap[G0]? = some (.cells #[.slice A0_0 l0_0.length c0_0, .slice A0_1 l0_1.length c0_1, .int .i64 a0_2] 28 (0, 0))) := ⟨by rw [hw]; exact far3 B0.out NEFG0.out⟩; clear B0; have B0 := n_B0; clear n_B0; have n_BR : Aside0 (w7.heap[GR]? = some (.cells #[.slice none 0 0, .slice none 0 0, .int .i64 0] 28 (0, 0))) := ⟨by rw [hw]; exact far3 BR.out NEFGR.out⟩; clear BR; have BR := n_BR; clear n_BR; have n4 : Aside0 (w7.heap[GF]? = some (.cells #[.slice AC 3 cC, .slice AD 2 cD, .int .i64 0] 28 (0, 0))) := ⟨by rw [hw]; exact put3 BF.out⟩; have n5 : Aside0 (Below w.heap.size w w7) := ⟨by rw [hw]; exact below_put3 HBw.out GEF.out⟩; clear HC HD BF HBw hw; have HC := n1; have HD := n2; have BF := n4; have HBw := n5; clear n1 n2 n4 n5; have hb0_0 : w7.cell? ⟨G0, 0, none⟩ = some (.slice A0_0 l0_0.length c0_0) := (blk_cell B0.out 0).trans rfl; have hb0_1 : w7.cell? ⟨G0, 1, none⟩ = some (.slice A0_1 l0_1.length c0_1) := (blk_cell B0.out 1).trans rfl; have hb0_2 : w7.cell? ⟨G0, 2, none⟩ = some (.int .i64 a0_2) := (blk_cell B0.out 2).trans rfl)
        | (go_at_call 69; (with_reducible refine (HA0.out _ _ HBw.out _ _ GEF.out BF.out HC.out HD.out).mono ?_); rintro e wa0 ⟨rfl, hF, hC, hD, hB, hKp⟩; (try simp only [Int.zero_add, Int.one_mul] at hF); have n_B0 := Aside0.mk (blk_kept B0.out hKp (fun e_ => e_.elim (fun e_ => NEFG0.out e_) (fun e_ => e_.elim (fun e_ => Kd.R_ne HC.out B0.out (by decide) e_) (fun e_ => Kd.R_ne HD.out B0.out (by decide) e_)))); have n_BR := Aside0.mk (blk_kept BR.out hKp (fun e_ => e_.elim (fun e_ => NEFGR.out e_) (fun e_ => e_.elim (fun e_ => Kd.R_ne HC.out BR.out (by decide) e_) (fun e_ => Kd.R_ne HD.out BR.out (by decide) e_)))); clear B0; have B0 := n_B0; clear n_B0; clear BR; have BR := n_BR; clear n_BR; have n1 := Aside0.mk hF; have n2 := Aside0.mk hC; have n3 := Aside0.mk hD; have n4 := Aside0.mk hB; clear BF HC HD HBw hF hC hD hB hKp; have BF := n1; have HC := n2; have HD := n3; have HBw := n4; clear n1 n2 n3 n4; have hf0_0 : wa0.cell? ⟨GF, 0, none⟩ = some (.slice AC 3 cC) := (blk_cell BF.out 0).trans rfl; have hf0_1 : wa0.cell? ⟨GF, 1, none⟩ = some (.slice AD 2 cD) := (blk_cell BF.out 1).trans rfl; have hf0_2 : wa0.cell? ⟨GF, 2, none⟩ = some (.int .i64 (wrap64 (wrap64 (a1 * a0_2)))) := (blk_cell BF.out 2).trans rfl; skip)
        | (go_at_call 70; (with_reducible refine (checked_calls _ _ _ _ _ true w _ HBw.out HC.out HD.out HCK.out).mono ?_); rintro e w9 ⟨u0, u1, rfl, hu0, hu1, hB, hb⟩; simp only [if_true, Bool.false_eq_true, if_false] at hu0 hu1; have n1 := Aside0.mk (blk_below BR.out hb); clear BR; have BR := n1; clear n1; have HU0 := Aside0.mk hu0; have HU1 := Aside0.mk hu1; have HB9 := Aside0.mk hB; clear hu0 hu1 hB hb; obtain ⟨U0, q0, e0⟩ := Kd.R_slice HU0.out; subst e0; obtain ⟨U1, q1, e1⟩ := Kd.R_slice HU1.out; subst e1; have hr0 : w9.cell? ⟨GR, 0, none⟩ = some (.slice none 0 0) := (blk_cell BR.out 0).trans rfl; have hr1 : w9.cell? ⟨GR, 1, none⟩ = some (.slice none 0 0) := (blk_cell BR.out 1).trans rfl; have hr2 : w9.cell? ⟨GR, 2, none⟩ = some (.int .i64 0) := (blk_cell BR.out 2).trans rfl; have hs0 := blk_frozen BR.out 0; have hs1 := blk_frozen BR.out 1; have hs2 := blk_frozen BR.out 2))
      refine bodyPost_ret (results_cell_row rfl _ _ GR 28 #[.slice none 0 0, .slice none 0 0, .int .i64 0] (0, 0) _ rfl (put3 (by first | exact BR.out | exact blk_drewN BR.out _)) Try.underlying28 rfl (by kernel_rfl)) rfl ?_
      exact ⟨_, _, rfl, Kd.R_nil _ _ _ _ _, Kd.R_nil _ _ _ _ _, below_put3 (by first | exact HBw.out | exact pw_below_drewN HBw.out _) GER.out⟩
    case pos =>
      rw [if_pos hin] at h
      rw [hin] at HI
      clear hin
      obtain ⟨x0, hx0, h⟩ := Option.bind_eq_some_iff.mp h
      obtain ⟨y0, hy0, h⟩ := Option.bind_eq_some_iff.mp h
      have HA0 := Aside0.mk (fun (W : World) (F : Nat) (hB : Below w.heap.size w W) (vC vD : Value) (hF0 : w.heap.size ≤ F) (hF : W.heap[F]? = some (.cells #[vC, vD, .int .i64 (0)] 28 (0, 0))) hC hD => add_calls 5 F vC vD [0, 0, 0] [0, 0] (0) A0_0 c0_0 l0_0 A0_1 c0_1 l0_1 a0_2 (a1) x0 y0 w W hB hF0 hF hC hD hr0_0 hr0_1 hx0 hy0)
      obtain ⟨b, hbk, h⟩ := Option.bind_eq_some_iff.mp h
      have HCK := Aside0.mk hbk
      clear hbk hx0 hy0 hr0_0 hr0_1
      cases b with
      | false =>
        simp only [if_true, Bool.false_eq_true, if_false, Option.some.injEq, Prod.mk.injEq] at h
        obtain ⟨rfl, rfl, rfl⟩ := h
        go_enter Try.func51, Try.ntmps51
        go_wp2_with (first
          | ((with_reducible refine gate_dst (N := 2) rfl ?_); refine box_event ?hg (N := 2) ?hd (cs := #[.slice A0_0 l0_0.length c0_0, .slice A0_1 l0_1.length c0_1, .int .i64 a0_2]) (t := 28) ?hr ?_; (case hd => rfl); (case hg => rfl); (case hr => first | (go_simp; done) | (go_simp; rfl)); intro G0 hG w1 hbox hb; have B0 := Aside0.mk hbox; have n9 := Aside0.mk (below_then HBw.out HBw.out.size hb); clear HBw hbox hb hG; have HBw := n9; clear n9)
          | ((with_reducible refine gate_dst (N := 4) rfl ?_); refine box_event ?hg (N := 4) ?hd (cs := #[.slice none 0 0, .slice none 0 0, .int .i64 0]) (t := 28) ?hr ?_; (case hd => rfl); (case hg => rfl); (case hr => first | (go_simp; done) | (go_simp; rfl)); intro GR hG w4 hbox hb; have BR := Aside0.mk hbox; have GER := Aside0.mk (show w.heap.size ≤ GR by rw [hG]; exact HBw.out.size); have NER0 := Aside0.mk (show GR ≠ G0 by rw [hG]; exact Nat.ne_of_gt (blk_lt B0.out)); have n_B0 := Aside0.mk (blk_below B0.out hb); clear B0; have B0 := n_B0; clear n_B0; have n9 := Aside0.mk (below_then HBw.out HBw.out.size hb); clear HBw; have HBw := n9; clear n9; have hq0 : w4.cell? ⟨G0, 0, none⟩ = some (.slice A0_0 l0_0.length c0_0) := (blk_cell B0.out 0).trans rfl; have hq1 : w4.cell? ⟨G0, 1, none⟩ = some (.slice A0_1 l0_1.length c0_1) := (blk_cell B0.out 1).trans rfl; have hq2 : w4.cell? ⟨G0, 2, none⟩ = some (.int .i64 a0_2) := (blk_cell B0.out 2).trans rfl; clear hbox hb hG)
          | (go_at_call 36; (with_reducible refine (HK0.out _ HBw.out).mono ?_); rintro e wk0 ⟨rfl, hb⟩; have n_B0 := Aside0.mk (blk_below B0.out hb); clear B0; have B0 := n_B0; clear n_B0; have n_BR := Aside0.mk (blk_below BR.out hb); clear BR; have BR := n_BR; clear n_BR; have n9 := Aside0.mk (below_then HBw.out HBw.out.size hb); clear HBw; have HBw := n9; clear n9; clear hb; have hd0_0 : wk0.cell? ⟨GR, 0, none⟩ = some (.slice none 0 0) := (blk_cell BR.out 0).trans rfl; have hd0_1 : wk0.cell? ⟨GR, 1, none⟩ = some (.slice none 0 0) := (blk_cell BR.out 1).trans rfl; have hd0_2 : wk0.cell? ⟨GR, 2, none⟩ = some (.int .i64 0) := (blk_cell BR.out 2).trans rfl; have hz0_0 := blk_frozen BR.out 0; have hz0_1 := blk_frozen BR.out 1; have hz0_2 := blk_frozen BR.out 2; skip)
          | (go_at_call 56; refine (HI.out _).mono ?_; rintro e w' ⟨rfl, ⟨n, rfl⟩⟩)
          | (go_at_call 22; (with_reducible refine (HZ.out _).mono ?_); rintro e w5 ⟨vC, vD, rfl, ho0, ho1, hb0⟩; have hb : Below wk0.heap.size wk0 w5 := ⟨hb0.os, hb0.tape, hb0.output, hb0.size, hb0.block⟩; have HC := Aside0.mk (Kd.R_lower ho0 HBw.out.size); have HD := Aside0.mk (Kd.R_lower ho1 HBw.out.size); have n_B0 := Aside0.mk (blk_below B0.out hb); clear B0; have B0 := n_B0; clear n_B0; have n_BR := Aside0.mk (blk_below BR.out hb); clear BR; have BR := n_BR; clear n_BR; have n9 := Aside0.mk (below_then HBw.out HBw.out.size hb); clear HBw; have HBw := n9; clear n9; clear hb hb0 ho0 ho1; obtain ⟨AC, cC, eC⟩ := Kd.R_slice HC.out; subst eC; obtain ⟨AD, cD, eD⟩ := Kd.R_slice HD.out; subst eD)
          | ((with_reducible refine gate_dst (N := 5) rfl ?_); refine box_event ?hg (N := 5) ?hd (cs := #[.slice none 0 0, .slice none 0 0, .int .i64 0]) (t := 28) ?hr ?_; (case hd => rfl); (case hg => rfl); (case hr => first | (go_simp; done) | (go_simp; rfl)); intro GF hG w6 hbox hb; have BF := Aside0.mk hbox; have GEF := Aside0.mk (show w.heap.size ≤ GF by rw [hG]; exact HBw.out.size); have NEFG0 := Aside0.mk (show G0 ≠ GF by rw [hG]; exact Nat.ne_of_lt (blk_lt B0.out)); have NEFGR := Aside0.mk (show GR ≠ GF by rw [hG]; exact Nat.ne_of_lt (blk_lt BR.out)); have n_B0 := Aside0.mk (blk_below B0.out hb); clear B0; have B0 := n_B0; clear n_B0; have n_BR := Aside0.mk (blk_below BR.out hb); clear BR; have BR := n_BR; clear n_BR; have n1 := Aside0.mk (Kd.R_below HC.out hb); have n2 := Aside0.mk (Kd.R_below HD.out hb); clear HC HD; have HC := n1; have HD := n2; clear n1 n2; have n9 := Aside0.mk (below_then HBw.out HBw.out.size hb); clear HBw; have HBw := n9; clear n9; clear hbox hb hG; have hf0 : w6.cell? ⟨GF, 0, none⟩ = some (.slice none 0 0) := (blk_cell BF.out 0).trans rfl; have hf1 : w6.cell? ⟨GF, 1, none⟩ = some (.slice none 0 0) := (blk_cell BF.out 1).trans rfl; have hf2 : w6.cell? ⟨GF, 2, none⟩ = some (.int .i64 0) := (blk_cell BF.out 2).trans rfl; have hy0 := blk_frozen BF.out 0; have hy1 := blk_frozen BF.out 1; have hy2 := blk_frozen BF.out 2)
          | ((with_reducible refine gate_store (t := 28) (p := 5) rfl ?_); refine store_event (t := 28) (p := 5) (v := ?vo_) (w1 := (((w6.setCell ⟨GF, 0, none⟩ (.slice AC 3 cC)).setCell ⟨GF, 1, none⟩ (.slice AD 2 cD)).setCell ⟨GF, 2, none⟩ (.int .i64 0))) ?hg ?ho ?hn ?hr ?_; (case ho => rfl); (case hg => rfl); (case hn => rfl); (case hr => first | (go_simp; done) | (go_simp; rfl)); intro w7 hw; have n1 : Aside0 (Kd.R (Kd.int .i64) 3 w7 w.heap.size (fun k => some k ≠ (Value.slice AD 2 cD).ownBlock) (.slice AC 3 cC) [0, 0, 0]) := ⟨by rw [hw]; exact R_put3 HC.out BF.out (by decide)⟩; have n2 : Aside0 (Kd.R (Kd.int .i64) 3 w7 w.heap.size (fun k => some k ≠ (Value.slice AC 3 cC).ownBlock) (.slice AD 2 cD) [0, 0]) := ⟨by rw [hw]; exact R_put3 HD.out BF.out (by decide)⟩; have n_B0 : Aside0 (w7.heap[G0]? = some (.cells #[.slice A0_0 l0_0.length c0_0, .slice A0_1 l0_1.length c0_1, .int .i64 a0_2] 28 (0, 0))) := ⟨by rw [hw]; exact far3 B0.out NEFG0.out⟩; clear B0; have B0 := n_B0; clear n_B0; have n_BR : Aside0 (w7.heap[GR]? = some (.cells #[.slice none 0 0, .slice none 0 0, .int .i64 0] 28 (0, 0))) := ⟨by rw [hw]; exact far3 BR.out NEFGR.out⟩; clear BR; have BR := n_BR; clear n_BR; have n4 : Aside0 (w7.heap[GF]? = some (.cells #[.slice AC 3 cC, .slice AD 2 cD, .int .i64 0] 28 (0, 0))) := ⟨by rw [hw]; exact put3 BF.out⟩; have n5 : Aside0 (Below w.heap.size w w7) := ⟨by rw [hw]; exact below_put3 HBw.out GEF.out⟩; clear HC HD BF HBw hw; have HC := n1; have HD := n2; have BF := n4; have HBw := n5; clear n1 n2 n4 n5; have hb0_0 : w7.cell? ⟨G0, 0, none⟩ = some (.slice A0_0 l0_0.length c0_0) := (blk_cell B0.out 0).trans rfl; have hb0_1 : w7.cell? ⟨G0, 1, none⟩ = some (.slice A0_1 l0_1.length c0_1) := (blk_cell B0.out 1).trans rfl; have hb0_2 : w7.cell? ⟨G0, 2, none⟩ = some (.int .i64 a0_2) := (blk_cell B0.out 2).trans rfl)
          | (go_at_call 69; (with_reducible refine (HA0.out _ _ HBw.out _ _ GEF.out BF.out HC.out HD.out).mono ?_); rintro e wa0 ⟨rfl, hF, hC, hD, hB, hKp⟩; (try simp only [Int.zero_add, Int.one_mul] at hF); have n_B0 := Aside0.mk (blk_kept B0.out hKp (fun e_ => e_.elim (fun e_ => NEFG0.out e_) (fun e_ => e_.elim (fun e_ => Kd.R_ne HC.out B0.out (by decide) e_) (fun e_ => Kd.R_ne HD.out B0.out (by decide) e_)))); have n_BR := Aside0.mk (blk_kept BR.out hKp (fun e_ => e_.elim (fun e_ => NEFGR.out e_) (fun e_ => e_.elim (fun e_ => Kd.R_ne HC.out BR.out (by decide) e_) (fun e_ => Kd.R_ne HD.out BR.out (by decide) e_)))); clear B0; have B0 := n_B0; clear n_B0; clear BR; have BR := n_BR; clear n_BR; have n1 := Aside0.mk hF; have n2 := Aside0.mk hC; have n3 := Aside0.mk hD; have n4 := Aside0.mk hB; clear BF HC HD HBw hF hC hD hB hKp; have BF := n1; have HC := n2; have HD := n3; have HBw := n4; clear n1 n2 n3 n4; have hf0_0 : wa0.cell? ⟨GF, 0, none⟩ = some (.slice AC 3 cC) := (blk_cell BF.out 0).trans rfl; have hf0_1 : wa0.cell? ⟨GF, 1, none⟩ = some (.slice AD 2 cD) := (blk_cell BF.out 1).trans rfl; have hf0_2 : wa0.cell? ⟨GF, 2, none⟩ = some (.int .i64 (wrap64 (wrap64 (a1 * a0_2)))) := (blk_cell BF.out 2).trans rfl; skip)
          | (go_at_call 70; (with_reducible refine (checked_calls _ _ _ _ _ false w _ HBw.out HC.out HD.out HCK.out).mono ?_); rintro e w9 ⟨u0, u1, rfl, hu0, hu1, hB, hb⟩; simp only [if_true, Bool.false_eq_true, if_false] at hu0 hu1; have n1 := Aside0.mk (blk_below BR.out hb); clear BR; have BR := n1; clear n1; have HU0 := Aside0.mk hu0; have HU1 := Aside0.mk hu1; have HB9 := Aside0.mk hB; clear hu0 hu1 hB hb; obtain ⟨U0, q0, e0⟩ := Kd.R_slice HU0.out; subst e0; obtain ⟨U1, q1, e1⟩ := Kd.R_slice HU1.out; subst e1; have hr0 : w9.cell? ⟨GR, 0, none⟩ = some (.slice none 0 0) := (blk_cell BR.out 0).trans rfl; have hr1 : w9.cell? ⟨GR, 1, none⟩ = some (.slice none 0 0) := (blk_cell BR.out 1).trans rfl; have hr2 : w9.cell? ⟨GR, 2, none⟩ = some (.int .i64 0) := (blk_cell BR.out 2).trans rfl; have hs0 := blk_frozen BR.out 0; have hs1 := blk_frozen BR.out 1; have hs2 := blk_frozen BR.out 2))
        refine bodyPost_ret (results_cell_row rfl _ _ GR 28 #[.slice U0 0 q0, .slice U1 0 q1, .int .i64 0] (0, 0) _ rfl (put3 BR.out) Try.underlying28 rfl (by kernel_rfl)) rfl ?_
        exact ⟨_, _, rfl, R_put3 HU0.out BR.out (by decide), R_put3 HU1.out BR.out (by decide), below_put3 HB9.out GER.out⟩
      | true =>
        simp only [if_true, Bool.false_eq_true, if_false, Option.some.injEq, Prod.mk.injEq] at h
        obtain ⟨rfl, rfl, rfl⟩ := h
        go_enter Try.func51, Try.ntmps51
        go_wp2_with (first
          | ((with_reducible refine gate_dst (N := 2) rfl ?_); refine box_event ?hg (N := 2) ?hd (cs := #[.slice A0_0 l0_0.length c0_0, .slice A0_1 l0_1.length c0_1, .int .i64 a0_2]) (t := 28) ?hr ?_; (case hd => rfl); (case hg => rfl); (case hr => first | (go_simp; done) | (go_simp; rfl)); intro G0 hG w1 hbox hb; have B0 := Aside0.mk hbox; have n9 := Aside0.mk (below_then HBw.out HBw.out.size hb); clear HBw hbox hb hG; have HBw := n9; clear n9)
          | ((with_reducible refine gate_dst (N := 4) rfl ?_); refine box_event ?hg (N := 4) ?hd (cs := #[.slice none 0 0, .slice none 0 0, .int .i64 0]) (t := 28) ?hr ?_; (case hd => rfl); (case hg => rfl); (case hr => first | (go_simp; done) | (go_simp; rfl)); intro GR hG w4 hbox hb; have BR := Aside0.mk hbox; have GER := Aside0.mk (show w.heap.size ≤ GR by rw [hG]; exact HBw.out.size); have NER0 := Aside0.mk (show GR ≠ G0 by rw [hG]; exact Nat.ne_of_gt (blk_lt B0.out)); have n_B0 := Aside0.mk (blk_below B0.out hb); clear B0; have B0 := n_B0; clear n_B0; have n9 := Aside0.mk (below_then HBw.out HBw.out.size hb); clear HBw; have HBw := n9; clear n9; have hq0 : w4.cell? ⟨G0, 0, none⟩ = some (.slice A0_0 l0_0.length c0_0) := (blk_cell B0.out 0).trans rfl; have hq1 : w4.cell? ⟨G0, 1, none⟩ = some (.slice A0_1 l0_1.length c0_1) := (blk_cell B0.out 1).trans rfl; have hq2 : w4.cell? ⟨G0, 2, none⟩ = some (.int .i64 a0_2) := (blk_cell B0.out 2).trans rfl; clear hbox hb hG)
          | (go_at_call 36; (with_reducible refine (HK0.out _ HBw.out).mono ?_); rintro e wk0 ⟨rfl, hb⟩; have n_B0 := Aside0.mk (blk_below B0.out hb); clear B0; have B0 := n_B0; clear n_B0; have n_BR := Aside0.mk (blk_below BR.out hb); clear BR; have BR := n_BR; clear n_BR; have n9 := Aside0.mk (below_then HBw.out HBw.out.size hb); clear HBw; have HBw := n9; clear n9; clear hb; have hd0_0 : wk0.cell? ⟨GR, 0, none⟩ = some (.slice none 0 0) := (blk_cell BR.out 0).trans rfl; have hd0_1 : wk0.cell? ⟨GR, 1, none⟩ = some (.slice none 0 0) := (blk_cell BR.out 1).trans rfl; have hd0_2 : wk0.cell? ⟨GR, 2, none⟩ = some (.int .i64 0) := (blk_cell BR.out 2).trans rfl; have hz0_0 := blk_frozen BR.out 0; have hz0_1 := blk_frozen BR.out 1; have hz0_2 := blk_frozen BR.out 2; skip)
          | (go_at_call 56; refine (HI.out _).mono ?_; rintro e w' ⟨rfl, ⟨n, rfl⟩⟩)
          | (go_at_call 22; (with_reducible refine (HZ.out _).mono ?_); rintro e w5 ⟨vC, vD, rfl, ho0, ho1, hb0⟩; have hb : Below wk0.heap.size wk0 w5 := ⟨hb0.os, hb0.tape, hb0.output, hb0.size, hb0.block⟩; have HC := Aside0.mk (Kd.R_lower ho0 HBw.out.size); have HD := Aside0.mk (Kd.R_lower ho1 HBw.out.size); have n_B0 := Aside0.mk (blk_below B0.out hb); clear B0; have B0 := n_B0; clear n_B0; have n_BR := Aside0.mk (blk_below BR.out hb); clear BR; have BR := n_BR; clear n_BR; have n9 := Aside0.mk (below_then HBw.out HBw.out.size hb); clear HBw; have HBw := n9; clear n9; clear hb hb0 ho0 ho1; obtain ⟨AC, cC, eC⟩ := Kd.R_slice HC.out; subst eC; obtain ⟨AD, cD, eD⟩ := Kd.R_slice HD.out; subst eD)
          | ((with_reducible refine gate_dst (N := 5) rfl ?_); refine box_event ?hg (N := 5) ?hd (cs := #[.slice none 0 0, .slice none 0 0, .int .i64 0]) (t := 28) ?hr ?_; (case hd => rfl); (case hg => rfl); (case hr => first | (go_simp; done) | (go_simp; rfl)); intro GF hG w6 hbox hb; have BF := Aside0.mk hbox; have GEF := Aside0.mk (show w.heap.size ≤ GF by rw [hG]; exact HBw.out.size); have NEFG0 := Aside0.mk (show G0 ≠ GF by rw [hG]; exact Nat.ne_of_lt (blk_lt B0.out)); have NEFGR := Aside0.mk (show GR ≠ GF by rw [hG]; exact Nat.ne_of_lt (blk_lt BR.out)); have n_B0 := Aside0.mk (blk_below B0.out hb); clear B0; have B0 := n_B0; clear n_B0; have n_BR := Aside0.mk (blk_below BR.out hb); clear BR; have BR := n_BR; clear n_BR; have n1 := Aside0.mk (Kd.R_below HC.out hb); have n2 := Aside0.mk (Kd.R_below HD.out hb); clear HC HD; have HC := n1; have HD := n2; clear n1 n2; have n9 := Aside0.mk (below_then HBw.out HBw.out.size hb); clear HBw; have HBw := n9; clear n9; clear hbox hb hG; have hf0 : w6.cell? ⟨GF, 0, none⟩ = some (.slice none 0 0) := (blk_cell BF.out 0).trans rfl; have hf1 : w6.cell? ⟨GF, 1, none⟩ = some (.slice none 0 0) := (blk_cell BF.out 1).trans rfl; have hf2 : w6.cell? ⟨GF, 2, none⟩ = some (.int .i64 0) := (blk_cell BF.out 2).trans rfl; have hy0 := blk_frozen BF.out 0; have hy1 := blk_frozen BF.out 1; have hy2 := blk_frozen BF.out 2)
          | ((with_reducible refine gate_store (t := 28) (p := 5) rfl ?_); refine store_event (t := 28) (p := 5) (v := ?vo_) (w1 := (((w6.setCell ⟨GF, 0, none⟩ (.slice AC 3 cC)).setCell ⟨GF, 1, none⟩ (.slice AD 2 cD)).setCell ⟨GF, 2, none⟩ (.int .i64 0))) ?hg ?ho ?hn ?hr ?_; (case ho => rfl); (case hg => rfl); (case hn => rfl); (case hr => first | (go_simp; done) | (go_simp; rfl)); intro w7 hw; have n1 : Aside0 (Kd.R (Kd.int .i64) 3 w7 w.heap.size (fun k => some k ≠ (Value.slice AD 2 cD).ownBlock) (.slice AC 3 cC) [0, 0, 0]) := ⟨by rw [hw]; exact R_put3 HC.out BF.out (by decide)⟩; have n2 : Aside0 (Kd.R (Kd.int .i64) 3 w7 w.heap.size (fun k => some k ≠ (Value.slice AC 3 cC).ownBlock) (.slice AD 2 cD) [0, 0]) := ⟨by rw [hw]; exact R_put3 HD.out BF.out (by decide)⟩; have n_B0 : Aside0 (w7.heap[G0]? = some (.cells #[.slice A0_0 l0_0.length c0_0, .slice A0_1 l0_1.length c0_1, .int .i64 a0_2] 28 (0, 0))) := ⟨by rw [hw]; exact far3 B0.out NEFG0.out⟩; clear B0; have B0 := n_B0; clear n_B0; have n_BR : Aside0 (w7.heap[GR]? = some (.cells #[.slice none 0 0, .slice none 0 0, .int .i64 0] 28 (0, 0))) := ⟨by rw [hw]; exact far3 BR.out NEFGR.out⟩; clear BR; have BR := n_BR; clear n_BR; have n4 : Aside0 (w7.heap[GF]? = some (.cells #[.slice AC 3 cC, .slice AD 2 cD, .int .i64 0] 28 (0, 0))) := ⟨by rw [hw]; exact put3 BF.out⟩; have n5 : Aside0 (Below w.heap.size w w7) := ⟨by rw [hw]; exact below_put3 HBw.out GEF.out⟩; clear HC HD BF HBw hw; have HC := n1; have HD := n2; have BF := n4; have HBw := n5; clear n1 n2 n4 n5; have hb0_0 : w7.cell? ⟨G0, 0, none⟩ = some (.slice A0_0 l0_0.length c0_0) := (blk_cell B0.out 0).trans rfl; have hb0_1 : w7.cell? ⟨G0, 1, none⟩ = some (.slice A0_1 l0_1.length c0_1) := (blk_cell B0.out 1).trans rfl; have hb0_2 : w7.cell? ⟨G0, 2, none⟩ = some (.int .i64 a0_2) := (blk_cell B0.out 2).trans rfl)
          | (go_at_call 69; (with_reducible refine (HA0.out _ _ HBw.out _ _ GEF.out BF.out HC.out HD.out).mono ?_); rintro e wa0 ⟨rfl, hF, hC, hD, hB, hKp⟩; (try simp only [Int.zero_add, Int.one_mul] at hF); have n_B0 := Aside0.mk (blk_kept B0.out hKp (fun e_ => e_.elim (fun e_ => NEFG0.out e_) (fun e_ => e_.elim (fun e_ => Kd.R_ne HC.out B0.out (by decide) e_) (fun e_ => Kd.R_ne HD.out B0.out (by decide) e_)))); have n_BR := Aside0.mk (blk_kept BR.out hKp (fun e_ => e_.elim (fun e_ => NEFGR.out e_) (fun e_ => e_.elim (fun e_ => Kd.R_ne HC.out BR.out (by decide) e_) (fun e_ => Kd.R_ne HD.out BR.out (by decide) e_)))); clear B0; have B0 := n_B0; clear n_B0; clear BR; have BR := n_BR; clear n_BR; have n1 := Aside0.mk hF; have n2 := Aside0.mk hC; have n3 := Aside0.mk hD; have n4 := Aside0.mk hB; clear BF HC HD HBw hF hC hD hB hKp; have BF := n1; have HC := n2; have HD := n3; have HBw := n4; clear n1 n2 n3 n4; have hf0_0 : wa0.cell? ⟨GF, 0, none⟩ = some (.slice AC 3 cC) := (blk_cell BF.out 0).trans rfl; have hf0_1 : wa0.cell? ⟨GF, 1, none⟩ = some (.slice AD 2 cD) := (blk_cell BF.out 1).trans rfl; have hf0_2 : wa0.cell? ⟨GF, 2, none⟩ = some (.int .i64 (wrap64 (wrap64 (a1 * a0_2)))) := (blk_cell BF.out 2).trans rfl; skip)
          | (go_at_call 70; (with_reducible refine (checked_calls _ _ _ _ _ true w _ HBw.out HC.out HD.out HCK.out).mono ?_); rintro e w9 ⟨u0, u1, rfl, hu0, hu1, hB, hb⟩; simp only [if_true, Bool.false_eq_true, if_false] at hu0 hu1; have n1 := Aside0.mk (blk_below BR.out hb); clear BR; have BR := n1; clear n1; have HU0 := Aside0.mk hu0; have HU1 := Aside0.mk hu1; have HB9 := Aside0.mk hB; clear hu0 hu1 hB hb; obtain ⟨U0, q0, e0⟩ := Kd.R_slice HU0.out; subst e0; obtain ⟨U1, q1, e1⟩ := Kd.R_slice HU1.out; subst e1; have hr0 : w9.cell? ⟨GR, 0, none⟩ = some (.slice none 0 0) := (blk_cell BR.out 0).trans rfl; have hr1 : w9.cell? ⟨GR, 1, none⟩ = some (.slice none 0 0) := (blk_cell BR.out 1).trans rfl; have hr2 : w9.cell? ⟨GR, 2, none⟩ = some (.int .i64 0) := (blk_cell BR.out 2).trans rfl; have hs0 := blk_frozen BR.out 0; have hs1 := blk_frozen BR.out 1; have hs2 := blk_frozen BR.out 2))
        refine bodyPost_ret (results_cell_row rfl _ _ GR 28 #[.slice U0 x0.length q0, .slice U1 y0.length q1, .int .i64 (wrap64 (wrap64 (a1 * a0_2)))] (0, 0) _ rfl (put3 BR.out) Try.underlying28 rfl (by kernel_rfl)) rfl ?_
        exact ⟨_, _, rfl, R_put3 HU0.out BR.out (by decide), R_put3 HU1.out BR.out (by decide), below_put3 HB9.out GER.out⟩

end Go.Proofs.Ytgpncpabgojbfaa.QFnExactFrmTimes
