/- Plain functions, and that the Go code computes them: written by a program of this session over the seat's translation; the conditions stand in each theorem. -/
import Derived.Test.YtopbdoilpdpkmaaQFnFrmIntox0
import Derived.Test.YtopbdoilpdpkmaaQFnFrmIntox4
namespace Go.Proofs.Ytopbdoilpdpkmaa.QFnFrmInto
open Go.RowKit Go.Proofs.YtopbdoilpdpkmaaW.PrintWords Go.Proofs.YtopbdoilpdpkmaaW.PrintLast Go.Proofs.YtopbdoilpdpkmaaW.PrintMore Go.Proofs.Ytopbdoilpdpkmaa.HWords
attribute [local go_sem] max2_int min2_int max_two min_two max_three min_three max_four min_four   -- for this text's walks alone
set_option linter.unusedVariables false
set_option linter.unusedSimpArgs false

/-! ### impl_FrmZero: function 18 -/
def impl_FrmZero.f  : Option (List Int × List Int × Int) := if 3 ≤ 35184372088832 then (if 2 ≤ 35184372088832 then (some ((List.replicate 3 0), (List.replicate 2 0), 0)) else (none)) else (none)
set_option maxHeartbeats 8000000 in
set_option maxRecDepth 100000 in
theorem impl_FrmZero.calls  (r1 : List Int) (r2 : List Int) (r3 : Int) (w : World) (h : impl_FrmZero.f  = some (r1, r2, r3)) :
  Calls Try.prog 18 #[] w fun e w' => ∃ v0_ v1_ : Value, e = .returned (.agg #[v0_, v1_, .int .i64 r3]) ∧ Kd.R (Kd.int .i64) 3 w' w.heap.size (fun k_ => some k_ ≠ (v1_ : Value).ownBlock) v0_ r1 ∧ Kd.R (Kd.int .i64) 3 w' w.heap.size (fun k_ => some k_ ≠ (v0_ : Value).ownBlock) v1_ r2 ∧ Below w.heap.size w w' := by
 have hu25 := Try.underlying25
 have HB := Aside0.mk (Below.refl w.heap.size w)
 have H : (if 3 ≤ 35184372088832 then (if 2 ≤ 35184372088832 then (some ((List.replicate 3 0), (List.replicate 2 0), 0)) else (none)) else (none)) = some (r1, r2, r3) := h
 clear h
 by_cases c1 : 3 ≤ 35184372088832
 ·rw [if_pos c1] at H
  have c1b0 := eq_true c1
  have c1b1 : decide (3 ≤ 35184372088832) = true := decide_eq_true c1
  clear c1
  obtain ⟨y323, hy323⟩ : ∃ y_ : List Int, y_ = (List.replicate 3 0) := ⟨_, rfl⟩
  replace H : (if 2 ≤ 35184372088832 then (some (y323, (List.replicate 2 0), 0)) else (none)) = some (r1, r2, r3) := by first | (rw [hy323]; with_reducible exact H) | (have H2_ := (Option.bind_some _ _).symm.trans H; rw [hy323]; with_reducible exact H2_) | (have H2_ := (Option.bind_some _ _).symm.trans H; with_reducible exact H2_) | with_reducible exact H | (rw [hy323]; exact H) | exact H
  have Ny323 := Aside0.mk hy323
  clear hy323
  by_cases c2 : 2 ≤ 35184372088832
  ·rw [if_pos c2] at H
   have c2b0 := eq_true c2
   have c2b1 : decide (2 ≤ 35184372088832) = true := decide_eq_true c2
   clear c2
   obtain ⟨y326, hy326⟩ : ∃ y_ : List Int, y_ = (List.replicate 2 0) := ⟨_, rfl⟩
   replace H : (some (y323, y326, 0)) = some (r1, r2, r3) := by first | (rw [hy326]; with_reducible exact H) | (have H2_ := (Option.bind_some _ _).symm.trans H; rw [hy326]; with_reducible exact H2_) | (have H2_ := (Option.bind_some _ _).symm.trans H; with_reducible exact H2_) | with_reducible exact H | (rw [hy326]; exact H) | exact H
   have Ny326 := Aside0.mk hy326
   clear hy326
   simp only [Option.some.injEq, Prod.mk.injEq] at H
   obtain ⟨rfl, rfl, rfl⟩ := H
   go_enter Try.func18, Try.ntmps18
   try go_wp2_with (first | ((with_reducible refine gate_dst (N := 0) rfl ?_); refine box_event ?hg (N := 0) ?hd (cs := #[.slice none 0 0, .slice none 0 0, .int .i64 0]) (t := 25) ?hr ?_; (case hd => rfl); (case hg => rfl); (case hr => first | (go_simp; done) | (go_simp; rfl)); intro gb322 hg w3 hbox hb; have BK322 := Aside0.mk (hbox); have GW322 := Aside0.mk ((by rw [hg]; exact (below_size (by exact lB HB.out)) : w.heap.size ≤ gb322)); have IGW322 : Nonempty _ := ⟨GW322.out⟩; have GE322 := Aside0.mk ((by rw [hg]; exact (below_size (by exact lB HB.out)) : w.heap.size ≤ gb322)); have IGE322 : Nonempty _ := ⟨GE322.out⟩; replace HB := Aside0.mk (below_step (by exact lB HB.out) hb); clear hb hbox hg))
   replace BK322 := Aside0.mk (blk_drew BK322.out)
   replace HB := Aside0.mk (below_drew1 HB.out)
   refine start_ (n := 4) (S := fun w' => True) (ds := []) #[false, false, false, false] (by kernel_rfl) rfl rfl trivial (fun hHeld => ?_)
   generalize w3.drew = w4 at BK322 HB hHeld ⊢
   refine join_ (σ := Value × Value) 2 #[true, true, false, false] (fun s_ => [(1, s_.1), (2, s_.2)]) (fun s_ w' => (Kd.R (Kd.int .i64) 3 w' w.heap.size (fun k_ => some k_ ≠ (s_.2 : Value).ownBlock) s_.1 y323) ∧ (Kd.R (Kd.int .i64) 3 w' w.heap.size (fun k_ => some k_ ≠ (s_.1 : Value).ownBlock) s_.2 y326) ∧ (w'.heap[gb322]? = some (.cells #[.slice none 0 0, .slice none 0 0, .int .i64 0] 25 (0, 0))) ∧ (Below w.heap.size w w')) ?_ ?_
   rotate_left
   ·intro hCont
    refine two_ (i := 0) (j := 1) (Ni := some 1) (Nj := some 2) #[true, false, false, false] #[false, true, false, false] rfl rfl rfl rfl (by kernel_rfl) (by decide) (by decide) (fun K hK => ?_) (fun K hK => ?_)
    ·skip
     refine Kd.R_make_step (Kd.int .i64) _ 3 (by rfl) (N := 1) rfl 23 _ _ rfl 3 rfl rfl Try.underlying23 (.int .i64 0) 8 info3 rfl (by decide) (by omega) 0 (ok := fun _ => True) (okp := fun _ => True) rfl (fun _ hk => hk) trivial (by omega) (by omega) (Below.refl _ _) (Nat.le_refl _) ?_
     intro v324 w5 ho6 hb hg_ hnew_
     clear hg_ hnew_
     (first | rw [← Ny323.out] at ho6 | (simp only [Int.reduceToNat] at ho6; rw [← Ny323.out] at ho6))
     have HO325 := Aside0.mk (Kd.R_lower ho6 (below_size (by exact jB HB.out)))
     replace BK322 := Aside0.mk (bb BK322.out hb)
     replace HB := Aside0.mk (below_step (by exact jB HB.out) hb)
     clear hb ho6
     refine hK.out _ _ trivial (fun hHeld => ?_)
     clear hK K
     refine norm_ (a' := ?_) ?_ ?_
     rotate_left
     ·show Act.put _ (some 1) _ = _
      simp only [Act.put, sA, s0, sS, i64_w, i32_w]
      rfl
     refine one_ (i := 1) (N := some 2) #[true, true, false, false] rfl rfl (by kernel_rfl) (by decide) (fun K hK => ?_)
     refine Kd.R_make_step (Kd.int .i64) _ 3 (by rfl) (N := 2) rfl 23 _ _ rfl 2 rfl rfl Try.underlying23 (.int .i64 0) 8 info3 rfl (by decide) (by omega) 0 (ok := fun _ => True) (okp := fun _ => True) rfl (fun _ hk => hk) trivial (by omega) (by omega) (Below.refl _ _) (Nat.le_refl _) ?_
     intro v327 w7 ho8 hb hg_ hnew_
     clear hg_ hnew_
     (first | rw [← Ny326.out] at ho8 | (simp only [Int.reduceToNat] at ho8; rw [← Ny326.out] at ho8))
     have HO328 := Aside0.mk (Kd.R_lower (Kd.R_new' ho8 (rl HO325.out)) (below_size (by exact jB HB.out)))
     replace HO325 := Aside0.mk (Kd.R_elder' (by exact lR HO325.out) (Kd.R_base ho8) hb)
     replace BK322 := Aside0.mk (bb BK322.out hb)
     replace HB := Aside0.mk (below_step (by exact jB HB.out) hb)
     clear hb ho8
     obtain ⟨Ao9, co9, eo9⟩ := Kd.R_slice HO328.out
     (first | subst eo9 | (injection eo9 with f1_ f2_ f3_; have f4_ := f1_.symm; have f5_ := f3_.symm; clear f1_ f2_ f3_; subst f4_; subst f5_))
     obtain ⟨Ao10, co10, eo10⟩ := Kd.R_slice HO325.out
     (first | subst eo10 | (injection eo10 with f1_ f2_ f3_; have f4_ := f1_.symm; have f5_ := f3_.symm; clear f1_ f2_ f3_; subst f4_; subst f5_))
     refine hK.out _ _ trivial (fun hHeld => ?_)
     clear hK K
     refine norm_ (a' := ?_) ?_ ?_
     rotate_left
     ·show Act.put _ (some 2) _ = _
      simp only [Act.put, sA, s0, sS, i64_w, i32_w]
      rfl
     exact norm_ (by simp only [putAll, Act.put, List.setIfInBounds_toArray, List.set_cons_zero, List.set_cons_succ]) (hCont (.slice Ao10 y323.length co10, .slice Ao9 y326.length co9) _ ⟨(by exact lR <| Kd.R_mono HO325.out (fun _ hk => hk.2)), (by exact lR <| Kd.R_mono HO328.out (fun _ hk => hk.2)), (by exact lK BK322.out), (by exact jB HB.out)⟩)
    ·skip
     refine Kd.R_make_step (Kd.int .i64) _ 3 (by rfl) (N := 2) rfl 23 _ _ rfl 2 rfl rfl Try.underlying23 (.int .i64 0) 8 info3 rfl (by decide) (by omega) 0 (ok := fun _ => True) (okp := fun _ => True) rfl (fun _ hk => hk) trivial (by omega) (by omega) (Below.refl _ _) (Nat.le_refl _) ?_
     intro v327 w5 ho6 hb hg_ hnew_
     clear hg_ hnew_
     (first | rw [← Ny326.out] at ho6 | (simp only [Int.reduceToNat] at ho6; rw [← Ny326.out] at ho6))
     have HO328 := Aside0.mk (Kd.R_lower ho6 (below_size (by exact jB HB.out)))
     replace BK322 := Aside0.mk (bb BK322.out hb)
     replace HB := Aside0.mk (below_step (by exact jB HB.out) hb)
     clear hb ho6
     refine hK.out _ _ trivial (fun hHeld => ?_)
     clear hK K
     refine norm_ (a' := ?_) ?_ ?_
     rotate_left
     ·show Act.put _ (some 2) _ = _
      simp only [Act.put, sA, s0, sS, i64_w, i32_w]
      rfl
     refine one_ (i := 0) (N := some 1) #[true, true, false, false] rfl rfl (by kernel_rfl) (by decide) (fun K hK => ?_)
     refine Kd.R_make_step (Kd.int .i64) _ 3 (by rfl) (N := 1) rfl 23 _ _ rfl 3 rfl rfl Try.underlying23 (.int .i64 0) 8 info3 rfl (by decide) (by omega) 0 (ok := fun _ => True) (okp := fun _ => True) rfl (fun _ hk => hk) trivial (by omega) (by omega) (Below.refl _ _) (Nat.le_refl _) ?_
     intro v324 w7 ho8 hb hg_ hnew_
     clear hg_ hnew_
     (first | rw [← Ny323.out] at ho8 | (simp only [Int.reduceToNat] at ho8; rw [← Ny323.out] at ho8))
     have HO325 := Aside0.mk (Kd.R_lower (Kd.R_new' ho8 (rl HO328.out)) (below_size (by exact jB HB.out)))
     replace HO328 := Aside0.mk (Kd.R_elder' (by exact lR HO328.out) (Kd.R_base ho8) hb)
     replace BK322 := Aside0.mk (bb BK322.out hb)
     replace HB := Aside0.mk (below_step (by exact jB HB.out) hb)
     clear hb ho8
     obtain ⟨Ao9, co9, eo9⟩ := Kd.R_slice HO328.out
     (first | subst eo9 | (injection eo9 with f1_ f2_ f3_; have f4_ := f1_.symm; have f5_ := f3_.symm; clear f1_ f2_ f3_; subst f4_; subst f5_))
     obtain ⟨Ao10, co10, eo10⟩ := Kd.R_slice HO325.out
     (first | subst eo10 | (injection eo10 with f1_ f2_ f3_; have f4_ := f1_.symm; have f5_ := f3_.symm; clear f1_ f2_ f3_; subst f4_; subst f5_))
     refine hK.out _ _ trivial (fun hHeld => ?_)
     clear hK K
     refine norm_ (a' := ?_) ?_ ?_
     rotate_left
     ·show Act.put _ (some 1) _ = _
      simp only [Act.put, sA, s0, sS, i64_w, i32_w]
      rfl
     exact norm_ (by simp only [putAll, Act.put, List.setIfInBounds_toArray, List.set_cons_zero, List.set_cons_succ]) (hCont (.slice Ao10 y323.length co10, .slice Ao9 y326.length co9) _ ⟨(by exact lR <| Kd.R_mono HO325.out (fun _ hk => hk.2)), (by exact lR <| Kd.R_mono HO328.out (fun _ hk => hk.2)), (by exact lK BK322.out), (by exact jB HB.out)⟩)
   rintro ⟨v324, v327⟩ w11 ⟨h0_, h1_, h2_, h3_⟩
   have HO325 : Aside0 (Kd.R (Kd.int .i64) 3 w11 w.heap.size (fun k_ => some k_ ≠ (v327 : Value).ownBlock) v324 y323) := ⟨h0_⟩
   have HO328 : Aside0 (Kd.R (Kd.int .i64) 3 w11 w.heap.size (fun k_ => some k_ ≠ (v324 : Value).ownBlock) v327 y326) := ⟨h1_⟩
   replace BK322 : Aside0 (w11.heap[gb322]? = some (.cells #[.slice none 0 0, .slice none 0 0, .int .i64 0] 25 (0, 0))) := ⟨h2_⟩
   replace HB : Aside0 (Below w.heap.size w w11) := ⟨h3_⟩
   clear h0_ h1_ h2_ h3_
   have hHeld := trivial
   obtain ⟨Ao12, co12, eo12⟩ := Kd.R_slice HO328.out
   (first | subst eo12 | (injection eo12 with f1_ f2_ f3_; have f4_ := f1_.symm; have f5_ := f3_.symm; clear f1_ f2_ f3_; subst f4_; subst f5_))
   obtain ⟨Ao13, co13, eo13⟩ := Kd.R_slice HO325.out
   (first | subst eo13 | (injection eo13 with f1_ f2_ f3_; have f4_ := f1_.symm; have f5_ := f3_.symm; clear f1_ f2_ f3_; subst f4_; subst f5_))
   refine norm_ (a' := ?_) ?_ ?_
   rotate_left
   ·simp only [putAll, Act.put, List.setIfInBounds_toArray, List.set_cons_zero, List.set_cons_succ]
    rfl
   refine pure_ (i := 2) (N := some 3) (v := ?_) (a' := ?_) #[true, true, true, false] rfl rfl (by kernel_rfl) (fun _ _ _ h => h) (Or.inl ⟨by rfl, ?_⟩) ?_ ?_
   rotate_left
   ·intro w'
    go_simp
    with_reducible rfl
   rotate_left
   ·simp only [Act.put, sA, s0, sS, i64_w, i32_w]
    rfl
   refine one_ (i := 3) (N := none) #[true, true, true, true] rfl rfl (by kernel_rfl) (by decide) (fun K hK => ?_)
   have hs14 : w11.cell? ⟨gb322, 0, none⟩ = some (.slice none 0 0) := (blk_cell BK322.out 0).trans rfl
   have hfs14 := blk_frozen BK322.out 0
   have hs15 : w11.cell? ⟨gb322, 1, none⟩ = some (.slice none 0 0) := (blk_cell BK322.out 1).trans rfl
   have hfs15 := blk_frozen BK322.out 1
   have hs16 : w11.cell? ⟨gb322, 2, none⟩ = some (.int .i64 0) := (blk_cell BK322.out 2).trans rfl
   have hfs16 := blk_frozen BK322.out 2
   refine skip_ (w1 := ?_) (by rfl) rfl ?_ ?_
   rotate_left
   ·go_simp
    rfl
   refine hK.out _ _ trivial (fun hHeld => ?_)
   clear hK K
   refine done_ (by kernel_rfl) ?_
   try go_wp2
   refine bodyPost_ret (results_cell_row rfl _ _ gb322 25 #[.slice Ao13 y323.length co13, .slice Ao12 y326.length co12, .int .i64 0] (0, 0) _ rfl (by (with_reducible repeat first | refine kN ?_ _ | refine kD ?_ | refine kA ?_ _); refine blk_put (cs := #[.slice Ao13 y323.length co13, .slice Ao12 y326.length co12, .int .i64 0]) ?_ 2 _ rfl; (with_reducible repeat first | refine kN ?_ _ | refine kD ?_ | refine kA ?_ _); refine blk_put (cs := #[.slice Ao13 y323.length co13, .slice none 0 0, .int .i64 0]) ?_ 1 _ rfl; (with_reducible repeat first | refine kN ?_ _ | refine kD ?_ | refine kA ?_ _); refine blk_put (cs := #[.slice none 0 0, .slice none 0 0, .int .i64 0]) ?_ 0 _ rfl; exact lK BK322.out) Try.underlying25 rfl (by kernel_rfl)) rfl ?_
   exact ⟨_, _, by first | rfl | (simp [errW_none, errW_some] <;> rfl) | (simp [*, errW_none, errW_some] <;> rfl), by exact lR <| Kd.R_mono (Kd.R_far (p := ⟨gb322, 2, none⟩) (Kd.R_far (p := ⟨gb322, 1, none⟩) (Kd.R_far (p := ⟨gb322, 0, none⟩) (Kd.R_types HO325.out BK322.out (by decide)) (fun _ hk => by first | exact hk.2 | exact fun e_ => hk.2 (e_.trans (ob _ _ _ _))) (.slice Ao13 y323.length co13)) (fun _ hk => by first | exact hk.2 | exact fun e_ => hk.2 (e_.trans (ob _ _ _ _))) (.slice Ao12 y326.length co12)) (fun _ hk => by first | exact hk.2 | exact fun e_ => hk.2 (e_.trans (ob _ _ _ _))) (.int .i64 0)) (fun _ hk => by first | exact hk.1 | exact fun e_ => hk.1 (e_.trans (ob _ _ _ _))), by exact lR <| Kd.R_mono (Kd.R_far (p := ⟨gb322, 2, none⟩) (Kd.R_far (p := ⟨gb322, 1, none⟩) (Kd.R_far (p := ⟨gb322, 0, none⟩) (Kd.R_types HO328.out BK322.out (by decide)) (fun _ hk => by first | exact hk.2 | exact fun e_ => hk.2 (e_.trans (ob _ _ _ _))) (.slice Ao13 y323.length co13)) (fun _ hk => by first | exact hk.2 | exact fun e_ => hk.2 (e_.trans (ob _ _ _ _))) (.slice Ao12 y326.length co12)) (fun _ hk => by first | exact hk.2 | exact fun e_ => hk.2 (e_.trans (ob _ _ _ _))) (.int .i64 0)) (fun _ hk => by first | exact hk.1 | exact fun e_ => hk.1 (e_.trans (ob _ _ _ _))), by exact jB HB.out⟩
  ·rw [if_neg c2] at H
   exact absurd H (by simp)
 ·rw [if_neg c1] at H
  exact absurd H (by simp)

-- NOT PRINTED: function 40 (impl_FrmForm_40)

-- NOT PRINTED: function 25 (impl_FrmForm_25)

-- NOT PRINTED: function 26 (impl_FrmInto_1)

-- NOT PRINTED: function 27 (impl_FrmForm_add)

/-! ### impl_checked: function 28 -/
def impl_checked.f (l0_0 : List Int) (l0_1 : List Int) (a0_2 : Int) : Option (List Int × List Int × Int) := (impl_FrmOk.f l0_0 l0_1 a0_2).bind fun t334 => (if t334 = true then (some (l0_0, l0_1, a0_2)) else (some (([] : List Int), ([] : List Int), 0)))
set_option maxHeartbeats 8000000 in
set_option maxRecDepth 100000 in
theorem impl_checked.calls (P0_0_ : Nat → Prop) (u9000_ : Value) (l0_0 : List Int) (P0_1_ : Nat → Prop) (u9001_ : Value) (l0_1 : List Int) (a0_2 : Int) (r1 : List Int) (r2 : List Int) (r3 : Int) (w0 w : World) (hB : Below w0.heap.size w0 w) (ho0_0 : Kd.R (Kd.int .i64) 3 w w0.heap.size P0_0_ u9000_ l0_0) (hp0_0_0_1 : ∀ k_, P0_0_ k_ → ¬ P0_1_ k_) (ho0_1 : Kd.R (Kd.int .i64) 3 w w0.heap.size P0_1_ u9001_ l0_1) (hp0_1_0_0 : ∀ k_, P0_1_ k_ → ¬ P0_0_ k_) (h : impl_checked.f l0_0 l0_1 a0_2 = some (r1, r2, r3)) :
  Calls Try.prog 28 #[.agg #[u9000_, u9001_, .int .i64 a0_2]] w fun e w' => ∃ v0_ v1_ : Value, e = .returned (.agg #[v0_, v1_, .int .i64 r3]) ∧ Kd.R (Kd.int .i64) 3 w' w0.heap.size (fun k_ => ((P0_0_ k_ ∨ P0_1_ k_) ∨ w.heap.size ≤ k_) ∧ some k_ ≠ (v1_ : Value).ownBlock) v0_ r1 ∧ Kd.R (Kd.int .i64) 3 w' w0.heap.size (fun k_ => ((P0_0_ k_ ∨ P0_1_ k_) ∨ w.heap.size ≤ k_) ∧ some k_ ≠ (v0_ : Value).ownBlock) v1_ r2 ∧ Below w0.heap.size w0 w' ∧ Kept w w' (fun k_ => P0_0_ k_ ∨ P0_1_ k_) := by
 have hu25 := Try.underlying25
 have HO0_0 := Aside0.mk (show Kd.R (Kd.int .i64) 3 w w0.heap.size (fun k_ => ((P0_0_ k_ ∨ P0_1_ k_) ∨ w.heap.size ≤ k_) ∧ some k_ ≠ (u9001_ : Value).ownBlock) u9000_ l0_0 from Kd.R_mono ho0_0 (fun k_ hk => ⟨(.inl (.inl hk)), fun e_ => hp0_0_0_1 k_ hk (ho0_1.1 k_ e_.symm)⟩))
 have HO0_1 := Aside0.mk (show Kd.R (Kd.int .i64) 3 w w0.heap.size (fun k_ => ((P0_0_ k_ ∨ P0_1_ k_) ∨ w.heap.size ≤ k_) ∧ some k_ ≠ (u9000_ : Value).ownBlock) u9001_ l0_1 from Kd.R_mono ho0_1 (fun k_ hk => ⟨(.inl (.inr hk)), fun e_ => hp0_1_0_0 k_ hk (ho0_0.1 k_ e_.symm)⟩))
 have HK := Aside0.mk (Kept.refl w (fun k_ => P0_0_ k_ ∨ P0_1_ k_))
 have HW0 := Aside0.mk hB.size
 have HB := Aside0.mk hB
 clear hB
 have H : ((impl_FrmOk.f l0_0 l0_1 a0_2).bind fun t334 => (if t334 = true then (some (l0_0, l0_1, a0_2)) else (some (([] : List Int), ([] : List Int), 0)))) = some (r1, r2, r3) := h
 clear h
 replace H := Option.bind_eq_some_iff.mp H
 obtain ⟨t334, A20, H⟩ := H
 replace H : (if t334 = true then (some (l0_0, l0_1, a0_2)) else (some (([] : List Int), ([] : List Int), 0))) = some (r1, r2, r3) := H
 have A2 := Aside0.mk A20
 clear A20
 by_cases c3 : t334 = true
 ·subst c3
  have H1 : (some (l0_0, l0_1, a0_2)) = some (r1, r2, r3) := by rw [if_pos rfl] at H; exact H
  clear H
  have H := H1
  clear H1
  simp only [Option.some.injEq, Prod.mk.injEq] at H
  obtain ⟨rfl, rfl, rfl⟩ := H
  obtain ⟨Ao4, co4, eo4⟩ := Kd.R_slice HO0_0.out
  subst eo4
  obtain ⟨Ao5, co5, eo5⟩ := Kd.R_slice HO0_1.out
  subst eo5
  go_enter Try.func28, Try.ntmps28
  go_wp2_with (first | ((with_reducible refine gate_dst (N := 1) rfl ?_); refine box_event ?hg (N := 1) ?hd (cs := #[.slice Ao4 l0_0.length co4, .slice Ao5 l0_1.length co5, .int .i64 a0_2]) (t := 25) ?hr ?_; (case hd => rfl); (case hg => rfl); (case hr => first | (go_simp; done) | (go_simp; rfl)); intro gb332 hg w6 hbox hb; replace HO0_0 := Aside0.mk (rb HO0_0.out hb); replace HO0_1 := Aside0.mk (rb HO0_1.out hb); have BK332 := Aside0.mk (hbox); have GW332 := Aside0.mk ((by rw [hg]; exact (by first | exact HK.out.1 | exact (show Kept w _ (fun k_ => P0_0_ k_ ∨ P0_1_ k_) from by repeat (first | (with_reducible first | exact HK.out | apply Kept.alloc | apply Kept.drewN | apply Kept.drew) | exact HK.out)).1) : w.heap.size ≤ gb332)); have IGW332 : Nonempty _ := ⟨GW332.out⟩; replace HK := Aside0.mk (Kept.below (S := (fun k_ => P0_0_ k_ ∨ P0_1_ k_)) (by repeat (first | (with_reducible first | exact HK.out | apply Kept.alloc | apply Kept.drewN | apply Kept.drew) | exact HK.out)) hb); have GE332 := Aside0.mk ((by rw [hg]; exact (below_size (by exact lB HB.out)) : w0.heap.size ≤ gb332)); have IGE332 : Nonempty _ := ⟨GE332.out⟩; replace HB := Aside0.mk (below_step (by exact lB HB.out) hb); clear hb hbox hg) | ((with_reducible refine gate_dst (N := 2) rfl ?_); refine box_event ?hg (N := 2) ?hd (cs := #[.slice none 0 0, .slice none 0 0, .int .i64 0]) (t := 25) ?hr ?_; (case hd => rfl); (case hg => rfl); (case hr => first | (go_simp; done) | (go_simp; rfl)); intro gb333 hg w7 hbox hb; replace HO0_0 := Aside0.mk (rb HO0_0.out hb); replace HO0_1 := Aside0.mk (rb HO0_1.out hb); have BK333 := Aside0.mk (hbox); have GW333 := Aside0.mk ((by rw [hg]; exact (by first | exact HK.out.1 | exact (show Kept w _ (fun k_ => P0_0_ k_ ∨ P0_1_ k_) from by repeat (first | (with_reducible first | exact HK.out | apply Kept.alloc | apply Kept.drewN | apply Kept.drew | refine Kept.setCell ?_ (.inr GW332.out) _) | exact HK.out)).1) : w.heap.size ≤ gb333)); have IGW333 : Nonempty _ := ⟨GW333.out⟩; replace HK := Aside0.mk (Kept.below (S := (fun k_ => P0_0_ k_ ∨ P0_1_ k_)) (by repeat (first | (with_reducible first | exact HK.out | apply Kept.alloc | apply Kept.drewN | apply Kept.drew | refine Kept.setCell ?_ (.inr GW332.out) _) | exact HK.out)) hb); have GE333 := Aside0.mk ((by rw [hg]; exact (below_size (by exact jB HB.out)) : w0.heap.size ≤ gb333)); have IGE333 : Nonempty _ := ⟨GE333.out⟩; replace HB := Aside0.mk (below_step (by exact jB HB.out) hb); have NB332_333 := Aside0.mk ((neL hg (lK BK332.out) : gb332 ≠ gb333)); have INB332_333 : Nonempty _ := ⟨NB332_333.out⟩; have NB333_332 := Aside0.mk ((neG hg (lK BK332.out) : gb333 ≠ gb332)); have INB333_332 : Nonempty _ := ⟨NB333_332.out⟩; replace BK332 := Aside0.mk (bb BK332.out hb); clear hb hbox hg; have hnb8 := NB332_333.out; have hnc8 := NB333_332.out; obtain ⟨hcz9_0, hcz9_1, hcz9_2, hfz9_0, hfz9_1, hfz9_2⟩ := cf3 BK332.out) | ((with_reducible refine gate_callee (f := 11) rfl ?_); refine goesL_ (some 4) rfl rfl Try.func11 (by kernel_rfl) rfl #[.agg #[.slice Ao4 l0_0.length co4, .slice Ao5 l0_1.length co5, .int .i64 a0_2]] rfl (by (try simp only [mA, mC, mN]); first | done | rfl | (simp only [ld, lt]; rfl)) ?_; (with_reducible refine (impl_FrmOk.calls _ _ l0_0 _ _ l0_1 a0_2 true _ ?side1 ?side2 ?side3 ?side4 A2.out).mono ?_); (case side1 => exact lC <| (Kd.R_reads' HO0_0.out).2.2); (case side2 => exact (Kd.R_reads' HO0_0.out).2.1); (case side3 => exact lC <| (Kd.R_reads' HO0_1.out).2.2); (case side4 => exact (Kd.R_reads' HO0_1.out).2.1); rintro e w10 ⟨rfl, hb⟩; refine ⟨_, rfl, ?_⟩; replace HO0_0 := Aside0.mk (rb HO0_0.out hb); replace HO0_1 := Aside0.mk (rb HO0_1.out hb); replace BK332 := Aside0.mk (bb BK332.out hb); replace BK333 := Aside0.mk (bb BK333.out hb); replace HK := Aside0.mk (Kept.below (S := (fun k_ => P0_0_ k_ ∨ P0_1_ k_)) (by repeat (first | (with_reducible first | exact HK.out | apply Kept.alloc | apply Kept.drewN | apply Kept.drew | refine Kept.setCell ?_ (.inr GW332.out) _ | refine Kept.setCell ?_ (.inr GW333.out) _) | exact HK.out)) hb); replace HB := Aside0.mk (below_step (by exact jB HB.out) hb); (try clear hb); (try clear hb2); (try clear hk); (try clear hi); obtain ⟨hcz11_0, hcz11_1, hcz11_2, hfz11_0, hfz11_1, hfz11_2⟩ := cf3 BK332.out; obtain ⟨hcz12_0, hcz12_1, hcz12_2, hfz12_0, hfz12_1, hfz12_2⟩ := cf3 BK333.out))
  refine bodyPost_ret (results_cell_row rfl _ _ gb333 25 #[.slice Ao4 l0_0.length co4, .slice Ao5 l0_1.length co5, .int .i64 a0_2] (0, 0) _ rfl (by (with_reducible repeat first | refine kN ?_ _ | refine kD ?_ | refine kA ?_ _); refine blk_put (cs := #[.slice Ao4 l0_0.length co4, .slice Ao5 l0_1.length co5, .int .i64 0]) ?_ 2 _ rfl; (with_reducible repeat first | refine kN ?_ _ | refine kD ?_ | refine kA ?_ _); refine blk_put (cs := #[.slice Ao4 l0_0.length co4, .slice none 0 0, .int .i64 0]) ?_ 1 _ rfl; (with_reducible repeat first | refine kN ?_ _ | refine kD ?_ | refine kA ?_ _); refine blk_put (cs := #[.slice none 0 0, .slice none 0 0, .int .i64 0]) ?_ 0 _ rfl; exact lK BK333.out) Try.underlying25 rfl (by kernel_rfl)) rfl ?_
  exact ⟨_, _, by first | rfl | (simp [errW_none, errW_some] <;> rfl) | (simp [*, errW_none, errW_some] <;> rfl), by exact lR <| Kd.R_mono (Kd.R_far (p := ⟨gb333, 2, none⟩) (Kd.R_far (p := ⟨gb333, 1, none⟩) (Kd.R_far (p := ⟨gb333, 0, none⟩) (Kd.R_types HO0_0.out BK333.out (by decide)) (fun _ hk => by first | exact hk.2 | exact fun e_ => hk.2 (e_.trans (ob _ _ _ _))) (.slice Ao4 l0_0.length co4)) (fun _ hk => by first | exact hk.2 | exact fun e_ => hk.2 (e_.trans (ob _ _ _ _))) (.slice Ao5 l0_1.length co5)) (fun _ hk => by first | exact hk.2 | exact fun e_ => hk.2 (e_.trans (ob _ _ _ _))) (.int .i64 a0_2)) (fun _ hk => ⟨hk.1.1, hk.1.2⟩), by exact lR <| Kd.R_mono (Kd.R_far (p := ⟨gb333, 2, none⟩) (Kd.R_far (p := ⟨gb333, 1, none⟩) (Kd.R_far (p := ⟨gb333, 0, none⟩) (Kd.R_types HO0_1.out BK333.out (by decide)) (fun _ hk => by first | exact hk.2 | exact fun e_ => hk.2 (e_.trans (ob _ _ _ _))) (.slice Ao4 l0_0.length co4)) (fun _ hk => by first | exact hk.2 | exact fun e_ => hk.2 (e_.trans (ob _ _ _ _))) (.slice Ao5 l0_1.length co5)) (fun _ hk => by first | exact hk.2 | exact fun e_ => hk.2 (e_.trans (ob _ _ _ _))) (.int .i64 a0_2)) (fun _ hk => ⟨hk.1.1, hk.1.2⟩), by exact jB HB.out, by repeat (first | (with_reducible first | exact HK.out | apply Kept.alloc | apply Kept.drewN | apply Kept.drew | refine Kept.setCell ?_ (.inr GW332.out) _ | refine Kept.setCell ?_ (.inr GW333.out) _) | exact HK.out)⟩
 ·replace c3 := Bool.eq_false_iff.mpr c3
  subst c3
  have H1 : (some (([] : List Int), ([] : List Int), 0)) = some (r1, r2, r3) := by rw [if_neg (show ¬ (false = true) by decide)] at H; exact H
  clear H
  have H := H1
  clear H1
  simp only [Option.some.injEq, Prod.mk.injEq] at H
  obtain ⟨rfl, rfl, rfl⟩ := H
  obtain ⟨Ao13, co13, eo13⟩ := Kd.R_slice HO0_0.out
  subst eo13
  obtain ⟨Ao14, co14, eo14⟩ := Kd.R_slice HO0_1.out
  subst eo14
  go_enter Try.func28, Try.ntmps28
  go_wp2_with (first | ((with_reducible refine gate_dst (N := 1) rfl ?_); refine box_event ?hg (N := 1) ?hd (cs := #[.slice Ao13 l0_0.length co13, .slice Ao14 l0_1.length co14, .int .i64 a0_2]) (t := 25) ?hr ?_; (case hd => rfl); (case hg => rfl); (case hr => first | (go_simp; done) | (go_simp; rfl)); intro gb332 hg w15 hbox hb; replace HO0_0 := Aside0.mk (rb HO0_0.out hb); replace HO0_1 := Aside0.mk (rb HO0_1.out hb); have BK332 := Aside0.mk (hbox); have GW332 := Aside0.mk ((by rw [hg]; exact (by first | exact HK.out.1 | exact (show Kept w _ (fun k_ => P0_0_ k_ ∨ P0_1_ k_) from by repeat (first | (with_reducible first | exact HK.out | apply Kept.alloc | apply Kept.drewN | apply Kept.drew) | exact HK.out)).1) : w.heap.size ≤ gb332)); have IGW332 : Nonempty _ := ⟨GW332.out⟩; replace HK := Aside0.mk (Kept.below (S := (fun k_ => P0_0_ k_ ∨ P0_1_ k_)) (by repeat (first | (with_reducible first | exact HK.out | apply Kept.alloc | apply Kept.drewN | apply Kept.drew) | exact HK.out)) hb); have GE332 := Aside0.mk ((by rw [hg]; exact (below_size (by exact lB HB.out)) : w0.heap.size ≤ gb332)); have IGE332 : Nonempty _ := ⟨GE332.out⟩; replace HB := Aside0.mk (below_step (by exact lB HB.out) hb); clear hb hbox hg) | ((with_reducible refine gate_dst (N := 2) rfl ?_); refine box_event ?hg (N := 2) ?hd (cs := #[.slice none 0 0, .slice none 0 0, .int .i64 0]) (t := 25) ?hr ?_; (case hd => rfl); (case hg => rfl); (case hr => first | (go_simp; done) | (go_simp; rfl)); intro gb333 hg w16 hbox hb; replace HO0_0 := Aside0.mk (rb HO0_0.out hb); replace HO0_1 := Aside0.mk (rb HO0_1.out hb); have BK333 := Aside0.mk (hbox); have GW333 := Aside0.mk ((by rw [hg]; exact (by first | exact HK.out.1 | exact (show Kept w _ (fun k_ => P0_0_ k_ ∨ P0_1_ k_) from by repeat (first | (with_reducible first | exact HK.out | apply Kept.alloc | apply Kept.drewN | apply Kept.drew | refine Kept.setCell ?_ (.inr GW332.out) _) | exact HK.out)).1) : w.heap.size ≤ gb333)); have IGW333 : Nonempty _ := ⟨GW333.out⟩; replace HK := Aside0.mk (Kept.below (S := (fun k_ => P0_0_ k_ ∨ P0_1_ k_)) (by repeat (first | (with_reducible first | exact HK.out | apply Kept.alloc | apply Kept.drewN | apply Kept.drew | refine Kept.setCell ?_ (.inr GW332.out) _) | exact HK.out)) hb); have GE333 := Aside0.mk ((by rw [hg]; exact (below_size (by exact jB HB.out)) : w0.heap.size ≤ gb333)); have IGE333 : Nonempty _ := ⟨GE333.out⟩; replace HB := Aside0.mk (below_step (by exact jB HB.out) hb); have NB332_333 := Aside0.mk ((neL hg (lK BK332.out) : gb332 ≠ gb333)); have INB332_333 : Nonempty _ := ⟨NB332_333.out⟩; have NB333_332 := Aside0.mk ((neG hg (lK BK332.out) : gb333 ≠ gb332)); have INB333_332 : Nonempty _ := ⟨NB333_332.out⟩; replace BK332 := Aside0.mk (bb BK332.out hb); clear hb hbox hg; have hnb17 := NB332_333.out; have hnc17 := NB333_332.out; obtain ⟨hcz18_0, hcz18_1, hcz18_2, hfz18_0, hfz18_1, hfz18_2⟩ := cf3 BK332.out) | ((with_reducible refine gate_callee (f := 11) rfl ?_); refine goesL_ (some 4) rfl rfl Try.func11 (by kernel_rfl) rfl #[.agg #[.slice Ao13 l0_0.length co13, .slice Ao14 l0_1.length co14, .int .i64 a0_2]] rfl (by (try simp only [mA, mC, mN]); first | done | rfl | (simp only [ld, lt]; rfl)) ?_; (with_reducible refine (impl_FrmOk.calls _ _ l0_0 _ _ l0_1 a0_2 false _ ?side1 ?side2 ?side3 ?side4 A2.out).mono ?_); (case side1 => exact lC <| (Kd.R_reads' HO0_0.out).2.2); (case side2 => exact (Kd.R_reads' HO0_0.out).2.1); (case side3 => exact lC <| (Kd.R_reads' HO0_1.out).2.2); (case side4 => exact (Kd.R_reads' HO0_1.out).2.1); rintro e w19 ⟨rfl, hb⟩; refine ⟨_, rfl, ?_⟩; replace HO0_0 := Aside0.mk (rb HO0_0.out hb); replace HO0_1 := Aside0.mk (rb HO0_1.out hb); replace BK332 := Aside0.mk (bb BK332.out hb); replace BK333 := Aside0.mk (bb BK333.out hb); replace HK := Aside0.mk (Kept.below (S := (fun k_ => P0_0_ k_ ∨ P0_1_ k_)) (by repeat (first | (with_reducible first | exact HK.out | apply Kept.alloc | apply Kept.drewN | apply Kept.drew | refine Kept.setCell ?_ (.inr GW332.out) _ | refine Kept.setCell ?_ (.inr GW333.out) _) | exact HK.out)) hb); replace HB := Aside0.mk (below_step (by exact jB HB.out) hb); (try clear hb); (try clear hb2); (try clear hk); (try clear hi); obtain ⟨hcz20_0, hcz20_1, hcz20_2, hfz20_0, hfz20_1, hfz20_2⟩ := cf3 BK333.out))
  refine bodyPost_ret (results_cell_row rfl _ _ gb333 25 #[.slice none 0 0, .slice none 0 0, .int .i64 0] (0, 0) _ rfl (by (with_reducible repeat first | refine kN ?_ _ | refine kD ?_ | refine kA ?_ _); refine blk_put (cs := #[.slice none 0 0, .slice none 0 0, .int .i64 0]) ?_ 2 _ rfl; (with_reducible repeat first | refine kN ?_ _ | refine kD ?_ | refine kA ?_ _); refine blk_put (cs := #[.slice none 0 0, .slice none 0 0, .int .i64 0]) ?_ 1 _ rfl; (with_reducible repeat first | refine kN ?_ _ | refine kD ?_ | refine kA ?_ _); refine blk_put (cs := #[.slice none 0 0, .slice none 0 0, .int .i64 0]) ?_ 0 _ rfl; exact lK BK333.out) Try.underlying25 rfl (by kernel_rfl)) rfl ?_
  exact ⟨_, _, by first | rfl | (simp [errW_none, errW_some] <;> rfl) | (simp [*, errW_none, errW_some] <;> rfl), by first | exact Kd.R_nil _ _ _ _ _ | exact Kd.N_nil _ _ _ _ _ | exact Kd.V_nil _ _ _ _ _ | exact Kd.Q_nil _ _ _ _ _ | exact Kd.S_nil _ _ _ _ _, by first | exact Kd.R_nil _ _ _ _ _ | exact Kd.N_nil _ _ _ _ _ | exact Kd.V_nil _ _ _ _ _ | exact Kd.Q_nil _ _ _ _ _ | exact Kd.S_nil _ _ _ _ _, by exact jB HB.out, by repeat (first | (with_reducible first | exact HK.out | apply Kept.alloc | apply Kept.drewN | apply Kept.drew | refine Kept.setCell ?_ (.inr GW332.out) _ | refine Kept.setCell ?_ (.inr GW333.out) _) | exact HK.out)⟩

/-! ### impl_FrmInto: function 7, by hand -/
/-- What 'within' answers. -/
def withinB (l : List Int) (n m : Int) : Bool := decide ((l.length : Int) = n) && !(l.any fun x => !inB x (wrap64 (-m)) m)
theorem within_calls (A : Option Addr) (c : Nat) (l : List Int) (n m : Int) (w : World) (hr : Kd.C (Kd.int .i64) w A l.length l) (hc : l.length ≤ c) :
  Calls Try.prog 32 #[.slice A l.length c, .int .i64 n, .int .i64 m] w fun e w' => e = .returned (.bool (withinB l n m)) ∧ Below w.heap.size w w' := impl_within.calls A c l n m _ w hr hc rfl
theorem in_calls (a lo hi : Int) (w : World) : Calls Try.prog 31 #[.int .i64 a, .int .i64 lo, .int .i64 hi] w fun e w' => e = .returned (.bool (inB a lo hi)) ∧ Drawn0 w w' := impl_in.calls a lo hi _ w (in_inB _ _ _)
/-- What 'FrmOk' answers. -/
def frmOkB (x : S25) : Bool := withinB x.f0 3 10000000 && (withinB x.f1 2 10000000 && inB x.f2 (-10000000) 10000000)
theorem frmOk_eq (x : S25) : impl_FrmOk.f x.f0 x.f1 x.f2 = some (frmOkB x) := by
 unfold impl_FrmOk.f
 rw [show impl_within.f x.f0 3 10000000 = some (withinB x.f0 3 10000000) from rfl, show impl_within.f x.f1 2 10000000 = some (withinB x.f1 2 10000000) from rfl, in_inB]
 unfold frmOkB
 cases withinB x.f0 3 10000000 <;> cases withinB x.f1 2 10000000 <;> rfl
set_option maxHeartbeats 1000000 in
theorem idx_forms (q : S25 → Bool) (g : Nat) (lb : Array Value) (eg : ∀ args w, (callFunc g args).run Try.prog w = .ok (.enter g args) w) (A0 : Option Addr) (c0 : Nat) (xs : List (S25)) (w : World)
  (hr : Kd.C k25 w A0 xs.length xs) (hp : ∀ x, x ∈ xs → ∀ (W : World) (A : Option Addr) (c : Nat) (A' : Option Addr) (c' : Nat), Below w.heap.size w W → x.f0.length ≤ c → Kd.C (Kd.int .i64) W A x.f0.length x.f0 → x.f1.length ≤ c' → Kd.C (Kd.int .i64) W A' x.f1.length x.f1 → Calls Try.prog g (#[.agg #[.slice A x.f0.length c, .slice A' x.f1.length c', .int .i64 x.f2]] ++ lb) W fun e w' => e = .returned (.bool (q x)) ∧ Below W.heap.size W w') :
  Calls Try.prog 40 #[.slice A0 xs.length c0, .func (.func g) #[] lb] w fun e w' => e = .returned (.int .i64 (idxOf q xs)) ∧ Below w.heap.size w w' := by
 have hm := Kd.C_max hr
 have HR := Aside0.mk hr
 have HP := Aside0.mk hp
 clear hr hp
 go_enter Try.func40, Try.ntmps40
 go_wp2
 go_loopg [5, 8] xs.length (fun gg _ s8 wr => ∃ x : Int, s8 = .int .i64 x ∧ Aside0 (0 ≤ x ∧ x ≤ xs.length ∧ (xs.length : Int) - x ≤ gg) ∧ Aside0 (Below w.heap.size w wr) ∧ Aside0 (∀ j : Int, 0 ≤ j → j < x → q (xs.getD j.toNat z25) = false))
 case atStart => exact ⟨0, rfl, ⟨by omega, by omega, by omega⟩, ⟨Below.refl _ _⟩, ⟨fun j h0 h1 => by omega⟩⟩
 case round =>
  obtain ⟨x, rfl, HX, HB, HN⟩ := hrel
  have p1 := HX.out.1
  by_cases hlt : x < (xs.length : Int)
  ·obtain ⟨ad, A1, c1, A2, c2, e1, hx0, hx1, hx2, hl1, hi1, hl2, hi2⟩ := at_T25 (Kd.C_below HR.out HB.out) x p1 hlt
   cases e1
   have hcall := HP.out (rd_T25 xs x) (mem_rd z25 xs x p1 hlt) _ A1 c1 A2 c2 HB.out hl1 hi1 hl2 hi2
   cases hq : q (rd_T25 xs x) with
   | true =>
    rw [hq] at hcall
    have HQ := Aside0.mk hq
    clear hq
    have HC := Aside0.mk hcall
    clear hcall
    go_wp2_with (go_at_fn g; refine HC.out.mono ?_; rintro e w' ⟨rfl, hb⟩)
    go_ret
    refine ⟨?_, below_then HB.out HB.out.size hb⟩
    rw [idxOf_hit z25 x p1 hlt HQ.out HN.out]
    rfl
   | false =>
    rw [hq] at hcall
    have HQ := Aside0.mk hq
    clear hq
    have HC := Aside0.mk hcall
    clear hcall
    go_wp2_with (go_at_fn g; refine HC.out.mono ?_; rintro e w' ⟨rfl, hb⟩)
    go_roundg (xs.length - (x.toNat + 1))
    case measure => have := HX.out; omega
    case rel =>
     refine ⟨x + 1, by go_num, ⟨by have := HX.out; omega, by have := HX.out; omega, by have := HX.out; omega⟩, ⟨below_then HB.out HB.out.size hb⟩, ⟨fun j h0 h1 => ?_⟩⟩
     by_cases e : j = x
     ·subst e; exact HQ.out
     ·exact HN.out j h0 (by omega)
  ·go_wp2
   go_ret
   refine ⟨?_, HB.out⟩
   rw [idxOf_miss z25 (fun j h0 h1 => HN.out j h0 (by have := HX.out; omega))]
   rfl
set_option maxHeartbeats 1000000 in
theorem has_forms (q : S25 → Bool) (g : Nat) (lb : Array Value) (eg : ∀ args w, (callFunc g args).run Try.prog w = .ok (.enter g args) w) (A0 : Option Addr) (c0 : Nat) (xs : List (S25)) (w : World)
  (hr : Kd.C k25 w A0 xs.length xs) (hp : ∀ x, x ∈ xs → ∀ (W : World) (A : Option Addr) (c : Nat) (A' : Option Addr) (c' : Nat), Below w.heap.size w W → x.f0.length ≤ c → Kd.C (Kd.int .i64) W A x.f0.length x.f0 → x.f1.length ≤ c' → Kd.C (Kd.int .i64) W A' x.f1.length x.f1 → Calls Try.prog g (#[.agg #[.slice A x.f0.length c, .slice A' x.f1.length c', .int .i64 x.f2]] ++ lb) W fun e w' => e = .returned (.bool (q x)) ∧ Below W.heap.size W w') :
  Calls Try.prog 25 #[.slice A0 xs.length c0, .func (.func g) #[] lb] w fun e w' => e = .returned (.bool (xs.any q)) ∧ Below w.heap.size w w' := by
 have HC := Aside0.mk (idx_forms q g lb eg A0 c0 xs w hr hp)
 rw [← idxOf_any q xs]
 generalize idxOf q xs = n at HC
 clear hr hp
 go_enter Try.func25, Try.ntmps25
 go_wp2_with (go_at_call 40; refine HC.out.mono ?_; rintro e w' ⟨rfl, hb⟩)
 go_ret
 exact ⟨rfl, hb⟩
theorem put3 {w : World} {g T : Nat} {a b c x y z : Value} (h : w.heap[g]? = some (.cells #[a, b, c] T (0, 0))) :
  (((w.setCell ⟨g, 0, none⟩ x).setCell ⟨g, 1, none⟩ y).setCell ⟨g, 2, none⟩ z).heap[g]? = some (.cells #[x, y, z] T (0, 0)) :=
 blk_put (cs := #[x, y, c]) (blk_put (cs := #[x, b, c]) (blk_put (cs := #[a, b, c]) h 0 _ rfl) 1 _ rfl) 2 _ rfl
theorem far3 {w : World} {g k T : Nat} {cs : Array Value} {x y z : Value} (h : w.heap[k]? = some (.cells cs T (0, 0))) (hne : k ≠ g) :
  (((w.setCell ⟨g, 0, none⟩ x).setCell ⟨g, 1, none⟩ y).setCell ⟨g, 2, none⟩ z).heap[k]? = some (.cells cs T (0, 0)) :=
 blk_far (blk_far (blk_far h hne _) hne _) hne _
theorem below_put3 {B : Nat} {w0 w : World} {g : Nat} {x y z : Value} (h : Below B w0 w) (hg : B ≤ g) : Below B w0 (((w.setCell ⟨g, 0, none⟩ x).setCell ⟨g, 1, none⟩ y).setCell ⟨g, 2, none⟩ z) :=
 ((h.setCell (p := ⟨g, 0, none⟩) hg _).setCell (p := ⟨g, 1, none⟩) hg _).setCell (p := ⟨g, 2, none⟩) hg _
theorem R_put3 {w : World} {base : Nat} {ok : Nat → Prop} {v : Value} {xs : List Int} {g T : Nat} {cs : Array Value} {x y z : Value} (h : Kd.R (Kd.int .i64) 3 w base ok v xs) (hb : w.heap[g]? = some (.cells cs T (0, 0))) (hT : ∀ q, q ∈ 3 :: (Kd.int .i64).E → q ≠ T) :
  Kd.R (Kd.int .i64) 3 (((w.setCell ⟨g, 0, none⟩ x).setCell ⟨g, 1, none⟩ y).setCell ⟨g, 2, none⟩ z) base ok v xs :=
 Kd.R_mono (Kd.R_far (p := ⟨g, 2, none⟩) (Kd.R_far (p := ⟨g, 1, none⟩) (Kd.R_far (p := ⟨g, 0, none⟩) (Kd.R_types h hb hT) (fun _ hk => hk.2) x) (fun _ hk => hk.2) y) (fun _ hk => hk.2) z) (fun _ hk => hk.1)
/-- So many times a list added to another, place by place, as the Go loop goes. -/
def addL : Nat → List Int → List Int → Int → Int → Option (List Int)
 | 0, _, _, _, _ => none
 | k + 1, xs, c, t, i => if i < (c.length : Int) then (if 0 ≤ i then (if i < (xs.length : Int) then addL k (xs.set i.toNat (wrap64 (rd xs i + wrap64 (t * rd c i)))) c t (wrap64 (i + 1)) else none) else none) else some xs
def AddPost (w0 w : World) (F : Nat) (vC vD : Value) (K' : Int) (xs' ys' : List Int) (e : Ending) (w' : World) : Prop :=
 e = .returned (.tuple #[]) ∧ w'.heap[F]? = some (.cells #[vC, vD, .int .i64 K'] 25 (0, 0)) ∧
  Kd.R (Kd.int .i64) 3 w' w0.heap.size (fun k => some k ≠ vD.ownBlock) vC xs' ∧ Kd.R (Kd.int .i64) 3 w' w0.heap.size (fun k => some k ≠ vC.ownBlock) vD ys' ∧ Below w0.heap.size w0 w' ∧
  Kept w w' (fun k => k = F ∨ some k = vC.ownBlock ∨ some k = vD.ownBlock)
theorem kept_alloc {w : World} {S : Nat → Prop} {W : World} (h : Kept w W S) (o : Obj) : Kept w (W.alloc o) S := h.alloc o
set_option maxHeartbeats 4000000 in
set_option maxRecDepth 100000 in
theorem add_calls (k F : Nat) (vC vD : Value) (xs ys : List Int) (K : Int) (A0 : Option Addr) (c0 : Nat) (C : List Int) (A1 : Option Addr) (c1 : Nat) (D : List Int) (gK t : Int) (xs' ys' : List Int) (w0 w : World)
  (hB : Below w0.heap.size w0 w) (hF0 : w0.heap.size ≤ F) (hF : w.heap[F]? = some (.cells #[vC, vD, .int .i64 K] 25 (0, 0)))
  (hC : Kd.R (Kd.int .i64) 3 w w0.heap.size (fun k => some k ≠ vD.ownBlock) vC xs) (hD : Kd.R (Kd.int .i64) 3 w w0.heap.size (fun k => some k ≠ vC.ownBlock) vD ys)
  (hr0 : Kd.C (Kd.int .i64) w0 A0 C.length C) (hr1 : Kd.C (Kd.int .i64) w0 A1 D.length D) (h1 : addL k xs C t 0 = some xs') (h2 : addL k ys D t 0 = some ys') :
  Calls Try.prog 27 #[.pointer (some ⟨F, 0, none⟩), .agg #[.slice A0 C.length c0, .slice A1 D.length c1, .int .i64 gK], .int .i64 t] w (AddPost w0 w F vC vD (wrap64 (K + wrap64 (t * gK))) xs' ys') := by
 have hu := Try.underlying25
 obtain ⟨AC, cC, rfl⟩ := Kd.R_slice hC
 obtain ⟨AD, cD, rfl⟩ := Kd.R_slice hD
 have hm0 := Kd.C_max hr0
 have hm1 := Kd.C_max hr1
 have HR0 := Aside0.mk hr0
 have HR1 := Aside0.mk hr1
 have HB := Aside0.mk hB
 have HF0 := Aside0.mk hF0
 have HF := Aside0.mk hF
 have HC := Aside0.mk hC
 have HD := Aside0.mk hD
 have H1 := Aside0.mk h1
 have H2 := Aside0.mk h2
 have HFl := Aside0.mk (blk_lt hF)
 clear hr0 hr1 hB hF0 hF hC hD h1 h2
 go_enter Try.func27, Try.ntmps27
 go_wp2_with (first | ((with_reducible refine gate_dst (N := 4) rfl ?_); refine box_event ?hg (N := 4) ?hd (cs := #[.slice A0 C.length c0, .slice A1 D.length c1, .int .i64 gK]) (t := 25) ?hr ?_; (case hd => rfl); (case hg => rfl); (case hr => first | (go_simp; done) | (go_simp; rfl)); intro G hG w6 hbox hb; have BG := Aside0.mk hbox; have HFG := Aside0.mk (show F ≠ G by rw [hG]; exact Nat.ne_of_lt HFl.out); have n1 := Aside0.mk (Kd.R_below HC.out hb); have n2 := Aside0.mk (Kd.R_below HD.out hb); have n3 := Aside0.mk (blk_below HF.out hb); have n4 := Aside0.mk (below_then HB.out HB.out.size hb); have HKK := Aside0.mk (show Kept w w6 (fun k => k = F ∨ some k = (Value.slice AC xs.length cC).ownBlock ∨ some k = (Value.slice AD ys.length cD).ownBlock) from ⟨hb.size, fun i hi _ => hb.block i hi⟩); have HGw := Aside0.mk (show w.heap.size ≤ G by rw [hG]; exact Nat.le_refl _); clear HC HD HF HB hb hbox hG; have HC := n1; have HD := n2; have HF := n3; have HB := n4; clear n1 n2 n3 n4; have hg0 : w6.cell? ⟨G, 0, none⟩ = some (.slice A0 C.length c0) := (blk_cell BG.out 0).trans rfl))
 go_loopg [13] k (fun kq v13 wr => ∃ (xi : List Int) (i : Int), v13 = .int .i64 i ∧ Aside0 (xi.length = xs.length) ∧ Aside0 (addL kq xi C t i = some xs') ∧ Aside0 (kq ≤ k) ∧ Aside0 (Kd.R (Kd.int .i64) 3 wr w0.heap.size (fun k => some k ≠ (Value.slice AD ys.length cD).ownBlock) (.slice AC xs.length cC) xi) ∧
  Aside0 (Kd.R (Kd.int .i64) 3 wr w0.heap.size (fun k => some k ≠ (Value.slice AC xs.length cC).ownBlock) (.slice AD ys.length cD) ys) ∧ Aside0 (wr.heap[F]? = some (.cells #[.slice AC xs.length cC, .slice AD ys.length cD, .int .i64 K] 25 (0, 0))) ∧ Aside0 (wr.heap[G]? = some (.cells #[.slice A0 C.length c0, .slice A1 D.length c1, .int .i64 gK] 25 (0, 0))) ∧
  Aside0 (Below w0.heap.size w0 wr) ∧ Aside0 (Kept w wr (fun k => k = F ∨ some k = (Value.slice AC xs.length cC).ownBlock ∨ some k = (Value.slice AD ys.length cD).ownBlock)))
 case atStart => exact ⟨xs, 0, rfl, ⟨rfl⟩, H1, ⟨Nat.le_refl _⟩, HC, HD, HF, BG, HB, HKK⟩
 case round =>
  clear HC HD HF BG HB HKK H1
  obtain ⟨xi, i, rfl, HLn, HA, HK1, HC, HD, HF, BG, HB, HKK⟩ := hrel
  cases gk with
  | zero => exact absurd HA.out (by simp [addL])
  | succ k1 =>
   have H := HA.out
   clear HA
   simp only [addL] at H
   by_cases c6 : i < (C.length : Int)
   ·rw [if_pos c6] at H
    by_cases c7 : 0 ≤ i
    case neg => rw [if_neg c7] at H; exact absurd H (by simp)
    case pos =>
     rw [if_pos c7] at H
     by_cases c8 : i < (xi.length : Int)
     case neg => rw [if_neg c8] at H; exact absurd H (by simp)
     case pos =>
      rw [if_pos c8, show wrap64 (i + 1) = i + 1 from by unfold wrap64; omega] at H
      have H' := Aside0.mk H
      clear H
      obtain ⟨ad, e1, hx⟩ := Kd.at_int HR0.out i c7 c6
      cases e1
      replace hx := (HB.out.cell (World.block_lt_of_cell? w0 _ hx)).trans hx
      have hq : i < (xs.length : Int) := by have := HLn.out; omega
      obtain ⟨g9, co9, e9, gb9, gl9, cl9, HG9⟩ := Kd.R_form HC.out (by omega)
      injection e9 with ea en ec
      subst ea
      obtain ⟨hy, hz⟩ := Kd.R_celln 0 HC.out i c7 hq
      have hy' : wr.cell? ⟨g9, i.toNat, none⟩ = some (.int .i64 (rd xi i)) := hy
      clear hy
      have hf0 : wr.cell? ⟨F, 0, none⟩ = some (.slice (some ⟨g9, 0, none⟩) xs.length cC) := (blk_cell HF.out 0).trans rfl
      have HP := Aside0.mk (Kd.R_putg HC.out i (wrap64 (rd xi i + wrap64 (t * rd C i))))
      have GB := Aside0.mk gb9
      clear gb9 gl9 HG9 ec en
      go_wp2
      go_roundg k1
      case measure => have := HK1.out; omega
      case rel => exact ⟨_, i + 1, by go_num, ⟨by rw [List.length_set]; exact HLn.out⟩, H', ⟨by have := HK1.out; omega⟩, ⟨HP.out.1⟩, ⟨Kd.R_grown HD.out HP.out.2 (fun k hk => hk)⟩, ⟨blk_grown HF.out HP.out.2 (Kd.R_ne HC.out HF.out (by decide))⟩, ⟨blk_grown BG.out HP.out.2 (Kd.R_ne HC.out BG.out (by decide))⟩, ⟨HB.out.setCell GB.out _⟩, ⟨Kept.setCell (p := ⟨g9, i.toNat, none⟩) HKK.out (.inl (.inr (.inl rfl))) _⟩⟩
   ·rw [if_neg c6] at H
    obtain rfl := Option.some.inj H
    clear H HK1
    have HLx := HLn
    clear HLn
    have hg1 : wr.cell? ⟨G, 1, none⟩ = some (.slice A1 D.length c1) := (blk_cell BG.out 1).trans rfl
    go_wp2
    clear c6
    go_loopg [34] k (fun kq v34 wr => ∃ (yi : List Int) (j : Int), v34 = .int .i64 j ∧ Aside0 (yi.length = ys.length) ∧ Aside0 (addL kq yi D t j = some ys') ∧ Aside0 (kq ≤ k) ∧ Aside0 (Kd.R (Kd.int .i64) 3 wr w0.heap.size (fun k => some k ≠ (Value.slice AD ys.length cD).ownBlock) (.slice AC xs.length cC) xi) ∧
     Aside0 (Kd.R (Kd.int .i64) 3 wr w0.heap.size (fun k => some k ≠ (Value.slice AC xs.length cC).ownBlock) (.slice AD ys.length cD) yi) ∧ Aside0 (wr.heap[F]? = some (.cells #[.slice AC xs.length cC, .slice AD ys.length cD, .int .i64 K] 25 (0, 0))) ∧ Aside0 (wr.heap[G]? = some (.cells #[.slice A0 C.length c0, .slice A1 D.length c1, .int .i64 gK] 25 (0, 0))) ∧
     Aside0 (Below w0.heap.size w0 wr) ∧ Aside0 (Kept w wr (fun k => k = F ∨ some k = (Value.slice AC xs.length cC).ownBlock ∨ some k = (Value.slice AD ys.length cD).ownBlock)))
    case atStart => exact ⟨ys, 0, rfl, ⟨rfl⟩, H2, ⟨Nat.le_refl _⟩, HC, HD, HF, BG, HB, HKK⟩
    case round =>
     clear HC HD HF BG HB HKK H2 hg1
     obtain ⟨yi, j, rfl, HLn, HA, HK1, HC, HD, HF, BG, HB, HKK⟩ := hrel
     cases gk with
     | zero => exact absurd HA.out (by simp [addL])
     | succ k2 =>
      have H := HA.out
      clear HA
      simp only [addL] at H
      by_cases c6 : j < (D.length : Int)
      ·rw [if_pos c6] at H
       by_cases c7 : 0 ≤ j
       case neg => rw [if_neg c7] at H; exact absurd H (by simp)
       case pos =>
        rw [if_pos c7] at H
        by_cases c8 : j < (yi.length : Int)
        case neg => rw [if_neg c8] at H; exact absurd H (by simp)
        case pos =>
         rw [if_pos c8, show wrap64 (j + 1) = j + 1 from by unfold wrap64; omega] at H
         have H' := Aside0.mk H
         clear H
         obtain ⟨ad, e1, hx⟩ := Kd.at_int HR1.out j c7 c6
         cases e1
         replace hx := (HB.out.cell (World.block_lt_of_cell? w0 _ hx)).trans hx
         have hq : j < (ys.length : Int) := by have := HLn.out; omega
         obtain ⟨g9, co9, e9, gb9, gl9, cl9, HG9⟩ := Kd.R_form HD.out (by omega)
         injection e9 with ea en ec
         subst ea
         obtain ⟨hy, hz⟩ := Kd.R_celln 0 HD.out j c7 hq
         have hy' : wr.cell? ⟨g9, j.toNat, none⟩ = some (.int .i64 (rd yi j)) := hy
         clear hy c8
         have hf1 : wr.cell? ⟨F, 1, none⟩ = some (.slice (some ⟨g9, 0, none⟩) ys.length cD) := (blk_cell HF.out 1).trans rfl
         have HP := Aside0.mk (Kd.R_putg HD.out j (wrap64 (rd yi j + wrap64 (t * rd D j))))
         have GB := Aside0.mk gb9
         clear gb9 gl9 HG9 ec en
         go_wp2
         go_roundg k2
         case measure => have := HK1.out; omega
         case rel => exact ⟨_, j + 1, by go_num, ⟨by rw [List.length_set]; exact HLn.out⟩, H', ⟨by have := HK1.out; omega⟩, ⟨Kd.R_grown HC.out HP.out.2 (fun k hk => hk)⟩, ⟨HP.out.1⟩, ⟨blk_grown HF.out HP.out.2 (Kd.R_ne HD.out HF.out (by decide))⟩, ⟨blk_grown BG.out HP.out.2 (Kd.R_ne HD.out BG.out (by decide))⟩, ⟨HB.out.setCell GB.out _⟩, ⟨Kept.setCell (p := ⟨g9, j.toNat, none⟩) HKK.out (.inl (.inr (.inr rfl))) _⟩⟩
      ·rw [if_neg c6] at H
       obtain rfl := Option.some.inj H
       clear H HK1 HLn HLx
       have hg2 : wr.cell? ⟨G, 2, none⟩ = some (.int .i64 gK) := (blk_cell BG.out 2).trans rfl
       have hf2 : wr.cell? ⟨F, 2, none⟩ = some (.int .i64 K) := (blk_cell HF.out 2).trans rfl
       have hz2 := blk_frozen HF.out 2
       have hne := HFG.out
       go_wp2
       go_region
       all_goals
        go_end0
        exact ⟨rfl, blk_put (cs := #[.slice AC xs.length cC, .slice AD ys.length cD, .int .i64 K]) HF.out 2 _ rfl,
         Kd.R_mono (Kd.R_far (p := ⟨F, 2, none⟩) (Kd.R_types HC.out HF.out (by decide)) (fun _ hk => hk.2) _) (fun _ hk => hk.1),
         Kd.R_mono (Kd.R_far (p := ⟨F, 2, none⟩) (Kd.R_types HD.out HF.out (by decide)) (fun _ hk => hk.2) _) (fun _ hk => hk.1),
         (HB.out.setCell (p := ⟨F, 2, none⟩) HF0.out _).drew, (Kept.setCell (p := ⟨F, 2, none⟩) HKK.out (.inl (.inl rfl)) _).drew⟩
set_option maxHeartbeats 4000000 in
set_option maxRecDepth 100000 in
theorem checked_calls (vC vD : Value) (xs ys : List Int) (K : Int) (b : Bool) (w0 w : World) (hB : Below w0.heap.size w0 w)
  (hC : Kd.R (Kd.int .i64) 3 w w0.heap.size (fun k => some k ≠ vD.ownBlock) vC xs) (hD : Kd.R (Kd.int .i64) 3 w w0.heap.size (fun k => some k ≠ vC.ownBlock) vD ys) (hb : impl_FrmOk.f xs ys K = some b) :
  Calls Try.prog 28 #[.agg #[vC, vD, .int .i64 K]] w fun e w' => ∃ u0 u1 : Value, e = .returned (.agg #[u0, u1, .int .i64 (if b then K else 0)]) ∧
   Kd.R (Kd.int .i64) 3 w' w0.heap.size (fun k => some k ≠ u1.ownBlock) u0 (if b then xs else []) ∧ Kd.R (Kd.int .i64) 3 w' w0.heap.size (fun k => some k ≠ u0.ownBlock) u1 (if b then ys else []) ∧ Below w0.heap.size w0 w' ∧ Below w.heap.size w w' := by
 have hu := Try.underlying25
 obtain ⟨AC, cC, rfl⟩ := Kd.R_slice hC
 obtain ⟨AD, cD, rfl⟩ := Kd.R_slice hD
 obtain ⟨A0, q0, e0, l0, g0⟩ := Kd.R_reads hC
 obtain ⟨A1, q1, e1, l1, g1⟩ := Kd.R_reads hD
 injection e0 with ea0 en0 ec0
 injection e1 with ea1 en1 ec1
 subst ea0 ec0 ea1 ec1
 have HK := Aside0.mk (fun (W : World) (h : Below w.heap.size w W) => impl_FrmOk.calls AC cC xs AD cD ys K b W (Kd.C_below g0 h) l0 (Kd.C_below g1 h) l1 hb)
 have HC := Aside0.mk hC
 have HD := Aside0.mk hD
 have HB0 := Aside0.mk hB
 have HBw := Aside0.mk (Below.refl w.heap.size w)
 have HBz := Aside0.mk hB.size
 clear hC hD g0 g1 l0 l1 hb hB en0 en1
 cases b
 all_goals
  go_enter Try.func28, Try.ntmps28
  go_wp2_with (first
   | ((with_reducible refine gate_dst (N := 1) rfl ?_); refine box_event ?hg (N := 1) ?hd (cs := #[.slice AC xs.length cC, .slice AD ys.length cD, .int .i64 K]) (t := 25) ?hr ?_; (case hd => rfl); (case hg => rfl); (case hr => first | (go_simp; done) | (go_simp; rfl)); intro G1 hG w1 hbox hb; have B1 := Aside0.mk hbox; have n3 := Aside0.mk (below_then HBw.out HBw.out.size hb); clear HBw hbox hb hG; have HBw := n3; clear n3)
   | ((with_reducible refine gate_dst (N := 2) rfl ?_); refine box_event ?hg (N := 2) ?hd (cs := #[.slice none 0 0, .slice none 0 0, .int .i64 0]) (t := 25) ?hr ?_; (case hd => rfl); (case hg => rfl); (case hr => first | (go_simp; done) | (go_simp; rfl)); intro G2 hG w2 hbox hb; have B2 := Aside0.mk hbox; have NE := Aside0.mk (show G2 ≠ G1 by rw [hG]; exact Nat.ne_of_gt (blk_lt B1.out)); have GE2 := Aside0.mk (show w.heap.size ≤ G2 by rw [hG]; exact HBw.out.size); have IGE2 : Nonempty _ := ⟨GE2.out⟩; have n1 := Aside0.mk (blk_below B1.out hb); have n3 := Aside0.mk (below_then HBw.out HBw.out.size hb); clear HBw B1 hbox hb hG; have HBw := n3; have B1 := n1; clear n1 n3; obtain ⟨ha0, ha1, ha2⟩ := cz3 B1.out)
   | (go_at_call 11; refine (HK.out _ HBw.out).mono ?_; rintro e w3 ⟨rfl, hb3⟩; have n1 := Aside0.mk (blk_below B1.out hb3); have n2 := Aside0.mk (blk_below B2.out hb3); have n3 := Aside0.mk (below_then HBw.out HBw.out.size hb3); clear B1 B2 HBw hb3; have B1 := n1; have B2 := n2; have HBw := n3; clear n1 n2 n3; obtain ⟨hc0, hc1, hc2⟩ := cz3 B1.out; obtain ⟨hd0, hd1, hd2, hz0, hz1, hz2⟩ := cf3 B2.out; have hne := NE.out))
 ·refine bodyPost_ret (results_cell_row rfl _ _ G2 25 #[.slice none 0 0, .slice none 0 0, .int .i64 0] (0, 0) _ rfl (put3 B2.out) Try.underlying25 rfl (by kernel_rfl)) rfl ?_
  exact ⟨_, _, rfl, Kd.R_nil _ _ _ _ _, Kd.R_nil _ _ _ _ _, below_put3 (below_then HB0.out HB0.out.size HBw.out) (Nat.le_trans HBz.out GE2.out), below_put3 HBw.out GE2.out⟩
 ·refine bodyPost_ret (results_cell_row rfl _ _ G2 25 #[.slice AC xs.length cC, .slice AD ys.length cD, .int .i64 K] (0, 0) _ rfl (put3 B2.out) Try.underlying25 rfl (by kernel_rfl)) rfl ?_
  exact ⟨_, _, rfl, R_put3 (Kd.R_below HC.out HBw.out) B2.out (by decide), R_put3 (Kd.R_below HD.out HBw.out) B2.out (by decide), below_put3 (below_then HB0.out HB0.out.size HBw.out) (Nat.le_trans HBz.out GE2.out), below_put3 HBw.out GE2.out⟩
/-- The pots' forms added, each so many times as the form tells, as the Go loop goes. -/
def intoL (C : List Int) : List (S25) → Int → List Int → List Int → Int → Option (List Int × List Int × Int)
 | [], _, X, Y, K => some (X, Y, K)
 | p :: ps, i, X, Y, K => if i < (C.length : Int) then (addL 5 X p.f0 (rd C i) 0).bind fun X' => (addL 5 Y p.f1 (rd C i) 0).bind fun Y' => intoL C ps (i + 1) X' Y' (wrap64 (K + wrap64 (rd C i * p.f2))) else none
theorem into_pred (W : World) (A : Option Addr) (c : Nat) (A' : Option Addr) (c' : Nat) (x : S25) (h0 : x.f0.length ≤ c) (r0 : Kd.C (Kd.int .i64) W A x.f0.length x.f0) (h1 : x.f1.length ≤ c') (r1 : Kd.C (Kd.int .i64) W A' x.f1.length x.f1) :
  Calls Try.prog 26 (#[.agg #[.slice A x.f0.length c, .slice A' x.f1.length c', .int .i64 x.f2]] ++ #[]) W fun e w' => e = .returned (.bool (!frmOkB x)) ∧ Below W.heap.size W w' := by
 show Calls Try.prog 26 #[.agg #[.slice A x.f0.length c, .slice A' x.f1.length c', .int .i64 x.f2]] W _
 have hu := Try.underlying25
 have HC := Aside0.mk (fun (w : World) (hb : Below W.heap.size W w) => impl_FrmOk.calls A c x.f0 A' c' x.f1 x.f2 (frmOkB x) w (Kd.C_below r0 hb) h0 (Kd.C_below r1 hb) h1 (frmOk_eq x))
 have HB := Aside0.mk (Below.refl W.heap.size W)
 clear r0 r1
 generalize frmOkB x = b at HC ⊢
 go_enter Try.func26, Try.ntmps26
 go_wp2_with (first
  | ((with_reducible refine gate_dst (N := 1) rfl ?_); refine box_event ?hg (N := 1) ?hd (cs := #[.slice A x.f0.length c, .slice A' x.f1.length c', .int .i64 x.f2]) (t := 25) ?hr ?_; (case hd => rfl); (case hg => rfl); (case hr => first | (go_simp; done) | (go_simp; rfl)); intro G1 hG w1 hbox hb; have B1 := Aside0.mk hbox; have HB1 := Aside0.mk (below_then HB.out HB.out.size hb); clear hbox hb hG; obtain ⟨ha0, ha1, ha2⟩ := cz3 B1.out)
  | (go_at_call 11; refine (HC.out _ HB1.out).mono ?_; rintro e w3 ⟨rfl, hb⟩; have HB3 := Aside0.mk (below_then HB1.out HB1.out.size hb); clear hb))
 go_ret
 exact ⟨rfl, HB3.out⟩
theorem into_step (C : List Int) (l : List (S25)) (x : Int) (X Y : List Int) (K : Int) (r : List Int × List Int × Int) (h0 : 0 ≤ x) (h1 : x < (l.length : Int)) (h : intoL C (l.drop x.toNat) x X Y K = some r) :
  ∃ X' Y', x < (C.length : Int) ∧ addL 5 X (rd_T25 l x).f0 (rd C x) 0 = some X' ∧ addL 5 Y (rd_T25 l x).f1 (rd C x) 0 = some Y' ∧ intoL C (l.drop (x + 1).toNat) (x + 1) X' Y' (wrap64 (K + wrap64 (rd C x * (rd_T25 l x).f2))) = some r := by
 have hl : x.toNat < l.length := by omega
 rw [List.drop_eq_getElem_cons hl] at h
 rw [show rd_T25 l x = l[x.toNat] from by unfold rd_T25; rw [List.getD_eq_getElem?_getD, List.getElem?_eq_getElem hl]; rfl, show (x + 1).toNat = x.toNat + 1 from by omega]
 simp only [intoL] at h
 by_cases c : x < (C.length : Int)
 ·rw [if_pos c] at h
  obtain ⟨X', e1, h⟩ := Option.bind_eq_some_iff.mp h
  obtain ⟨Y', e2, h⟩ := Option.bind_eq_some_iff.mp h
  exact ⟨X', Y', c, e1, e2, h⟩
 ·rw [if_neg c] at h; exact absurd h (by simp)
theorem addL_len : ∀ (k : Nat) (xs c : List Int) (t i : Int) (ys : List Int), addL k xs c t i = some ys → ys.length = xs.length
 | 0, _, _, _, _, _, h => by simp [addL] at h
 | k + 1, xs, c, t, i, ys, h => by
  simp only [addL] at h
  split at h
  ·split at h
   ·split at h
    ·rw [addL_len k _ _ _ _ _ h, List.length_set]
    ·simp at h
   ·simp at h
  ·rw [Option.some.inj h]
def impl_FrmInto.f (l0_0 : List Int) (l0_1 : List Int) (a0_2 : Int) (l1 : List (S25)) : Option (List Int × List Int × Int) := (impl_FrmOk.f l0_0 l0_1 a0_2).bind fun o => if o = true then (if (l1.length : Int) = 3 then (if (l1.any fun x => !frmOkB x) = true then some ([], [], 0) else (intoL l0_0 l1 0 [0, 0, 0] [0, 0] 0).bind fun r => (addL 5 r.2.1 l0_1 1 0).bind fun y => (impl_FrmOk.f r.1 y (wrap64 (r.2.2 + wrap64 a0_2))).bind fun b => some ((if b then r.1 else []), (if b then y else []), (if b then wrap64 (r.2.2 + wrap64 a0_2) else 0))) else some ([], [], 0)) else some ([], [], 0)
set_option maxHeartbeats 8000000 in
set_option maxRecDepth 100000 in
theorem impl_FrmInto.calls (A0_0 : Option Addr) (c0_0 : Nat) (l0_0 : List Int) (A0_1 : Option Addr) (c0_1 : Nat) (l0_1 : List Int) (a0_2 : Int) (A1 : Option Addr) (c1 : Nat) (l1 : List (S25)) (r1 : List Int) (r2 : List Int) (r3 : Int) (w : World) (hr0_0 : Kd.C (Kd.int .i64) w A0_0 l0_0.length l0_0) (hc0_0 : l0_0.length ≤ c0_0) (hr0_1 : Kd.C (Kd.int .i64) w A0_1 l0_1.length l0_1) (hc0_1 : l0_1.length ≤ c0_1) (hr1 : Kd.C k25 w A1 l1.length l1) (hc1 : l1.length ≤ c1) (h : impl_FrmInto.f l0_0 l0_1 a0_2 l1 = some (r1, r2, r3)) :
  Calls Try.prog 7 #[.agg #[.slice A0_0 l0_0.length c0_0, .slice A0_1 l0_1.length c0_1, .int .i64 a0_2], .slice A1 l1.length c1] w fun e w' => ∃ v0_ v1_ : Value, e = .returned (.agg #[v0_, v1_, .int .i64 r3]) ∧ Kd.R (Kd.int .i64) 3 w' w.heap.size (fun k_ => some k_ ≠ (v1_ : Value).ownBlock) v0_ r1 ∧ Kd.R (Kd.int .i64) 3 w' w.heap.size (fun k_ => some k_ ≠ (v0_ : Value).ownBlock) v1_ r2 ∧ Below w.heap.size w w' := by
 have hu := Try.underlying25
 unfold impl_FrmInto.f at h
 have eg : ∀ args w, (callFunc 26 args).run Try.prog w = .ok (.enter 26 args) w := enters_of Try.func26 (by kernel_rfl) rfl
 have hm1 := Kd.C_max hr1
 have HBw := Aside0.mk (Below.refl w.heap.size w)
 have HZ := Aside0.mk (fun (W : World) => impl_FrmZero.calls [0, 0, 0] [0, 0] 0 W rfl)
 obtain ⟨o, ho, h⟩ := Option.bind_eq_some_iff.mp h
 have HK := Aside0.mk (fun (W : World) (hb : Below w.heap.size w W) => impl_FrmOk.calls A0_0 c0_0 l0_0 A0_1 c0_1 l0_1 a0_2 o W (Kd.C_below hr0_0 hb) hc0_0 (Kd.C_below hr0_1 hb) hc0_1 ho)
 have HH := Aside0.mk (fun (W : World) (hb : Below w.heap.size w W) => has_forms (fun x => !frmOkB x) 26 #[] eg A1 c1 l1 W (Kd.C_below hr1 hb) (fun x hx W A c A' c' _ k0 r0 k1 r1 => into_pred W A c A' c' x k0 r0 k1 r1))
 clear ho eg
 cases o with
 | false =>
  simp only [Bool.false_eq_true, if_false] at h
  simp only [Option.some.injEq, Prod.mk.injEq] at h
  obtain ⟨rfl, rfl, rfl⟩ := h
  clear hr0_0 hr0_1 hr1
  go_enter Try.func7, Try.ntmps7
  go_wp2_with (first
   | ((with_reducible refine gate_dst (N := 2) rfl ?_); refine box_event ?hg (N := 2) ?hd (cs := #[.slice A0_0 l0_0.length c0_0, .slice A0_1 l0_1.length c0_1, .int .i64 a0_2]) (t := 25) ?hr ?_; (case hd => rfl); (case hg => rfl); (case hr => first | (go_simp; done) | (go_simp; rfl)); intro G0 hG w1 hbox hb; have B0 := Aside0.mk hbox; have n9 := Aside0.mk (below_then HBw.out HBw.out.size hb); clear HBw; have HBw := n9; clear n9; clear hbox hb hG)
   | ((with_reducible refine gate_dst (N := 4) rfl ?_); refine box_event ?hg (N := 4) ?hd (cs := #[.slice none 0 0, .slice none 0 0, .int .i64 0]) (t := 25) ?hr ?_; (case hd => rfl); (case hg => rfl); (case hr => first | (go_simp; done) | (go_simp; rfl)); intro GR hG w4 hbox hb; have BR := Aside0.mk hbox; have GER := Aside0.mk (show w.heap.size ≤ GR by rw [hG]; exact HBw.out.size); have IGER : Nonempty _ := ⟨GER.out⟩; have NER0 := Aside0.mk (show GR ≠ G0 by rw [hG]; exact Nat.ne_of_gt (blk_lt B0.out)); have n_B0 := Aside0.mk (blk_below B0.out hb); clear B0; have B0 := n_B0; clear n_B0; have n9 := Aside0.mk (below_then HBw.out HBw.out.size hb); clear HBw; have HBw := n9; clear n9; clear hbox hb hG; obtain ⟨hq0, hq1, hq2⟩ := cz3 B0.out)
   | (go_at_call 11; (with_reducible refine (HK.out _ HBw.out).mono ?_); rintro e wq ⟨rfl, hb⟩; have n_B0 := Aside0.mk (blk_below B0.out hb); clear B0; have B0 := n_B0; clear n_B0; have n_BR := Aside0.mk (blk_below BR.out hb); clear BR; have BR := n_BR; clear n_BR; have n9 := Aside0.mk (below_then HBw.out HBw.out.size hb); clear HBw; have HBw := n9; clear n9; clear hb hq0 hq1 hq2; obtain ⟨hd0, hd1, hd2, hz0, hz1, hz2⟩ := cf3 BR.out))
  refine bodyPost_ret (results_cell_row rfl _ _ GR 25 #[.slice none 0 0, .slice none 0 0, .int .i64 0] (0, 0) _ rfl (put3 (by first | exact BR.out | exact blk_drewN BR.out _)) Try.underlying25 rfl (by kernel_rfl)) rfl ?_
  exact ⟨_, _, rfl, Kd.R_nil _ _ _ _ _, Kd.R_nil _ _ _ _ _, below_put3 (by first | exact HBw.out | exact pw_below_drewN HBw.out _) GER.out⟩
 | true =>
  simp only [if_true] at h
  by_cases h3 : (l1.length : Int) = 3
  case neg =>
   rw [if_neg h3] at h
   simp only [Option.some.injEq, Prod.mk.injEq] at h
   obtain ⟨rfl, rfl, rfl⟩ := h
   clear hr0_0 hr0_1 hr1
   have hb3 : ((l1.length : Int) != 3) = true := bne_iff_ne.mpr h3
   clear h3
   go_enter Try.func7, Try.ntmps7
   go_wp2_with (first
    | ((with_reducible refine gate_dst (N := 2) rfl ?_); refine box_event ?hg (N := 2) ?hd (cs := #[.slice A0_0 l0_0.length c0_0, .slice A0_1 l0_1.length c0_1, .int .i64 a0_2]) (t := 25) ?hr ?_; (case hd => rfl); (case hg => rfl); (case hr => first | (go_simp; done) | (go_simp; rfl)); intro G0 hG w1 hbox hb; have B0 := Aside0.mk hbox; have n9 := Aside0.mk (below_then HBw.out HBw.out.size hb); clear HBw; have HBw := n9; clear n9; clear hbox hb hG)
    | ((with_reducible refine gate_dst (N := 4) rfl ?_); refine box_event ?hg (N := 4) ?hd (cs := #[.slice none 0 0, .slice none 0 0, .int .i64 0]) (t := 25) ?hr ?_; (case hd => rfl); (case hg => rfl); (case hr => first | (go_simp; done) | (go_simp; rfl)); intro GR hG w4 hbox hb; have BR := Aside0.mk hbox; have GER := Aside0.mk (show w.heap.size ≤ GR by rw [hG]; exact HBw.out.size); have IGER : Nonempty _ := ⟨GER.out⟩; have NER0 := Aside0.mk (show GR ≠ G0 by rw [hG]; exact Nat.ne_of_gt (blk_lt B0.out)); have n_B0 := Aside0.mk (blk_below B0.out hb); clear B0; have B0 := n_B0; clear n_B0; have n9 := Aside0.mk (below_then HBw.out HBw.out.size hb); clear HBw; have HBw := n9; clear n9; clear hbox hb hG; obtain ⟨hq0, hq1, hq2⟩ := cz3 B0.out)
    | (go_at_call 11; (with_reducible refine (HK.out _ HBw.out).mono ?_); rintro e wq ⟨rfl, hb⟩; have n_B0 := Aside0.mk (blk_below B0.out hb); clear B0; have B0 := n_B0; clear n_B0; have n_BR := Aside0.mk (blk_below BR.out hb); clear BR; have BR := n_BR; clear n_BR; have n9 := Aside0.mk (below_then HBw.out HBw.out.size hb); clear HBw; have HBw := n9; clear n9; clear hb hq0 hq1 hq2; obtain ⟨hd0, hd1, hd2, hz0, hz1, hz2⟩ := cf3 BR.out))
   refine bodyPost_ret (results_cell_row rfl _ _ GR 25 #[.slice none 0 0, .slice none 0 0, .int .i64 0] (0, 0) _ rfl (put3 (by first | exact BR.out | exact blk_drewN BR.out _)) Try.underlying25 rfl (by kernel_rfl)) rfl ?_
   exact ⟨_, _, rfl, Kd.R_nil _ _ _ _ _, Kd.R_nil _ _ _ _ _, below_put3 (by first | exact HBw.out | exact pw_below_drewN HBw.out _) GER.out⟩
  case pos =>
   rw [if_pos h3] at h
   have hb3 : ((l1.length : Int) != 3) = false := bne_eq_false_iff_eq.mpr h3
   generalize hany : (l1.any fun x => !frmOkB x) = b3 at HH h
   clear hany
   cases b3 with
   | true =>
    rw [if_pos rfl] at h
    simp only [Option.some.injEq, Prod.mk.injEq] at h
    obtain ⟨rfl, rfl, rfl⟩ := h
    clear hr0_0 hr0_1 hr1 h3
    go_enter Try.func7, Try.ntmps7
    go_wp2_with (first
     | ((with_reducible refine gate_dst (N := 2) rfl ?_); refine box_event ?hg (N := 2) ?hd (cs := #[.slice A0_0 l0_0.length c0_0, .slice A0_1 l0_1.length c0_1, .int .i64 a0_2]) (t := 25) ?hr ?_; (case hd => rfl); (case hg => rfl); (case hr => first | (go_simp; done) | (go_simp; rfl)); intro G0 hG w1 hbox hb; have B0 := Aside0.mk hbox; have n9 := Aside0.mk (below_then HBw.out HBw.out.size hb); clear HBw; have HBw := n9; clear n9; clear hbox hb hG)
     | ((with_reducible refine gate_dst (N := 4) rfl ?_); refine box_event ?hg (N := 4) ?hd (cs := #[.slice none 0 0, .slice none 0 0, .int .i64 0]) (t := 25) ?hr ?_; (case hd => rfl); (case hg => rfl); (case hr => first | (go_simp; done) | (go_simp; rfl)); intro GR hG w4 hbox hb; have BR := Aside0.mk hbox; have GER := Aside0.mk (show w.heap.size ≤ GR by rw [hG]; exact HBw.out.size); have IGER : Nonempty _ := ⟨GER.out⟩; have NER0 := Aside0.mk (show GR ≠ G0 by rw [hG]; exact Nat.ne_of_gt (blk_lt B0.out)); have n_B0 := Aside0.mk (blk_below B0.out hb); clear B0; have B0 := n_B0; clear n_B0; have n9 := Aside0.mk (below_then HBw.out HBw.out.size hb); clear HBw; have HBw := n9; clear n9; clear hbox hb hG; obtain ⟨hq0, hq1, hq2⟩ := cz3 B0.out)
     | (go_at_call 11; (with_reducible refine (HK.out _ HBw.out).mono ?_); rintro e wq ⟨rfl, hb⟩; have n_B0 := Aside0.mk (blk_below B0.out hb); clear B0; have B0 := n_B0; clear n_B0; have n_BR := Aside0.mk (blk_below BR.out hb); clear BR; have BR := n_BR; clear n_BR; have n9 := Aside0.mk (below_then HBw.out HBw.out.size hb); clear HBw; have HBw := n9; clear n9; clear hb hq0 hq1 hq2; obtain ⟨hd0, hd1, hd2, hz0, hz1, hz2⟩ := cf3 BR.out)
     | (go_at_call 25; refine (HH.out _ HBw.out).mono ?_; rintro e wk0 ⟨rfl, hb⟩; clear hd0 hd1 hd2 hz0 hz1 hz2; have n_B0 := Aside0.mk (blk_below B0.out hb); clear B0; have B0 := n_B0; clear n_B0; have n_BR := Aside0.mk (blk_below BR.out hb); clear BR; have BR := n_BR; clear n_BR; have n9 := Aside0.mk (below_then HBw.out HBw.out.size hb); clear HBw; have HBw := n9; clear n9; clear hb; obtain ⟨he0, he1, he2, hv0, hv1, hv2⟩ := cf3 BR.out))
    refine bodyPost_ret (results_cell_row rfl _ _ GR 25 #[.slice none 0 0, .slice none 0 0, .int .i64 0] (0, 0) _ rfl (put3 (by first | exact BR.out | exact blk_drewN BR.out _)) Try.underlying25 rfl (by kernel_rfl)) rfl ?_
    exact ⟨_, _, rfl, Kd.R_nil _ _ _ _ _, Kd.R_nil _ _ _ _ _, below_put3 (by first | exact HBw.out | exact pw_below_drewN HBw.out _) GER.out⟩
   | false =>
    rw [if_neg (by decide)] at h
    obtain ⟨⟨X9, Y9, K9⟩, hL, h⟩ := Option.bind_eq_some_iff.mp h
    obtain ⟨Y8, hY8, h⟩ := Option.bind_eq_some_iff.mp h
    obtain ⟨b, hbk, h⟩ := Option.bind_eq_some_iff.mp h
    simp only at hY8 hbk h
    have HCK := Aside0.mk hbk
    have HLL := Aside0.mk hL
    have HY8 := Aside0.mk hY8
    have HR0 := Aside0.mk hr0_0
    have HR1 := Aside0.mk hr1
    have HRD := Aside0.mk hr0_1
    clear hbk hL hY8 hr0_0 hr0_1 hr1
    go_enter Try.func7, Try.ntmps7
    go_wp2_with (first
     | ((with_reducible refine gate_dst (N := 2) rfl ?_); refine box_event ?hg (N := 2) ?hd (cs := #[.slice A0_0 l0_0.length c0_0, .slice A0_1 l0_1.length c0_1, .int .i64 a0_2]) (t := 25) ?hr ?_; (case hd => rfl); (case hg => rfl); (case hr => first | (go_simp; done) | (go_simp; rfl)); intro G0 hG w1 hbox hb; have B0 := Aside0.mk hbox; have n9 := Aside0.mk (below_then HBw.out HBw.out.size hb); clear HBw; have HBw := n9; clear n9; clear hbox hb hG)
     | ((with_reducible refine gate_dst (N := 4) rfl ?_); refine box_event ?hg (N := 4) ?hd (cs := #[.slice none 0 0, .slice none 0 0, .int .i64 0]) (t := 25) ?hr ?_; (case hd => rfl); (case hg => rfl); (case hr => first | (go_simp; done) | (go_simp; rfl)); intro GR hG w4 hbox hb; have BR := Aside0.mk hbox; have GER := Aside0.mk (show w.heap.size ≤ GR by rw [hG]; exact HBw.out.size); have IGER : Nonempty _ := ⟨GER.out⟩; have NER0 := Aside0.mk (show GR ≠ G0 by rw [hG]; exact Nat.ne_of_gt (blk_lt B0.out)); have n_B0 := Aside0.mk (blk_below B0.out hb); clear B0; have B0 := n_B0; clear n_B0; have n9 := Aside0.mk (below_then HBw.out HBw.out.size hb); clear HBw; have HBw := n9; clear n9; clear hbox hb hG; obtain ⟨hq0, hq1, hq2⟩ := cz3 B0.out)
     | (go_at_call 11; (with_reducible refine (HK.out _ HBw.out).mono ?_); rintro e wq ⟨rfl, hb⟩; have n_B0 := Aside0.mk (blk_below B0.out hb); clear B0; have B0 := n_B0; clear n_B0; have n_BR := Aside0.mk (blk_below BR.out hb); clear BR; have BR := n_BR; clear n_BR; have n9 := Aside0.mk (below_then HBw.out HBw.out.size hb); clear HBw; have HBw := n9; clear n9; clear hb hq0 hq1 hq2; obtain ⟨hd0, hd1, hd2, hz0, hz1, hz2⟩ := cf3 BR.out)
     | (go_at_call 25; refine (HH.out _ HBw.out).mono ?_; rintro e wk0 ⟨rfl, hb⟩; clear hd0 hd1 hd2 hz0 hz1 hz2; have n_B0 := Aside0.mk (blk_below B0.out hb); clear B0; have B0 := n_B0; clear n_B0; have n_BR := Aside0.mk (blk_below BR.out hb); clear BR; have BR := n_BR; clear n_BR; have n9 := Aside0.mk (below_then HBw.out HBw.out.size hb); clear HBw; have HBw := n9; clear n9; clear hb; obtain ⟨he0, he1, he2, hv0, hv1, hv2⟩ := cf3 BR.out)
     | (go_at_call 18; (with_reducible refine (HZ.out _).mono ?_); rintro e w5 ⟨vC, vD, rfl, ho0, ho1, hb0⟩; have hb : Below wk0.heap.size wk0 w5 := ⟨hb0.os, hb0.tape, hb0.output, hb0.size, hb0.block⟩; have HC := Aside0.mk (Kd.R_lower ho0 HBw.out.size); have HD := Aside0.mk (Kd.R_lower ho1 HBw.out.size); have n_B0 := Aside0.mk (blk_below B0.out hb); clear B0; have B0 := n_B0; clear n_B0; have n_BR := Aside0.mk (blk_below BR.out hb); clear BR; have BR := n_BR; clear n_BR; have n9 := Aside0.mk (below_then HBw.out HBw.out.size hb); clear HBw; have HBw := n9; clear n9; clear hb hb0 ho0 ho1 he0 he1 he2 hv0 hv1 hv2; obtain ⟨AC, cC, eC⟩ := Kd.R_slice HC.out; subst eC; obtain ⟨AD, cD, eD⟩ := Kd.R_slice HD.out; subst eD)
     | ((with_reducible refine gate_dst (N := 5) rfl ?_); refine box_event ?hg (N := 5) ?hd (cs := #[.slice none 0 0, .slice none 0 0, .int .i64 0]) (t := 25) ?hr ?_; (case hd => rfl); (case hg => rfl); (case hr => first | (go_simp; done) | (go_simp; rfl)); intro GF hG w6 hbox hb; have BF := Aside0.mk hbox; have GEF := Aside0.mk (show w.heap.size ≤ GF by rw [hG]; exact HBw.out.size); have IGEF : Nonempty _ := ⟨GEF.out⟩; have NEFG0 := Aside0.mk (show G0 ≠ GF by rw [hG]; exact Nat.ne_of_lt (blk_lt B0.out)); have NEFGR := Aside0.mk (show GR ≠ GF by rw [hG]; exact Nat.ne_of_lt (blk_lt BR.out)); have n_B0 := Aside0.mk (blk_below B0.out hb); clear B0; have B0 := n_B0; clear n_B0; have n_BR := Aside0.mk (blk_below BR.out hb); clear BR; have BR := n_BR; clear n_BR; have n1 := Aside0.mk (Kd.R_below HC.out hb); have n2 := Aside0.mk (Kd.R_below HD.out hb); clear HC HD; have HC := n1; have HD := n2; clear n1 n2; have n9 := Aside0.mk (below_then HBw.out HBw.out.size hb); clear HBw; have HBw := n9; clear n9; clear hbox hb hG; obtain ⟨hf0, hf1, hf2, hy0, hy1, hy2⟩ := cf3 BF.out)
     | ((with_reducible refine gate_store (t := 25) (p := 5) rfl ?_); refine store_event (t := 25) (p := 5) (v := ?vo5_) (w1 := (((w6.setCell ⟨GF, 0, none⟩ (.slice AC 3 cC)).setCell ⟨GF, 1, none⟩ (.slice AD 2 cD)).setCell ⟨GF, 2, none⟩ (.int .i64 0))) ?hg ?ho ?hn ?hr ?_; (case ho => rfl); (case hg => rfl); (case hn => rfl); (case hr => first | (go_simp; done) | (go_simp; rfl)); intro w7 hw; have n1 : Aside0 (Kd.R (Kd.int .i64) 3 w7 w.heap.size (fun k => some k ≠ (Value.slice AD 2 cD).ownBlock) (.slice AC 3 cC) [0, 0, 0]) := ⟨by rw [hw]; exact R_put3 HC.out BF.out (by decide)⟩; have n2 : Aside0 (Kd.R (Kd.int .i64) 3 w7 w.heap.size (fun k => some k ≠ (Value.slice AC 3 cC).ownBlock) (.slice AD 2 cD) [0, 0]) := ⟨by rw [hw]; exact R_put3 HD.out BF.out (by decide)⟩; have n_B0 : Aside0 (w7.heap[G0]? = some (.cells #[.slice A0_0 l0_0.length c0_0, .slice A0_1 l0_1.length c0_1, .int .i64 a0_2] 25 (0, 0))) := ⟨by rw [hw]; exact far3 B0.out NEFG0.out⟩; clear B0; have B0 := n_B0; clear n_B0; have n_BR : Aside0 (w7.heap[GR]? = some (.cells #[.slice none 0 0, .slice none 0 0, .int .i64 0] 25 (0, 0))) := ⟨by rw [hw]; exact far3 BR.out NEFGR.out⟩; clear BR; have BR := n_BR; clear n_BR; have n4 : Aside0 (w7.heap[GF]? = some (.cells #[.slice AC 3 cC, .slice AD 2 cD, .int .i64 0] 25 (0, 0))) := ⟨by rw [hw]; exact put3 BF.out⟩; have n5 : Aside0 (Below w.heap.size w w7) := ⟨by rw [hw]; exact below_put3 HBw.out GEF.out⟩; clear HC HD BF HBw hw hf0 hf1 hf2 hy0 hy1 hy2; have HC := n1; have HD := n2; have BF := n4; have HBw := n5; clear n1 n2 n4 n5))
    go_loopg [24] l1.length (fun gg v24 wr => ∃ (x : Int) (X Y : List Int) (K : Int), v24 = .int .i64 x ∧ Aside0 (0 ≤ x ∧ x ≤ l1.length ∧ (l1.length : Int) - x ≤ gg) ∧ Aside0 (X.length = 3 ∧ Y.length = 2) ∧ Aside0 (intoL l0_0 (l1.drop x.toNat) x X Y K = some (X9, Y9, K9)) ∧ Aside0 (Kd.R (Kd.int .i64) 3 wr w.heap.size (fun k => some k ≠ (Value.slice AD 2 cD).ownBlock) (.slice AC 3 cC) X) ∧ Aside0 (Kd.R (Kd.int .i64) 3 wr w.heap.size (fun k => some k ≠ (Value.slice AC 3 cC).ownBlock) (.slice AD 2 cD) Y) ∧ Aside0 (wr.heap[GF]? = some (.cells #[.slice AC 3 cC, .slice AD 2 cD, .int .i64 K] 25 (0, 0))) ∧ Aside0 (wr.heap[G0]? = some (.cells #[.slice A0_0 l0_0.length c0_0, .slice A0_1 l0_1.length c0_1, .int .i64 a0_2] 25 (0, 0))) ∧ Aside0 (wr.heap[GR]? = some (.cells #[.slice none 0 0, .slice none 0 0, .int .i64 0] 25 (0, 0))) ∧ Aside0 (Below w.heap.size w wr))
    case atStart => exact ⟨0, [0, 0, 0], [0, 0], 0, rfl, ⟨by omega, by omega, by omega⟩, ⟨rfl, rfl⟩, HLL, HC, HD, BF, B0, BR, HBw⟩
    case round =>
     clear HC HD BF B0 BR HBw HLL
     obtain ⟨x, X, Y, K, rfl, HX, HXY, HLL, HC, HD, BF, B0, BR, HBw⟩ := hrel
     have p1 := HX.out.1
     by_cases hlt : x < (l1.length : Int)
     ·skip
      obtain ⟨X', Y', hxc, hX', hY', hL'⟩ := into_step l0_0 l1 x X Y K _ p1 hlt HLL.out
      obtain ⟨ad, A9, c9, A8, c8, e1, hx0, hx1, hx2, hl1, hi1, hl2, hi2⟩ := at_T25 HR1.out x p1 hlt
      cases e1
      obtain ⟨ad0, e2, hc⟩ := Kd.at_int HR0.out x p1 hxc
      cases e2
      replace hx0 := (HBw.out.cell (World.block_lt_of_cell? w _ hx0)).trans hx0
      replace hx1 := (HBw.out.cell (World.block_lt_of_cell? w _ hx1)).trans hx1
      replace hx2 := (HBw.out.cell (World.block_lt_of_cell? w _ hx2)).trans hx2
      have HCC := Aside0.mk hc
      have HL' := Aside0.mk hL'
      have HXY' := Aside0.mk (show X'.length = 3 ∧ Y'.length = 2 from ⟨(addL_len _ _ _ _ _ _ hX').trans HXY.out.1, (addL_len _ _ _ _ _ _ hY').trans HXY.out.2⟩)
      have e3 := HXY.out.1
      have e4 := HXY.out.2
      generalize rd_T25 l1 x = p at hx0 hx1 hx2 hl1 hi1 hl2 hi2 hX' hY' HL'
      generalize hct : rd l0_0 x = t at hX' hY' HCC HL'
      have HA := Aside0.mk (fun (W : World) (hB : Below w.heap.size w W) (hF0 : w.heap.size ≤ GF) (hF : W.heap[GF]? = some (.cells #[.slice AC 3 cC, .slice AD 2 cD, .int .i64 K] 25 (0, 0))) hC hD => add_calls 5 GF (.slice AC 3 cC) (.slice AD 2 cD) X Y K A9 c9 p.f0 A8 c8 p.f1 p.f2 t X' Y' w W hB hF0 hF hC hD hi1 hi2 hX' hY')
      clear hct hc hL' hX' hY' hi1 hi2 hl1 hl2 e3 e4
      go_wp2_with (first
       | ((with_reducible refine gate_dst (N := 7) rfl ?_); refine box_event ?hg (N := 7) ?hd (cs := #[.slice none 0 0, .slice none 0 0, .int .i64 0]) (t := 25) ?hr ?_; (case hd => rfl); (case hg => rfl); (case hr => first | (go_simp; done) | (go_simp; rfl)); intro GP hG w8 hbox hb; have BP := Aside0.mk hbox; have GEP := Aside0.mk (show w.heap.size ≤ GP by rw [hG]; exact HBw.out.size); have IGEP : Nonempty _ := ⟨GEP.out⟩; have NEP0 := Aside0.mk (show G0 ≠ GP by rw [hG]; exact Nat.ne_of_lt (blk_lt B0.out)); have NEPR := Aside0.mk (show GR ≠ GP by rw [hG]; exact Nat.ne_of_lt (blk_lt BR.out)); have NEPF := Aside0.mk (show GF ≠ GP by rw [hG]; exact Nat.ne_of_lt (blk_lt BF.out)); have n_B0 := Aside0.mk (blk_below B0.out hb); clear B0; have B0 := n_B0; clear n_B0; have n_BR := Aside0.mk (blk_below BR.out hb); clear BR; have BR := n_BR; clear n_BR; have n_BF := Aside0.mk (blk_below BF.out hb); clear BF; have BF := n_BF; clear n_BF; have n1 := Aside0.mk (Kd.R_below HC.out hb); have n2 := Aside0.mk (Kd.R_below HD.out hb); clear HC HD; have HC := n1; have HD := n2; clear n1 n2; have n9 := Aside0.mk (below_then HBw.out HBw.out.size hb); clear HBw; have HBw := n9; clear n9; clear hbox hb hG; obtain ⟨hp0, hp1, hp2, hs0, hs1, hs2⟩ := cf3 BP.out)
       | ((with_reducible refine gate_store (t := 25) (p := 7) rfl ?_); refine store_event (t := 25) (p := 7) (v := ?vo7_) (w1 := (((w8.setCell ⟨GP, 0, none⟩ (.slice A9 p.f0.length c9)).setCell ⟨GP, 1, none⟩ (.slice A8 p.f1.length c8)).setCell ⟨GP, 2, none⟩ (.int .i64 p.f2))) ?hg ?ho ?hn ?hr ?_; (case ho => rfl); (case hg => rfl); (case hn => rfl); (case hr => first | (go_simp; done) | (go_simp; rfl)); intro w9 hw; have n1 : Aside0 (Kd.R (Kd.int .i64) 3 w9 w.heap.size (fun k => some k ≠ (Value.slice AD 2 cD).ownBlock) (.slice AC 3 cC) X) := ⟨by rw [hw]; exact R_put3 HC.out BP.out (by decide)⟩; have n2 : Aside0 (Kd.R (Kd.int .i64) 3 w9 w.heap.size (fun k => some k ≠ (Value.slice AC 3 cC).ownBlock) (.slice AD 2 cD) Y) := ⟨by rw [hw]; exact R_put3 HD.out BP.out (by decide)⟩; have n_B0 : Aside0 (w9.heap[G0]? = some (.cells #[.slice (some ad0) l0_0.length c0_0, .slice A0_1 l0_1.length c0_1, .int .i64 a0_2] 25 (0, 0))) := ⟨by rw [hw]; exact far3 B0.out NEP0.out⟩; clear B0; have B0 := n_B0; clear n_B0; have n_BR : Aside0 (w9.heap[GR]? = some (.cells #[.slice none 0 0, .slice none 0 0, .int .i64 0] 25 (0, 0))) := ⟨by rw [hw]; exact far3 BR.out NEPR.out⟩; clear BR; have BR := n_BR; clear n_BR; have n_BF : Aside0 (w9.heap[GF]? = some (.cells #[.slice AC 3 cC, .slice AD 2 cD, .int .i64 K] 25 (0, 0))) := ⟨by rw [hw]; exact far3 BF.out NEPF.out⟩; clear BF; have BF := n_BF; clear n_BF; have n4 : Aside0 (w9.heap[GP]? = some (.cells #[.slice A9 p.f0.length c9, .slice A8 p.f1.length c8, .int .i64 p.f2] 25 (0, 0))) := ⟨by rw [hw]; exact put3 BP.out⟩; have n5 : Aside0 (Below w.heap.size w w9) := ⟨by rw [hw]; exact below_put3 HBw.out GEP.out⟩; clear HC HD BP HBw hw hp0 hp1 hp2 hs0 hs1 hs2; have HC := n1; have HD := n2; have BP := n4; have HBw := n5; clear n1 n2 n4 n5; obtain ⟨hp0, hp1, hp2⟩ := cz3 BP.out; have hg0 : w9.cell? ⟨G0, 0, none⟩ = some (.slice (some ad0) l0_0.length c0_0) := (blk_cell B0.out 0).trans rfl; have hcx := (HBw.out.cell (World.block_lt_of_cell? w _ HCC.out)).trans HCC.out))
      go_still_tail 6, (by kernel_rfl)
      change wpList _ _ _ _ _ w9.drew
      have m1 := Aside0.mk (Kd.R_drew HC.out)
      have m2 := Aside0.mk (Kd.R_drew HD.out)
      have m3 := Aside0.mk (blk_drew BF.out)
      have m4 := Aside0.mk (blk_drew B0.out)
      have m5 := Aside0.mk (blk_drew BR.out)
      have m6 := Aside0.mk (blk_drew BP.out)
      have m7 := Aside0.mk (below_drew1 HBw.out)
      clear HC HD BF B0 BR BP HBw hp0 hp1 hp2 hg0 hcx
      generalize w9.drew = wz at m1 m2 m3 m4 m5 m6 m7 ⊢
      have HC := m1
      have HD := m2
      have BF := m3
      have B0 := m4
      have BR := m5
      have BP := m6
      have HBw := m7
      clear m1 m2 m3 m4 m5 m6 m7
      have hp0 : wz.cell? ⟨GP, 0, none⟩ = some (.slice A9 p.f0.length c9) := (blk_cell BP.out 0).trans rfl; have hp1 : wz.cell? ⟨GP, 1, none⟩ = some (.slice A8 p.f1.length c8) := (blk_cell BP.out 1).trans rfl; have hp2 : wz.cell? ⟨GP, 2, none⟩ = some (.int .i64 p.f2) := (blk_cell BP.out 2).trans rfl
      have hg0 : wz.cell? ⟨G0, 0, none⟩ = some (.slice (some ad0) l0_0.length c0_0) := (blk_cell B0.out 0).trans rfl
      have hcx := (HBw.out.cell (World.block_lt_of_cell? w _ HCC.out)).trans HCC.out
      go_wp2_with (first
       | (go_at_call 27; (with_reducible refine (HA.out _ HBw.out GEF.out BF.out HC.out HD.out).mono ?_); rintro e wa ⟨rfl, hF, hC, hD, hB, hKp⟩; have n_B0 := Aside0.mk (blk_kept B0.out hKp (fun e_ => e_.elim (fun e_ => NEFG0.out e_) (fun e_ => e_.elim (fun e_ => Kd.R_ne HC.out B0.out (by decide) e_) (fun e_ => Kd.R_ne HD.out B0.out (by decide) e_)))); have n_BR := Aside0.mk (blk_kept BR.out hKp (fun e_ => e_.elim (fun e_ => NEFGR.out e_) (fun e_ => e_.elim (fun e_ => Kd.R_ne HC.out BR.out (by decide) e_) (fun e_ => Kd.R_ne HD.out BR.out (by decide) e_)))); clear B0; have B0 := n_B0; clear n_B0; clear BR; have BR := n_BR; clear n_BR; have n1 := Aside0.mk hF; have n2 := Aside0.mk hC; have n3 := Aside0.mk hD; have n4 := Aside0.mk hB; clear BF HC HD HBw hF hC hD hB hKp; have BF := n1; have HC := n2; have HD := n3; have HBw := n4; clear n1 n2 n3 n4))
      go_roundg (l1.length - (x.toNat + 1))
      case measure => have := HX.out; omega
      case rel => exact ⟨x + 1, X', Y', _, by go_num, ⟨by have := HX.out; omega, by have := HX.out; omega, by have := HX.out; omega⟩, HXY', HL', HC, HD, BF, B0, BR, HBw⟩
     ·skip
      have hx9 : x = l1.length := by have := HX.out; omega
      subst hx9
      have hL' := HLL.out
      rw [show ((l1.length : Nat) : Int).toNat = l1.length from by omega, List.drop_length] at hL'
      simp only [intoL, Option.some.injEq, Prod.mk.injEq] at hL'
      obtain ⟨rfl, rfl, rfl⟩ := hL'
      have HA := Aside0.mk (fun (W : World) (hB : Below w.heap.size w W) (hF0 : w.heap.size ≤ GF) (hF : W.heap[GF]? = some (.cells #[.slice AC 3 cC, .slice AD 2 cD, .int .i64 K] 25 (0, 0))) hC hD => add_calls 5 GF (.slice AC 3 cC) (.slice AD 2 cD) X Y K none 0 ([] : List Int) A0_1 c0_1 l0_1 a0_2 1 X Y8 w W hB hF0 hF hC hD (Kd.C_nil _ _) HRD.out (by simp [addL]) HY8.out)
      have hg0 : wr.cell? ⟨G0, 0, none⟩ = some (.slice A0_0 l0_0.length c0_0) := (blk_cell B0.out 0).trans rfl; have hg1 : wr.cell? ⟨G0, 1, none⟩ = some (.slice A0_1 l0_1.length c0_1) := (blk_cell B0.out 1).trans rfl; have hg2 : wr.cell? ⟨G0, 2, none⟩ = some (.int .i64 a0_2) := (blk_cell B0.out 2).trans rfl
      clear p1 hlt HLL
      cases b with
      | false =>
       simp only [if_true, Bool.false_eq_true, if_false, Option.some.injEq, Prod.mk.injEq] at h
       obtain ⟨rfl, rfl, rfl⟩ := h
       go_wp2_with (first
        | (go_at_call 27; (refine (HA.out _ HBw.out GEF.out BF.out HC.out HD.out).mono ?_); rintro e wb ⟨rfl, hF, hC, hD, hB, hKp⟩; clear hg0 hg1 hg2; (try simp only [Int.one_mul] at hF); have n_B0 := Aside0.mk (blk_kept B0.out hKp (fun e_ => e_.elim (fun e_ => NEFG0.out e_) (fun e_ => e_.elim (fun e_ => Kd.R_ne HC.out B0.out (by decide) e_) (fun e_ => Kd.R_ne HD.out B0.out (by decide) e_)))); have n_BR := Aside0.mk (blk_kept BR.out hKp (fun e_ => e_.elim (fun e_ => NEFGR.out e_) (fun e_ => e_.elim (fun e_ => Kd.R_ne HC.out BR.out (by decide) e_) (fun e_ => Kd.R_ne HD.out BR.out (by decide) e_)))); clear B0; have B0 := n_B0; clear n_B0; clear BR; have BR := n_BR; clear n_BR; have n1 := Aside0.mk hF; have n2 := Aside0.mk hC; have n3 := Aside0.mk hD; have n4 := Aside0.mk hB; clear BF HC HD HBw hF hC hD hB hKp; have BF := n1; have HC := n2; have HD := n3; have HBw := n4; clear n1 n2 n3 n4; obtain ⟨hf0, hf1, hf2⟩ := cz3 BF.out)
        | (go_at_call 28; (with_reducible refine (checked_calls _ _ _ _ _ false w _ HBw.out HC.out HD.out HCK.out).mono ?_); rintro e w9 ⟨u0, u1, rfl, hu0, hu1, hB, hb⟩; simp only [if_true, Bool.false_eq_true, if_false] at hu0 hu1; have n1 := Aside0.mk (blk_below BR.out hb); clear BR; have BR := n1; clear n1; have HU0 := Aside0.mk hu0; have HU1 := Aside0.mk hu1; have HB9 := Aside0.mk hB; clear hu0 hu1 hB hb; obtain ⟨U0, q0, e0⟩ := Kd.R_slice HU0.out; subst e0; obtain ⟨U1, q1, e1⟩ := Kd.R_slice HU1.out; subst e1; obtain ⟨hr0, hr1, hr2, hs0, hs1, hs2⟩ := cf3 BR.out))
       refine bodyPost_ret (results_cell_row rfl _ _ GR 25 #[.slice U0 0 q0, .slice U1 0 q1, .int .i64 0] (0, 0) _ rfl (put3 BR.out) Try.underlying25 rfl (by kernel_rfl)) rfl ?_
       exact ⟨_, _, rfl, R_put3 HU0.out BR.out (by decide), R_put3 HU1.out BR.out (by decide), below_put3 HB9.out GER.out⟩
      | true =>
       simp only [if_true, Bool.false_eq_true, if_false, Option.some.injEq, Prod.mk.injEq] at h
       obtain ⟨rfl, rfl, rfl⟩ := h
       go_wp2_with (first
        | (go_at_call 27; (refine (HA.out _ HBw.out GEF.out BF.out HC.out HD.out).mono ?_); rintro e wb ⟨rfl, hF, hC, hD, hB, hKp⟩; clear hg0 hg1 hg2; (try simp only [Int.one_mul] at hF); have n_B0 := Aside0.mk (blk_kept B0.out hKp (fun e_ => e_.elim (fun e_ => NEFG0.out e_) (fun e_ => e_.elim (fun e_ => Kd.R_ne HC.out B0.out (by decide) e_) (fun e_ => Kd.R_ne HD.out B0.out (by decide) e_)))); have n_BR := Aside0.mk (blk_kept BR.out hKp (fun e_ => e_.elim (fun e_ => NEFGR.out e_) (fun e_ => e_.elim (fun e_ => Kd.R_ne HC.out BR.out (by decide) e_) (fun e_ => Kd.R_ne HD.out BR.out (by decide) e_)))); clear B0; have B0 := n_B0; clear n_B0; clear BR; have BR := n_BR; clear n_BR; have n1 := Aside0.mk hF; have n2 := Aside0.mk hC; have n3 := Aside0.mk hD; have n4 := Aside0.mk hB; clear BF HC HD HBw hF hC hD hB hKp; have BF := n1; have HC := n2; have HD := n3; have HBw := n4; clear n1 n2 n3 n4; obtain ⟨hf0, hf1, hf2⟩ := cz3 BF.out)
        | (go_at_call 28; (with_reducible refine (checked_calls _ _ _ _ _ true w _ HBw.out HC.out HD.out HCK.out).mono ?_); rintro e w9 ⟨u0, u1, rfl, hu0, hu1, hB, hb⟩; simp only [if_true, Bool.false_eq_true, if_false] at hu0 hu1; have n1 := Aside0.mk (blk_below BR.out hb); clear BR; have BR := n1; clear n1; have HU0 := Aside0.mk hu0; have HU1 := Aside0.mk hu1; have HB9 := Aside0.mk hB; clear hu0 hu1 hB hb; obtain ⟨U0, q0, e0⟩ := Kd.R_slice HU0.out; subst e0; obtain ⟨U1, q1, e1⟩ := Kd.R_slice HU1.out; subst e1; obtain ⟨hr0, hr1, hr2, hs0, hs1, hs2⟩ := cf3 BR.out))
       refine bodyPost_ret (results_cell_row rfl _ _ GR 25 #[.slice U0 X.length q0, .slice U1 Y8.length q1, .int .i64 (wrap64 (K + wrap64 a0_2))] (0, 0) _ rfl (put3 BR.out) Try.underlying25 rfl (by kernel_rfl)) rfl ?_
       exact ⟨_, _, rfl, R_put3 HU0.out BR.out (by decide), R_put3 HU1.out BR.out (by decide), below_put3 HB9.out GER.out⟩

/-! ### laws_coInts: function 29 -/
def laws_coInts.l0 : Nat → List Int → List Int → Int → Option (Bool)
 | 0, _, _, _ => none
 | k + 1, x0, x1, x5 => if x5 < (x0.length : Int) then (if 0 ≤ x5 then (if x5 < (x1.length : Int) then (if (rd x0 x5) = (rd x1 x5) then (laws_coInts.l0 k x0 x1 (wrap64 (x5 + 1))) else (some false)) else (none)) else (none)) else (some true)
def laws_coInts.f (k : Nat) (l0 : List Int) (l1 : List Int) : Option (Bool) := if (l0.length : Int) = (l1.length : Int) then (laws_coInts.l0 k l0 l1 0) else (some false)
theorem laws_coInts.mono_l : ∀ k, (∀ y0 y1 y2, LeO (laws_coInts.l0 k y0 y1 y2) (laws_coInts.l0 (k + 1) y0 y1 y2))
 | 0 => fun _ _ _ r h => by simp [laws_coInts.l0] at h
 | k + 1 => by
  have ih0 := laws_coInts.mono_l k
  ·intro y0 y1 y2
   unfold laws_coInts.l0
   repeat' first
   | (with_reducible exact ih0 _ _ _)
   | (with_reducible exact LeO.refl _)
   | (with_reducible exact LeO.none _)
   | (with_reducible refine LeO.ite ?_ ?_)
   | (with_reducible refine LeO.bind ?_ (fun _ => ?_))
   | exact ih0 _ _ _
   | exact LeO.none _
   | refine LeO.ite ?_ ?_
   | refine LeO.bind ?_ (fun _ => ?_)
theorem laws_coInts.mono : ∀ a0 a1 k, LeO (laws_coInts.f k a0 a1) (laws_coInts.f (k + 1) a0 a1) := by
 intro a0 a1 k
 have ih0 := laws_coInts.mono_l k
 unfold laws_coInts.f
 repeat' first
   | (with_reducible exact ih0 _ _ _)
   | (with_reducible exact LeO.refl _)
   | (with_reducible exact LeO.none _)
   | (with_reducible refine LeO.ite ?_ ?_)
   | (with_reducible refine LeO.bind ?_ (fun _ => ?_))
   | exact ih0 _ _ _
   | exact LeO.none _
   | refine LeO.ite ?_ ?_
   | refine LeO.bind ?_ (fun _ => ?_)
set_option maxHeartbeats 8000000 in
set_option maxRecDepth 100000 in
theorem laws_coInts.calls (k : Nat) (A0 : Option Addr) (c0 : Nat) (l0 : List Int) (A1 : Option Addr) (c1 : Nat) (l1 : List Int) (r : Bool) (w : World) (hr0 : Kd.C (Kd.int .i64) w A0 l0.length l0) (hc0 : l0.length ≤ c0) (hr1 : Kd.C (Kd.int .i64) w A1 l1.length l1) (hc1 : l1.length ≤ c1) (h : laws_coInts.f k l0 l1 = some r) :
  Calls Try.prog 29 #[.slice A0 l0.length c0, .slice A1 l1.length c1] w fun e w' => e = .returned (.bool r) ∧ Drawn0 w w' := by
 have HR0 := Aside0.mk hr0
 have HC0 := Aside0.mk hc0
 clear hr0 hc0
 have HR1 := Aside0.mk hr1
 have HC1 := Aside0.mk hc1
 clear hr1 hc1
 have H : (if (l0.length : Int) = (l1.length : Int) then (laws_coInts.l0 k l0 l1 0) else (some false)) = some r := h
 clear h
 by_cases c3 : (l0.length : Int) = (l1.length : Int)
 ·rw [if_pos c3] at H
  have c3b0 : ((l0.length : Int) == (l1.length : Int)) = true := beq_iff_eq.mpr c3
  have c3b1 : ((l0.length : Int) != (l1.length : Int)) = false := bne_eq_false_iff_eq.mpr c3
  have c3b2 : (l0.length == l1.length) = true := by first | simpa using c3 | (simp at c3 ⊢; omega)
  clear c3
  have H' := Aside0.mk H
  clear H
  go_enter Try.func29, Try.ntmps29
  go_wp2
  repeat (go_quiet (fail); try go_wp2)
  go_loopg [5] k (fun kq v5 w' => ∃ (x5_1 : Int), v5 = .int .i64 x5_1 ∧ Aside0 (laws_coInts.l0 kq l0 l1 x5_1 = some r) ∧ Aside0 (kq ≤ k) ∧ Drawn0 w w')
  case atStart => exact ⟨(0), (by first | rfl | (simp; done) | (simp [*]; done)), H', ⟨Nat.le_refl _⟩, by repeat (first | exact Drawn0.refl _ | apply Drawn0.step)⟩
  case round =>
   clear H'
   try clear c1
   try clear c2
   try clear p2
   try clear c3
   try clear c3b0
   try clear c3b1
   try clear c3b2
   obtain ⟨x5_1, rfl, HA, HK1, ⟨m1, rfl⟩⟩ := hrel
   cases gk with
   | zero => exact absurd HA.out (by simp [laws_coInts.l0])
   | succ k1 =>
    have H := HA.out
    clear HA
    simp only [laws_coInts.l0] at H
    by_cases c4 : x5_1 < (l0.length : Int)
    ·rw [if_pos c4] at H
     have c4b0 : decide (x5_1 < (l0.length : Int)) = true := decide_eq_true c4
     clear c4
     by_cases c5 : 0 ≤ x5_1
     ·rw [if_pos c5] at H
      have c5b0 : decide (0 ≤ x5_1) = true := decide_eq_true c5
      clear c5
      by_cases c6 : x5_1 < (l1.length : Int)
      ·rw [if_pos c6] at H
       have c6b0 : decide (x5_1 < (l1.length : Int)) = true := decide_eq_true c6
       clear c6
       by_cases c7 : (rd l0 x5_1) = (rd l1 x5_1)
       ·rw [if_pos c7] at H
        have c7b0 : ((rd l0 x5_1) == (rd l1 x5_1)) = true := beq_iff_eq.mpr c7
        have c7b1 : ((rd l0 x5_1) != (rd l1 x5_1)) = false := bne_eq_false_iff_eq.mpr c7
        clear c7
        have H' := Aside0.mk H
        clear H
        have p335 : 0 ≤ (x5_1 : Int) := of_decide_eq_true (by first | (with_reducible assumption) | assumption)
        have q335 : x5_1 < (l0.length : Int) := of_decide_eq_true (by first | (with_reducible assumption) | assumption)
        obtain ⟨ad335, e335, hx335_0⟩ := Kd.at_int HR0.out x5_1 p335 q335
        cases e335
        replace p335 := eq_true p335
        replace q335 := eq_true q335
        have p336 : 0 ≤ (x5_1 : Int) := of_decide_eq_true (by first | (with_reducible assumption) | assumption)
        have q336 : x5_1 < (l1.length : Int) := of_decide_eq_true (by first | (with_reducible assumption) | assumption)
        obtain ⟨ad336, e336, hx336_0⟩ := Kd.at_int HR1.out x5_1 p336 q336
        cases e336
        replace p336 := eq_true p336
        replace q336 := eq_true q336
        go_wp2
        repeat (go_quiet (fail); try go_wp2)
        go_roundg k1
        case measure => have := HK1.out; omega
        case rel => exact ⟨(wrap64 (x5_1 + 1)), (by first | rfl | (simp; done) | (simp [*]; done)), H', ⟨by have := HK1.out; omega⟩, by repeat (first | exact Drawn0.refl _ | apply Drawn0.step)⟩
       ·rw [if_neg c7] at H
        have c7b0 : ((rd l0 x5_1) == (rd l1 x5_1)) = false := beq_eq_false_iff_ne.mpr c7
        have c7b1 : ((rd l0 x5_1) != (rd l1 x5_1)) = true := bne_iff_ne.mpr c7
        obtain rfl := Option.some.inj H
        have p335 : 0 ≤ (x5_1 : Int) := of_decide_eq_true (by first | (with_reducible assumption) | assumption)
        have q335 : x5_1 < (l0.length : Int) := of_decide_eq_true (by first | (with_reducible assumption) | assumption)
        obtain ⟨ad335, e335, hx335_0⟩ := Kd.at_int HR0.out x5_1 p335 q335
        cases e335
        replace p335 := eq_true p335
        replace q335 := eq_true q335
        have p336 : 0 ≤ (x5_1 : Int) := of_decide_eq_true (by first | (with_reducible assumption) | assumption)
        have q336 : x5_1 < (l1.length : Int) := of_decide_eq_true (by first | (with_reducible assumption) | assumption)
        obtain ⟨ad336, e336, hx336_0⟩ := Kd.at_int HR1.out x5_1 p336 q336
        cases e336
        replace p336 := eq_true p336
        replace q336 := eq_true q336
        go_wp2
        repeat (go_quiet (fail); try go_wp2)
        go_ret
        exact ⟨by first | rfl | (simp; done) | (simp [*]; done), by repeat (first | exact Drawn0.refl _ | apply Drawn0.step)⟩
      ·rw [if_neg c6] at H
       exact absurd H (by simp)
     ·rw [if_neg c5] at H
      exact absurd H (by simp)
    ·rw [if_neg c4] at H
     have c4b0 : decide (x5_1 < (l0.length : Int)) = false := decide_eq_false c4
     clear c4
     obtain rfl := Option.some.inj H
     go_wp2
     repeat (go_quiet (fail); try go_wp2)
     go_ret
     exact ⟨by first | rfl | (simp; done) | (simp [*]; done), by repeat (first | exact Drawn0.refl _ | apply Drawn0.step)⟩
 ·rw [if_neg c3] at H
  have c3b0 : ((l0.length : Int) == (l1.length : Int)) = false := beq_eq_false_iff_ne.mpr c3
  have c3b1 : ((l0.length : Int) != (l1.length : Int)) = true := bne_iff_ne.mpr c3
  have c3b2 : (l0.length == l1.length) = false := by first | simpa using c3 | (simp at c3 ⊢; omega)
  obtain rfl := Option.some.inj H
  go_enter Try.func29, Try.ntmps29
  go_wp2
  repeat (go_quiet (fail); try go_wp2)
  go_ret
  exact ⟨by first | rfl | (simp; done) | (simp [*]; done), by repeat (first | exact Drawn0.refl _ | apply Drawn0.step)⟩

end Go.Proofs.Ytopbdoilpdpkmaa.QFnFrmInto

-- shorter
