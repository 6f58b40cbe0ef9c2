/- Plain functions, and that the Go code computes them: written by a program of this session over the seat's translation; the conditions stand in each theorem. -/
import Derived.Test.YtopbdoilpdpkmaaQFnFrmTimesx0
import Derived.Test.YtopbdoilpdpkmaaQFnFrmTimesx4
import Derived.Test.YtopbdoilpdpkmaaQFnFrmTimesx5
namespace Go.Proofs.Ytopbdoilpdpkmaa.QFnFrmTimes
open Go.RowKit Go.Proofs.YtopbdoilpdpkmaaW.PrintWords Go.Proofs.YtopbdoilpdpkmaaW.PrintLast Go.Proofs.YtopbdoilpdpkmaaW.PrintMore Go.Proofs.Ytopbdoilpdpkmaa.HWords
attribute [local go_sem] max2_int min2_int max_two min_two max_three min_three max_four min_four   -- for this text's walks alone
set_option linter.unusedVariables false
set_option linter.unusedSimpArgs false

/-! ### impl_checked: function 28 -/
def impl_checked.f (l0_0 : List Int) (l0_1 : List Int) (a0_2 : Int) : Option (List Int × List Int × Int) := (impl_FrmOk.f l0_0 l0_1 a0_2).bind fun t326 => (if t326 = true then (some (l0_0, l0_1, a0_2)) else (some (([] : List Int), ([] : List Int), 0)))
set_option maxHeartbeats 8000000 in
set_option maxRecDepth 100000 in
theorem impl_checked.calls (P0_0_ : Nat → Prop) (u9000_ : Value) (l0_0 : List Int) (P0_1_ : Nat → Prop) (u9001_ : Value) (l0_1 : List Int) (a0_2 : Int) (r1 : List Int) (r2 : List Int) (r3 : Int) (w0 w : World) (hB : Below w0.heap.size w0 w) (ho0_0 : Kd.R (Kd.int .i64) 3 w w0.heap.size P0_0_ u9000_ l0_0) (hp0_0_0_1 : ∀ k_, P0_0_ k_ → ¬ P0_1_ k_) (ho0_1 : Kd.R (Kd.int .i64) 3 w w0.heap.size P0_1_ u9001_ l0_1) (hp0_1_0_0 : ∀ k_, P0_1_ k_ → ¬ P0_0_ k_) (h : impl_checked.f l0_0 l0_1 a0_2 = some (r1, r2, r3)) :
  Calls Try.prog 28 #[.agg #[u9000_, u9001_, .int .i64 a0_2]] w fun e w' => ∃ v0_ v1_ : Value, e = .returned (.agg #[v0_, v1_, .int .i64 r3]) ∧ Kd.R (Kd.int .i64) 3 w' w0.heap.size (fun k_ => ((P0_0_ k_ ∨ P0_1_ k_) ∨ w.heap.size ≤ k_) ∧ some k_ ≠ (v1_ : Value).ownBlock) v0_ r1 ∧ Kd.R (Kd.int .i64) 3 w' w0.heap.size (fun k_ => ((P0_0_ k_ ∨ P0_1_ k_) ∨ w.heap.size ≤ k_) ∧ some k_ ≠ (v0_ : Value).ownBlock) v1_ r2 ∧ Below w0.heap.size w0 w' ∧ Kept w w' (fun k_ => P0_0_ k_ ∨ P0_1_ k_) := by
 have hu25 := Try.underlying25
 have HO0_0 := Aside0.mk (show Kd.R (Kd.int .i64) 3 w w0.heap.size (fun k_ => ((P0_0_ k_ ∨ P0_1_ k_) ∨ w.heap.size ≤ k_) ∧ some k_ ≠ (u9001_ : Value).ownBlock) u9000_ l0_0 from Kd.R_mono ho0_0 (fun k_ hk => ⟨(.inl (.inl hk)), fun e_ => hp0_0_0_1 k_ hk (ho0_1.1 k_ e_.symm)⟩))
 have HO0_1 := Aside0.mk (show Kd.R (Kd.int .i64) 3 w w0.heap.size (fun k_ => ((P0_0_ k_ ∨ P0_1_ k_) ∨ w.heap.size ≤ k_) ∧ some k_ ≠ (u9000_ : Value).ownBlock) u9001_ l0_1 from Kd.R_mono ho0_1 (fun k_ hk => ⟨(.inl (.inr hk)), fun e_ => hp0_1_0_0 k_ hk (ho0_0.1 k_ e_.symm)⟩))
 have HK := Aside0.mk (Kept.refl w (fun k_ => P0_0_ k_ ∨ P0_1_ k_))
 have HW0 := Aside0.mk hB.size
 have HB := Aside0.mk hB
 clear hB
 have H : ((impl_FrmOk.f l0_0 l0_1 a0_2).bind fun t326 => (if t326 = true then (some (l0_0, l0_1, a0_2)) else (some (([] : List Int), ([] : List Int), 0)))) = some (r1, r2, r3) := h
 clear h
 replace H := Option.bind_eq_some_iff.mp H
 obtain ⟨t326, A20, H⟩ := H
 replace H : (if t326 = true then (some (l0_0, l0_1, a0_2)) else (some (([] : List Int), ([] : List Int), 0))) = some (r1, r2, r3) := H
 have A2 := Aside0.mk A20
 clear A20
 by_cases c3 : t326 = true
 ·subst c3
  have H1 : (some (l0_0, l0_1, a0_2)) = some (r1, r2, r3) := by rw [if_pos rfl] at H; exact H
  clear H
  have H := H1
  clear H1
  simp only [Option.some.injEq, Prod.mk.injEq] at H
  obtain ⟨rfl, rfl, rfl⟩ := H
  obtain ⟨Ao4, co4, eo4⟩ := Kd.R_slice HO0_0.out
  subst eo4
  obtain ⟨Ao5, co5, eo5⟩ := Kd.R_slice HO0_1.out
  subst eo5
  go_enter Try.func28, Try.ntmps28
  go_wp2_with (first | ((with_reducible refine gate_dst (N := 1) rfl ?_); refine box_event ?hg (N := 1) ?hd (cs := #[.slice Ao4 l0_0.length co4, .slice Ao5 l0_1.length co5, .int .i64 a0_2]) (t := 25) ?hr ?_; (case hd => rfl); (case hg => rfl); (case hr => first | (go_simp; done) | (go_simp; rfl)); intro gb324 hg w6 hbox hb; replace HO0_0 := Aside0.mk (rb HO0_0.out hb); replace HO0_1 := Aside0.mk (rb HO0_1.out hb); have BK324 := Aside0.mk (hbox); have GW324 := Aside0.mk ((by rw [hg]; exact (by first | exact HK.out.1 | exact (show Kept w _ (fun k_ => P0_0_ k_ ∨ P0_1_ k_) from by repeat (first | (with_reducible first | exact HK.out | apply Kept.alloc | apply Kept.drewN | apply Kept.drew) | exact HK.out)).1) : w.heap.size ≤ gb324)); have IGW324 : Nonempty _ := ⟨GW324.out⟩; replace HK := Aside0.mk (Kept.below (S := (fun k_ => P0_0_ k_ ∨ P0_1_ k_)) (by repeat (first | (with_reducible first | exact HK.out | apply Kept.alloc | apply Kept.drewN | apply Kept.drew) | exact HK.out)) hb); have GE324 := Aside0.mk ((by rw [hg]; exact (below_size (by exact lB HB.out)) : w0.heap.size ≤ gb324)); have IGE324 : Nonempty _ := ⟨GE324.out⟩; replace HB := Aside0.mk (below_step (by exact lB HB.out) hb); clear hb hbox hg) | ((with_reducible refine gate_dst (N := 2) rfl ?_); refine box_event ?hg (N := 2) ?hd (cs := #[.slice none 0 0, .slice none 0 0, .int .i64 0]) (t := 25) ?hr ?_; (case hd => rfl); (case hg => rfl); (case hr => first | (go_simp; done) | (go_simp; rfl)); intro gb325 hg w7 hbox hb; replace HO0_0 := Aside0.mk (rb HO0_0.out hb); replace HO0_1 := Aside0.mk (rb HO0_1.out hb); have BK325 := Aside0.mk (hbox); have GW325 := Aside0.mk ((by rw [hg]; exact (by first | exact HK.out.1 | exact (show Kept w _ (fun k_ => P0_0_ k_ ∨ P0_1_ k_) from by repeat (first | (with_reducible first | exact HK.out | apply Kept.alloc | apply Kept.drewN | apply Kept.drew | refine Kept.setCell ?_ (.inr GW324.out) _) | exact HK.out)).1) : w.heap.size ≤ gb325)); have IGW325 : Nonempty _ := ⟨GW325.out⟩; replace HK := Aside0.mk (Kept.below (S := (fun k_ => P0_0_ k_ ∨ P0_1_ k_)) (by repeat (first | (with_reducible first | exact HK.out | apply Kept.alloc | apply Kept.drewN | apply Kept.drew | refine Kept.setCell ?_ (.inr GW324.out) _) | exact HK.out)) hb); have GE325 := Aside0.mk ((by rw [hg]; exact (below_size (by exact jB HB.out)) : w0.heap.size ≤ gb325)); have IGE325 : Nonempty _ := ⟨GE325.out⟩; replace HB := Aside0.mk (below_step (by exact jB HB.out) hb); have NB324_325 := Aside0.mk ((neL hg (lK BK324.out) : gb324 ≠ gb325)); have INB324_325 : Nonempty _ := ⟨NB324_325.out⟩; have NB325_324 := Aside0.mk ((neG hg (lK BK324.out) : gb325 ≠ gb324)); have INB325_324 : Nonempty _ := ⟨NB325_324.out⟩; replace BK324 := Aside0.mk (bb BK324.out hb); clear hb hbox hg; have hnb8 := NB324_325.out; have hnc8 := NB325_324.out; obtain ⟨hcz9_0, hcz9_1, hcz9_2, hfz9_0, hfz9_1, hfz9_2⟩ := cf3 BK324.out) | ((with_reducible refine gate_callee (f := 11) rfl ?_); refine goesL_ (some 4) rfl rfl Try.func11 (by kernel_rfl) rfl #[.agg #[.slice Ao4 l0_0.length co4, .slice Ao5 l0_1.length co5, .int .i64 a0_2]] rfl (by (try simp only [mA, mC, mN]); first | done | rfl | (simp only [ld, lt]; rfl)) ?_; (with_reducible refine (impl_FrmOk.calls _ _ l0_0 _ _ l0_1 a0_2 true _ ?side1 ?side2 ?side3 ?side4 A2.out).mono ?_); (case side1 => exact lC <| (Kd.R_reads' HO0_0.out).2.2); (case side2 => exact (Kd.R_reads' HO0_0.out).2.1); (case side3 => exact lC <| (Kd.R_reads' HO0_1.out).2.2); (case side4 => exact (Kd.R_reads' HO0_1.out).2.1); rintro e w10 ⟨rfl, hb⟩; refine ⟨_, rfl, ?_⟩; replace HO0_0 := Aside0.mk (rb HO0_0.out hb); replace HO0_1 := Aside0.mk (rb HO0_1.out hb); replace BK324 := Aside0.mk (bb BK324.out hb); replace BK325 := Aside0.mk (bb BK325.out hb); replace HK := Aside0.mk (Kept.below (S := (fun k_ => P0_0_ k_ ∨ P0_1_ k_)) (by repeat (first | (with_reducible first | exact HK.out | apply Kept.alloc | apply Kept.drewN | apply Kept.drew | refine Kept.setCell ?_ (.inr GW324.out) _ | refine Kept.setCell ?_ (.inr GW325.out) _) | exact HK.out)) hb); replace HB := Aside0.mk (below_step (by exact jB HB.out) hb); (try clear hb); (try clear hb2); (try clear hk); (try clear hi); obtain ⟨hcz11_0, hcz11_1, hcz11_2, hfz11_0, hfz11_1, hfz11_2⟩ := cf3 BK324.out; obtain ⟨hcz12_0, hcz12_1, hcz12_2, hfz12_0, hfz12_1, hfz12_2⟩ := cf3 BK325.out))
  refine bodyPost_ret (results_cell_row rfl _ _ gb325 25 #[.slice Ao4 l0_0.length co4, .slice Ao5 l0_1.length co5, .int .i64 a0_2] (0, 0) _ rfl (by (with_reducible repeat first | refine kN ?_ _ | refine kD ?_ | refine kA ?_ _); refine blk_put (cs := #[.slice Ao4 l0_0.length co4, .slice Ao5 l0_1.length co5, .int .i64 0]) ?_ 2 _ rfl; (with_reducible repeat first | refine kN ?_ _ | refine kD ?_ | refine kA ?_ _); refine blk_put (cs := #[.slice Ao4 l0_0.length co4, .slice none 0 0, .int .i64 0]) ?_ 1 _ rfl; (with_reducible repeat first | refine kN ?_ _ | refine kD ?_ | refine kA ?_ _); refine blk_put (cs := #[.slice none 0 0, .slice none 0 0, .int .i64 0]) ?_ 0 _ rfl; exact lK BK325.out) Try.underlying25 rfl (by kernel_rfl)) rfl ?_
  exact ⟨_, _, by first | rfl | (simp [errW_none, errW_some] <;> rfl) | (simp [*, errW_none, errW_some] <;> rfl), by exact lR <| Kd.R_mono (Kd.R_far (p := ⟨gb325, 2, none⟩) (Kd.R_far (p := ⟨gb325, 1, none⟩) (Kd.R_far (p := ⟨gb325, 0, none⟩) (Kd.R_types HO0_0.out BK325.out (by decide)) (fun _ hk => by first | exact hk.2 | exact fun e_ => hk.2 (e_.trans (ob _ _ _ _))) (.slice Ao4 l0_0.length co4)) (fun _ hk => by first | exact hk.2 | exact fun e_ => hk.2 (e_.trans (ob _ _ _ _))) (.slice Ao5 l0_1.length co5)) (fun _ hk => by first | exact hk.2 | exact fun e_ => hk.2 (e_.trans (ob _ _ _ _))) (.int .i64 a0_2)) (fun _ hk => ⟨hk.1.1, hk.1.2⟩), by exact lR <| Kd.R_mono (Kd.R_far (p := ⟨gb325, 2, none⟩) (Kd.R_far (p := ⟨gb325, 1, none⟩) (Kd.R_far (p := ⟨gb325, 0, none⟩) (Kd.R_types HO0_1.out BK325.out (by decide)) (fun _ hk => by first | exact hk.2 | exact fun e_ => hk.2 (e_.trans (ob _ _ _ _))) (.slice Ao4 l0_0.length co4)) (fun _ hk => by first | exact hk.2 | exact fun e_ => hk.2 (e_.trans (ob _ _ _ _))) (.slice Ao5 l0_1.length co5)) (fun _ hk => by first | exact hk.2 | exact fun e_ => hk.2 (e_.trans (ob _ _ _ _))) (.int .i64 a0_2)) (fun _ hk => ⟨hk.1.1, hk.1.2⟩), by exact jB HB.out, by repeat (first | (with_reducible first | exact HK.out | apply Kept.alloc | apply Kept.drewN | apply Kept.drew | refine Kept.setCell ?_ (.inr GW324.out) _ | refine Kept.setCell ?_ (.inr GW325.out) _) | exact HK.out)⟩
 ·replace c3 := Bool.eq_false_iff.mpr c3
  subst c3
  have H1 : (some (([] : List Int), ([] : List Int), 0)) = some (r1, r2, r3) := by rw [if_neg (show ¬ (false = true) by decide)] at H; exact H
  clear H
  have H := H1
  clear H1
  simp only [Option.some.injEq, Prod.mk.injEq] at H
  obtain ⟨rfl, rfl, rfl⟩ := H
  obtain ⟨Ao13, co13, eo13⟩ := Kd.R_slice HO0_0.out
  subst eo13
  obtain ⟨Ao14, co14, eo14⟩ := Kd.R_slice HO0_1.out
  subst eo14
  go_enter Try.func28, Try.ntmps28
  go_wp2_with (first | ((with_reducible refine gate_dst (N := 1) rfl ?_); refine box_event ?hg (N := 1) ?hd (cs := #[.slice Ao13 l0_0.length co13, .slice Ao14 l0_1.length co14, .int .i64 a0_2]) (t := 25) ?hr ?_; (case hd => rfl); (case hg => rfl); (case hr => first | (go_simp; done) | (go_simp; rfl)); intro gb324 hg w15 hbox hb; replace HO0_0 := Aside0.mk (rb HO0_0.out hb); replace HO0_1 := Aside0.mk (rb HO0_1.out hb); have BK324 := Aside0.mk (hbox); have GW324 := Aside0.mk ((by rw [hg]; exact (by first | exact HK.out.1 | exact (show Kept w _ (fun k_ => P0_0_ k_ ∨ P0_1_ k_) from by repeat (first | (with_reducible first | exact HK.out | apply Kept.alloc | apply Kept.drewN | apply Kept.drew) | exact HK.out)).1) : w.heap.size ≤ gb324)); have IGW324 : Nonempty _ := ⟨GW324.out⟩; replace HK := Aside0.mk (Kept.below (S := (fun k_ => P0_0_ k_ ∨ P0_1_ k_)) (by repeat (first | (with_reducible first | exact HK.out | apply Kept.alloc | apply Kept.drewN | apply Kept.drew) | exact HK.out)) hb); have GE324 := Aside0.mk ((by rw [hg]; exact (below_size (by exact lB HB.out)) : w0.heap.size ≤ gb324)); have IGE324 : Nonempty _ := ⟨GE324.out⟩; replace HB := Aside0.mk (below_step (by exact lB HB.out) hb); clear hb hbox hg) | ((with_reducible refine gate_dst (N := 2) rfl ?_); refine box_event ?hg (N := 2) ?hd (cs := #[.slice none 0 0, .slice none 0 0, .int .i64 0]) (t := 25) ?hr ?_; (case hd => rfl); (case hg => rfl); (case hr => first | (go_simp; done) | (go_simp; rfl)); intro gb325 hg w16 hbox hb; replace HO0_0 := Aside0.mk (rb HO0_0.out hb); replace HO0_1 := Aside0.mk (rb HO0_1.out hb); have BK325 := Aside0.mk (hbox); have GW325 := Aside0.mk ((by rw [hg]; exact (by first | exact HK.out.1 | exact (show Kept w _ (fun k_ => P0_0_ k_ ∨ P0_1_ k_) from by repeat (first | (with_reducible first | exact HK.out | apply Kept.alloc | apply Kept.drewN | apply Kept.drew | refine Kept.setCell ?_ (.inr GW324.out) _) | exact HK.out)).1) : w.heap.size ≤ gb325)); have IGW325 : Nonempty _ := ⟨GW325.out⟩; replace HK := Aside0.mk (Kept.below (S := (fun k_ => P0_0_ k_ ∨ P0_1_ k_)) (by repeat (first | (with_reducible first | exact HK.out | apply Kept.alloc | apply Kept.drewN | apply Kept.drew | refine Kept.setCell ?_ (.inr GW324.out) _) | exact HK.out)) hb); have GE325 := Aside0.mk ((by rw [hg]; exact (below_size (by exact jB HB.out)) : w0.heap.size ≤ gb325)); have IGE325 : Nonempty _ := ⟨GE325.out⟩; replace HB := Aside0.mk (below_step (by exact jB HB.out) hb); have NB324_325 := Aside0.mk ((neL hg (lK BK324.out) : gb324 ≠ gb325)); have INB324_325 : Nonempty _ := ⟨NB324_325.out⟩; have NB325_324 := Aside0.mk ((neG hg (lK BK324.out) : gb325 ≠ gb324)); have INB325_324 : Nonempty _ := ⟨NB325_324.out⟩; replace BK324 := Aside0.mk (bb BK324.out hb); clear hb hbox hg; have hnb17 := NB324_325.out; have hnc17 := NB325_324.out; obtain ⟨hcz18_0, hcz18_1, hcz18_2, hfz18_0, hfz18_1, hfz18_2⟩ := cf3 BK324.out) | ((with_reducible refine gate_callee (f := 11) rfl ?_); refine goesL_ (some 4) rfl rfl Try.func11 (by kernel_rfl) rfl #[.agg #[.slice Ao13 l0_0.length co13, .slice Ao14 l0_1.length co14, .int .i64 a0_2]] rfl (by (try simp only [mA, mC, mN]); first | done | rfl | (simp only [ld, lt]; rfl)) ?_; (with_reducible refine (impl_FrmOk.calls _ _ l0_0 _ _ l0_1 a0_2 false _ ?side1 ?side2 ?side3 ?side4 A2.out).mono ?_); (case side1 => exact lC <| (Kd.R_reads' HO0_0.out).2.2); (case side2 => exact (Kd.R_reads' HO0_0.out).2.1); (case side3 => exact lC <| (Kd.R_reads' HO0_1.out).2.2); (case side4 => exact (Kd.R_reads' HO0_1.out).2.1); rintro e w19 ⟨rfl, hb⟩; refine ⟨_, rfl, ?_⟩; replace HO0_0 := Aside0.mk (rb HO0_0.out hb); replace HO0_1 := Aside0.mk (rb HO0_1.out hb); replace BK324 := Aside0.mk (bb BK324.out hb); replace BK325 := Aside0.mk (bb BK325.out hb); replace HK := Aside0.mk (Kept.below (S := (fun k_ => P0_0_ k_ ∨ P0_1_ k_)) (by repeat (first | (with_reducible first | exact HK.out | apply Kept.alloc | apply Kept.drewN | apply Kept.drew | refine Kept.setCell ?_ (.inr GW324.out) _ | refine Kept.setCell ?_ (.inr GW325.out) _) | exact HK.out)) hb); replace HB := Aside0.mk (below_step (by exact jB HB.out) hb); (try clear hb); (try clear hb2); (try clear hk); (try clear hi); obtain ⟨hcz20_0, hcz20_1, hcz20_2, hfz20_0, hfz20_1, hfz20_2⟩ := cf3 BK325.out))
  refine bodyPost_ret (results_cell_row rfl _ _ gb325 25 #[.slice none 0 0, .slice none 0 0, .int .i64 0] (0, 0) _ rfl (by (with_reducible repeat first | refine kN ?_ _ | refine kD ?_ | refine kA ?_ _); refine blk_put (cs := #[.slice none 0 0, .slice none 0 0, .int .i64 0]) ?_ 2 _ rfl; (with_reducible repeat first | refine kN ?_ _ | refine kD ?_ | refine kA ?_ _); refine blk_put (cs := #[.slice none 0 0, .slice none 0 0, .int .i64 0]) ?_ 1 _ rfl; (with_reducible repeat first | refine kN ?_ _ | refine kD ?_ | refine kA ?_ _); refine blk_put (cs := #[.slice none 0 0, .slice none 0 0, .int .i64 0]) ?_ 0 _ rfl; exact lK BK325.out) Try.underlying25 rfl (by kernel_rfl)) rfl ?_
  exact ⟨_, _, by first | rfl | (simp [errW_none, errW_some] <;> rfl) | (simp [*, errW_none, errW_some] <;> rfl), by first | exact Kd.R_nil _ _ _ _ _ | exact Kd.N_nil _ _ _ _ _ | exact Kd.V_nil _ _ _ _ _ | exact Kd.Q_nil _ _ _ _ _ | exact Kd.S_nil _ _ _ _ _, by first | exact Kd.R_nil _ _ _ _ _ | exact Kd.N_nil _ _ _ _ _ | exact Kd.V_nil _ _ _ _ _ | exact Kd.Q_nil _ _ _ _ _ | exact Kd.S_nil _ _ _ _ _, by exact jB HB.out, by repeat (first | (with_reducible first | exact HK.out | apply Kept.alloc | apply Kept.drewN | apply Kept.drew | refine Kept.setCell ?_ (.inr GW324.out) _ | refine Kept.setCell ?_ (.inr GW325.out) _) | exact HK.out)⟩

/-! ### impl_FrmTimes: function 15, by hand -/
/-- What 'within' answers. -/
def withinB (l : List Int) (n m : Int) : Bool := decide ((l.length : Int) = n) && !(l.any fun x => !inB x (wrap64 (-m)) m)
theorem within_calls (A : Option Addr) (c : Nat) (l : List Int) (n m : Int) (w : World) (hr : Kd.C (Kd.int .i64) w A l.length l) (hc : l.length ≤ c) :
  Calls Try.prog 32 #[.slice A l.length c, .int .i64 n, .int .i64 m] w fun e w' => e = .returned (.bool (withinB l n m)) ∧ Below w.heap.size w w' := impl_within.calls A c l n m _ w hr hc rfl
theorem in_calls (a lo hi : Int) (w : World) : Calls Try.prog 31 #[.int .i64 a, .int .i64 lo, .int .i64 hi] w fun e w' => e = .returned (.bool (inB a lo hi)) ∧ Drawn0 w w' := impl_in.calls a lo hi _ w (in_inB _ _ _)
theorem put3 {w : World} {g T : Nat} {a b c x y z : Value} (h : w.heap[g]? = some (.cells #[a, b, c] T (0, 0))) :
  (((w.setCell ⟨g, 0, none⟩ x).setCell ⟨g, 1, none⟩ y).setCell ⟨g, 2, none⟩ z).heap[g]? = some (.cells #[x, y, z] T (0, 0)) :=
 blk_put (cs := #[x, y, c]) (blk_put (cs := #[x, b, c]) (blk_put (cs := #[a, b, c]) h 0 _ rfl) 1 _ rfl) 2 _ rfl
theorem far3 {w : World} {g k T : Nat} {cs : Array Value} {x y z : Value} (h : w.heap[k]? = some (.cells cs T (0, 0))) (hne : k ≠ g) :
  (((w.setCell ⟨g, 0, none⟩ x).setCell ⟨g, 1, none⟩ y).setCell ⟨g, 2, none⟩ z).heap[k]? = some (.cells cs T (0, 0)) :=
 blk_far (blk_far (blk_far h hne _) hne _) hne _
theorem below_put3 {B : Nat} {w0 w : World} {g : Nat} {x y z : Value} (h : Below B w0 w) (hg : B ≤ g) : Below B w0 (((w.setCell ⟨g, 0, none⟩ x).setCell ⟨g, 1, none⟩ y).setCell ⟨g, 2, none⟩ z) :=
 ((h.setCell (p := ⟨g, 0, none⟩) hg _).setCell (p := ⟨g, 1, none⟩) hg _).setCell (p := ⟨g, 2, none⟩) hg _
theorem R_put3 {w : World} {base : Nat} {ok : Nat → Prop} {v : Value} {xs : List Int} {g T : Nat} {cs : Array Value} {x y z : Value} (h : Kd.R (Kd.int .i64) 3 w base ok v xs) (hb : w.heap[g]? = some (.cells cs T (0, 0))) (hT : ∀ q, q ∈ 3 :: (Kd.int .i64).E → q ≠ T) :
  Kd.R (Kd.int .i64) 3 (((w.setCell ⟨g, 0, none⟩ x).setCell ⟨g, 1, none⟩ y).setCell ⟨g, 2, none⟩ z) base ok v xs :=
 Kd.R_mono (Kd.R_far (p := ⟨g, 2, none⟩) (Kd.R_far (p := ⟨g, 1, none⟩) (Kd.R_far (p := ⟨g, 0, none⟩) (Kd.R_types h hb hT) (fun _ hk => hk.2) x) (fun _ hk => hk.2) y) (fun _ hk => hk.2) z) (fun _ hk => hk.1)
/-- So many times a list added to another, place by place, as the Go loop goes. -/
def addL : Nat → List Int → List Int → Int → Int → Option (List Int)
 | 0, _, _, _, _ => none
 | k + 1, xs, c, t, i => if i < (c.length : Int) then (if 0 ≤ i then (if i < (xs.length : Int) then addL k (xs.set i.toNat (wrap64 (rd xs i + wrap64 (t * rd c i)))) c t (wrap64 (i + 1)) else none) else none) else some xs
def AddPost (w0 w : World) (F : Nat) (vC vD : Value) (K' : Int) (xs' ys' : List Int) (e : Ending) (w' : World) : Prop :=
 e = .returned (.tuple #[]) ∧ w'.heap[F]? = some (.cells #[vC, vD, .int .i64 K'] 25 (0, 0)) ∧
  Kd.R (Kd.int .i64) 3 w' w0.heap.size (fun k => some k ≠ vD.ownBlock) vC xs' ∧ Kd.R (Kd.int .i64) 3 w' w0.heap.size (fun k => some k ≠ vC.ownBlock) vD ys' ∧ Below w0.heap.size w0 w' ∧
  Kept w w' (fun k => k = F ∨ some k = vC.ownBlock ∨ some k = vD.ownBlock)
theorem kept_alloc {w : World} {S : Nat → Prop} {W : World} (h : Kept w W S) (o : Obj) : Kept w (W.alloc o) S := h.alloc o
set_option maxHeartbeats 4000000 in
set_option maxRecDepth 100000 in
theorem add_calls (k F : Nat) (vC vD : Value) (xs ys : List Int) (K : Int) (A0 : Option Addr) (c0 : Nat) (C : List Int) (A1 : Option Addr) (c1 : Nat) (D : List Int) (gK t : Int) (xs' ys' : List Int) (w0 w : World)
  (hB : Below w0.heap.size w0 w) (hF0 : w0.heap.size ≤ F) (hF : w.heap[F]? = some (.cells #[vC, vD, .int .i64 K] 25 (0, 0)))
  (hC : Kd.R (Kd.int .i64) 3 w w0.heap.size (fun k => some k ≠ vD.ownBlock) vC xs) (hD : Kd.R (Kd.int .i64) 3 w w0.heap.size (fun k => some k ≠ vC.ownBlock) vD ys)
  (hr0 : Kd.C (Kd.int .i64) w0 A0 C.length C) (hr1 : Kd.C (Kd.int .i64) w0 A1 D.length D) (h1 : addL k xs C t 0 = some xs') (h2 : addL k ys D t 0 = some ys') :
  Calls Try.prog 27 #[.pointer (some ⟨F, 0, none⟩), .agg #[.slice A0 C.length c0, .slice A1 D.length c1, .int .i64 gK], .int .i64 t] w (AddPost w0 w F vC vD (wrap64 (K + wrap64 (t * gK))) xs' ys') := by
 have hu := Try.underlying25
 obtain ⟨AC, cC, rfl⟩ := Kd.R_slice hC
 obtain ⟨AD, cD, rfl⟩ := Kd.R_slice hD
 have hm0 := Kd.C_max hr0
 have hm1 := Kd.C_max hr1
 have HR0 := Aside0.mk hr0
 have HR1 := Aside0.mk hr1
 have HB := Aside0.mk hB
 have HF0 := Aside0.mk hF0
 have HF := Aside0.mk hF
 have HC := Aside0.mk hC
 have HD := Aside0.mk hD
 have H1 := Aside0.mk h1
 have H2 := Aside0.mk h2
 have HFl := Aside0.mk (blk_lt hF)
 clear hr0 hr1 hB hF0 hF hC hD h1 h2
 go_enter Try.func27, Try.ntmps27
 go_wp2_with (first | ((with_reducible refine gate_dst (N := 4) rfl ?_); refine box_event ?hg (N := 4) ?hd (cs := #[.slice A0 C.length c0, .slice A1 D.length c1, .int .i64 gK]) (t := 25) ?hr ?_; (case hd => rfl); (case hg => rfl); (case hr => first | (go_simp; done) | (go_simp; rfl)); intro G hG w6 hbox hb; have BG := Aside0.mk hbox; have HFG := Aside0.mk (show F ≠ G by rw [hG]; exact Nat.ne_of_lt HFl.out); have n1 := Aside0.mk (Kd.R_below HC.out hb); have n2 := Aside0.mk (Kd.R_below HD.out hb); have n3 := Aside0.mk (blk_below HF.out hb); have n4 := Aside0.mk (below_then HB.out HB.out.size hb); have HKK := Aside0.mk (show Kept w w6 (fun k => k = F ∨ some k = (Value.slice AC xs.length cC).ownBlock ∨ some k = (Value.slice AD ys.length cD).ownBlock) from ⟨hb.size, fun i hi _ => hb.block i hi⟩); have HGw := Aside0.mk (show w.heap.size ≤ G by rw [hG]; exact Nat.le_refl _); clear HC HD HF HB hb hbox hG; have HC := n1; have HD := n2; have HF := n3; have HB := n4; clear n1 n2 n3 n4; have hg0 : w6.cell? ⟨G, 0, none⟩ = some (.slice A0 C.length c0) := (blk_cell BG.out 0).trans rfl))
 go_loopg [13] k (fun kq v13 wr => ∃ (xi : List Int) (i : Int), v13 = .int .i64 i ∧ Aside0 (xi.length = xs.length) ∧ Aside0 (addL kq xi C t i = some xs') ∧ Aside0 (kq ≤ k) ∧ Aside0 (Kd.R (Kd.int .i64) 3 wr w0.heap.size (fun k => some k ≠ (Value.slice AD ys.length cD).ownBlock) (.slice AC xs.length cC) xi) ∧
  Aside0 (Kd.R (Kd.int .i64) 3 wr w0.heap.size (fun k => some k ≠ (Value.slice AC xs.length cC).ownBlock) (.slice AD ys.length cD) ys) ∧ Aside0 (wr.heap[F]? = some (.cells #[.slice AC xs.length cC, .slice AD ys.length cD, .int .i64 K] 25 (0, 0))) ∧ Aside0 (wr.heap[G]? = some (.cells #[.slice A0 C.length c0, .slice A1 D.length c1, .int .i64 gK] 25 (0, 0))) ∧
  Aside0 (Below w0.heap.size w0 wr) ∧ Aside0 (Kept w wr (fun k => k = F ∨ some k = (Value.slice AC xs.length cC).ownBlock ∨ some k = (Value.slice AD ys.length cD).ownBlock)))
 case atStart => exact ⟨xs, 0, rfl, ⟨rfl⟩, H1, ⟨Nat.le_refl _⟩, HC, HD, HF, BG, HB, HKK⟩
 case round =>
  clear HC HD HF BG HB HKK H1
  obtain ⟨xi, i, rfl, HLn, HA, HK1, HC, HD, HF, BG, HB, HKK⟩ := hrel
  cases gk with
  | zero => exact absurd HA.out (by simp [addL])
  | succ k1 =>
   have H := HA.out
   clear HA
   simp only [addL] at H
   by_cases c6 : i < (C.length : Int)
   ·rw [if_pos c6] at H
    by_cases c7 : 0 ≤ i
    case neg => rw [if_neg c7] at H; exact absurd H (by simp)
    case pos =>
     rw [if_pos c7] at H
     by_cases c8 : i < (xi.length : Int)
     case neg => rw [if_neg c8] at H; exact absurd H (by simp)
     case pos =>
      rw [if_pos c8, show wrap64 (i + 1) = i + 1 from by unfold wrap64; omega] at H
      have H' := Aside0.mk H
      clear H
      obtain ⟨ad, e1, hx⟩ := Kd.at_int HR0.out i c7 c6
      cases e1
      replace hx := (HB.out.cell (World.block_lt_of_cell? w0 _ hx)).trans hx
      have hq : i < (xs.length : Int) := by have := HLn.out; omega
      obtain ⟨g9, co9, e9, gb9, gl9, cl9, HG9⟩ := Kd.R_form HC.out (by omega)
      injection e9 with ea en ec
      subst ea
      obtain ⟨hy, hz⟩ := Kd.R_celln 0 HC.out i c7 hq
      have hy' : wr.cell? ⟨g9, i.toNat, none⟩ = some (.int .i64 (rd xi i)) := hy
      clear hy
      have hf0 : wr.cell? ⟨F, 0, none⟩ = some (.slice (some ⟨g9, 0, none⟩) xs.length cC) := (blk_cell HF.out 0).trans rfl
      have HP := Aside0.mk (Kd.R_putg HC.out i (wrap64 (rd xi i + wrap64 (t * rd C i))))
      have GB := Aside0.mk gb9
      clear gb9 gl9 HG9 ec en
      go_wp2
      go_roundg k1
      case measure => have := HK1.out; omega
      case rel => exact ⟨_, i + 1, by go_num, ⟨by rw [List.length_set]; exact HLn.out⟩, H', ⟨by have := HK1.out; omega⟩, ⟨HP.out.1⟩, ⟨Kd.R_grown HD.out HP.out.2 (fun k hk => hk)⟩, ⟨blk_grown HF.out HP.out.2 (Kd.R_ne HC.out HF.out (by decide))⟩, ⟨blk_grown BG.out HP.out.2 (Kd.R_ne HC.out BG.out (by decide))⟩, ⟨HB.out.setCell GB.out _⟩, ⟨Kept.setCell (p := ⟨g9, i.toNat, none⟩) HKK.out (.inl (.inr (.inl rfl))) _⟩⟩
   ·rw [if_neg c6] at H
    obtain rfl := Option.some.inj H
    clear H HK1
    have HLx := HLn
    clear HLn
    have hg1 : wr.cell? ⟨G, 1, none⟩ = some (.slice A1 D.length c1) := (blk_cell BG.out 1).trans rfl
    go_wp2
    clear c6
    go_loopg [34] k (fun kq v34 wr => ∃ (yi : List Int) (j : Int), v34 = .int .i64 j ∧ Aside0 (yi.length = ys.length) ∧ Aside0 (addL kq yi D t j = some ys') ∧ Aside0 (kq ≤ k) ∧ Aside0 (Kd.R (Kd.int .i64) 3 wr w0.heap.size (fun k => some k ≠ (Value.slice AD ys.length cD).ownBlock) (.slice AC xs.length cC) xi) ∧
     Aside0 (Kd.R (Kd.int .i64) 3 wr w0.heap.size (fun k => some k ≠ (Value.slice AC xs.length cC).ownBlock) (.slice AD ys.length cD) yi) ∧ Aside0 (wr.heap[F]? = some (.cells #[.slice AC xs.length cC, .slice AD ys.length cD, .int .i64 K] 25 (0, 0))) ∧ Aside0 (wr.heap[G]? = some (.cells #[.slice A0 C.length c0, .slice A1 D.length c1, .int .i64 gK] 25 (0, 0))) ∧
     Aside0 (Below w0.heap.size w0 wr) ∧ Aside0 (Kept w wr (fun k => k = F ∨ some k = (Value.slice AC xs.length cC).ownBlock ∨ some k = (Value.slice AD ys.length cD).ownBlock)))
    case atStart => exact ⟨ys, 0, rfl, ⟨rfl⟩, H2, ⟨Nat.le_refl _⟩, HC, HD, HF, BG, HB, HKK⟩
    case round =>
     clear HC HD HF BG HB HKK H2 hg1
     obtain ⟨yi, j, rfl, HLn, HA, HK1, HC, HD, HF, BG, HB, HKK⟩ := hrel
     cases gk with
     | zero => exact absurd HA.out (by simp [addL])
     | succ k2 =>
      have H := HA.out
      clear HA
      simp only [addL] at H
      by_cases c6 : j < (D.length : Int)
      ·rw [if_pos c6] at H
       by_cases c7 : 0 ≤ j
       case neg => rw [if_neg c7] at H; exact absurd H (by simp)
       case pos =>
        rw [if_pos c7] at H
        by_cases c8 : j < (yi.length : Int)
        case neg => rw [if_neg c8] at H; exact absurd H (by simp)
        case pos =>
         rw [if_pos c8, show wrap64 (j + 1) = j + 1 from by unfold wrap64; omega] at H
         have H' := Aside0.mk H
         clear H
         obtain ⟨ad, e1, hx⟩ := Kd.at_int HR1.out j c7 c6
         cases e1
         replace hx := (HB.out.cell (World.block_lt_of_cell? w0 _ hx)).trans hx
         have hq : j < (ys.length : Int) := by have := HLn.out; omega
         obtain ⟨g9, co9, e9, gb9, gl9, cl9, HG9⟩ := Kd.R_form HD.out (by omega)
         injection e9 with ea en ec
         subst ea
         obtain ⟨hy, hz⟩ := Kd.R_celln 0 HD.out j c7 hq
         have hy' : wr.cell? ⟨g9, j.toNat, none⟩ = some (.int .i64 (rd yi j)) := hy
         clear hy c8
         have hf1 : wr.cell? ⟨F, 1, none⟩ = some (.slice (some ⟨g9, 0, none⟩) ys.length cD) := (blk_cell HF.out 1).trans rfl
         have HP := Aside0.mk (Kd.R_putg HD.out j (wrap64 (rd yi j + wrap64 (t * rd D j))))
         have GB := Aside0.mk gb9
         clear gb9 gl9 HG9 ec en
         go_wp2
         go_roundg k2
         case measure => have := HK1.out; omega
         case rel => exact ⟨_, j + 1, by go_num, ⟨by rw [List.length_set]; exact HLn.out⟩, H', ⟨by have := HK1.out; omega⟩, ⟨Kd.R_grown HC.out HP.out.2 (fun k hk => hk)⟩, ⟨HP.out.1⟩, ⟨blk_grown HF.out HP.out.2 (Kd.R_ne HD.out HF.out (by decide))⟩, ⟨blk_grown BG.out HP.out.2 (Kd.R_ne HD.out BG.out (by decide))⟩, ⟨HB.out.setCell GB.out _⟩, ⟨Kept.setCell (p := ⟨g9, j.toNat, none⟩) HKK.out (.inl (.inr (.inr rfl))) _⟩⟩
      ·rw [if_neg c6] at H
       obtain rfl := Option.some.inj H
       clear H HK1 HLn HLx
       have hg2 : wr.cell? ⟨G, 2, none⟩ = some (.int .i64 gK) := (blk_cell BG.out 2).trans rfl
       have hf2 : wr.cell? ⟨F, 2, none⟩ = some (.int .i64 K) := (blk_cell HF.out 2).trans rfl
       have hz2 := blk_frozen HF.out 2
       have hne := HFG.out
       go_wp2
       go_region
       all_goals
        go_end0
        exact ⟨rfl, blk_put (cs := #[.slice AC xs.length cC, .slice AD ys.length cD, .int .i64 K]) HF.out 2 _ rfl,
         Kd.R_mono (Kd.R_far (p := ⟨F, 2, none⟩) (Kd.R_types HC.out HF.out (by decide)) (fun _ hk => hk.2) _) (fun _ hk => hk.1),
         Kd.R_mono (Kd.R_far (p := ⟨F, 2, none⟩) (Kd.R_types HD.out HF.out (by decide)) (fun _ hk => hk.2) _) (fun _ hk => hk.1),
         (HB.out.setCell (p := ⟨F, 2, none⟩) HF0.out _).drew, (Kept.setCell (p := ⟨F, 2, none⟩) HKK.out (.inl (.inl rfl)) _).drew⟩
set_option maxHeartbeats 4000000 in
set_option maxRecDepth 100000 in
theorem checked_calls (vC vD : Value) (xs ys : List Int) (K : Int) (b : Bool) (w0 w : World) (hB : Below w0.heap.size w0 w)
  (hC : Kd.R (Kd.int .i64) 3 w w0.heap.size (fun k => some k ≠ vD.ownBlock) vC xs) (hD : Kd.R (Kd.int .i64) 3 w w0.heap.size (fun k => some k ≠ vC.ownBlock) vD ys) (hb : impl_FrmOk.f xs ys K = some b) :
  Calls Try.prog 28 #[.agg #[vC, vD, .int .i64 K]] w fun e w' => ∃ u0 u1 : Value, e = .returned (.agg #[u0, u1, .int .i64 (if b then K else 0)]) ∧
   Kd.R (Kd.int .i64) 3 w' w0.heap.size (fun k => some k ≠ u1.ownBlock) u0 (if b then xs else []) ∧ Kd.R (Kd.int .i64) 3 w' w0.heap.size (fun k => some k ≠ u0.ownBlock) u1 (if b then ys else []) ∧ Below w0.heap.size w0 w' ∧ Below w.heap.size w w' := by
 have hu := Try.underlying25
 obtain ⟨AC, cC, rfl⟩ := Kd.R_slice hC
 obtain ⟨AD, cD, rfl⟩ := Kd.R_slice hD
 obtain ⟨A0, q0, e0, l0, g0⟩ := Kd.R_reads hC
 obtain ⟨A1, q1, e1, l1, g1⟩ := Kd.R_reads hD
 injection e0 with ea0 en0 ec0
 injection e1 with ea1 en1 ec1
 subst ea0 ec0 ea1 ec1
 have HK := Aside0.mk (fun (W : World) (h : Below w.heap.size w W) => impl_FrmOk.calls AC cC xs AD cD ys K b W (Kd.C_below g0 h) l0 (Kd.C_below g1 h) l1 hb)
 have HC := Aside0.mk hC
 have HD := Aside0.mk hD
 have HB0 := Aside0.mk hB
 have HBw := Aside0.mk (Below.refl w.heap.size w)
 have HBz := Aside0.mk hB.size
 clear hC hD g0 g1 l0 l1 hb hB en0 en1
 cases b
 all_goals
  go_enter Try.func28, Try.ntmps28
  go_wp2_with (first
   | ((with_reducible refine gate_dst (N := 1) rfl ?_); refine box_event ?hg (N := 1) ?hd (cs := #[.slice AC xs.length cC, .slice AD ys.length cD, .int .i64 K]) (t := 25) ?hr ?_; (case hd => rfl); (case hg => rfl); (case hr => first | (go_simp; done) | (go_simp; rfl)); intro G1 hG w1 hbox hb; have B1 := Aside0.mk hbox; have n3 := Aside0.mk (below_then HBw.out HBw.out.size hb); clear HBw hbox hb hG; have HBw := n3; clear n3)
   | ((with_reducible refine gate_dst (N := 2) rfl ?_); refine box_event ?hg (N := 2) ?hd (cs := #[.slice none 0 0, .slice none 0 0, .int .i64 0]) (t := 25) ?hr ?_; (case hd => rfl); (case hg => rfl); (case hr => first | (go_simp; done) | (go_simp; rfl)); intro G2 hG w2 hbox hb; have B2 := Aside0.mk hbox; have NE := Aside0.mk (show G2 ≠ G1 by rw [hG]; exact Nat.ne_of_gt (blk_lt B1.out)); have GE2 := Aside0.mk (show w.heap.size ≤ G2 by rw [hG]; exact HBw.out.size); have IGE2 : Nonempty _ := ⟨GE2.out⟩; have n1 := Aside0.mk (blk_below B1.out hb); have n3 := Aside0.mk (below_then HBw.out HBw.out.size hb); clear HBw B1 hbox hb hG; have HBw := n3; have B1 := n1; clear n1 n3; obtain ⟨ha0, ha1, ha2⟩ := cz3 B1.out)
   | (go_at_call 11; refine (HK.out _ HBw.out).mono ?_; rintro e w3 ⟨rfl, hb3⟩; have n1 := Aside0.mk (blk_below B1.out hb3); have n2 := Aside0.mk (blk_below B2.out hb3); have n3 := Aside0.mk (below_then HBw.out HBw.out.size hb3); clear B1 B2 HBw hb3; have B1 := n1; have B2 := n2; have HBw := n3; clear n1 n2 n3; obtain ⟨hc0, hc1, hc2⟩ := cz3 B1.out; obtain ⟨hd0, hd1, hd2, hz0, hz1, hz2⟩ := cf3 B2.out; have hne := NE.out))
 ·refine bodyPost_ret (results_cell_row rfl _ _ G2 25 #[.slice none 0 0, .slice none 0 0, .int .i64 0] (0, 0) _ rfl (put3 B2.out) Try.underlying25 rfl (by kernel_rfl)) rfl ?_
  exact ⟨_, _, rfl, Kd.R_nil _ _ _ _ _, Kd.R_nil _ _ _ _ _, below_put3 (below_then HB0.out HB0.out.size HBw.out) (Nat.le_trans HBz.out GE2.out), below_put3 HBw.out GE2.out⟩
 ·refine bodyPost_ret (results_cell_row rfl _ _ G2 25 #[.slice AC xs.length cC, .slice AD ys.length cD, .int .i64 K] (0, 0) _ rfl (put3 B2.out) Try.underlying25 rfl (by kernel_rfl)) rfl ?_
  exact ⟨_, _, rfl, R_put3 (Kd.R_below HC.out HBw.out) B2.out (by decide), R_put3 (Kd.R_below HD.out HBw.out) B2.out (by decide), below_put3 (below_then HB0.out HB0.out.size HBw.out) (Nat.le_trans HBz.out GE2.out), below_put3 HBw.out GE2.out⟩
def impl_FrmTimes.f (l0_0 : List Int) (l0_1 : List Int) (a0_2 : Int) (a1 : Int) : Option (List Int × List Int × Int) := (impl_FrmOk.f l0_0 l0_1 a0_2).bind fun o => if o = true then (if inB a1 (-10000000) 10000000 = true then ((addL 5 [0, 0, 0] l0_0 a1 0).bind fun x => (addL 5 [0, 0] l0_1 a1 0).bind fun y => (impl_FrmOk.f x y (wrap64 (wrap64 (a1 * a0_2)))).bind fun b => some ((if b then x else []), (if b then y else []), (if b then wrap64 (wrap64 (a1 * a0_2)) else 0))) else some ([], [], 0)) else some ([], [], 0)
set_option maxHeartbeats 8000000 in
set_option maxRecDepth 100000 in
theorem impl_FrmTimes.calls (A0_0 : Option Addr) (c0_0 : Nat) (l0_0 : List Int) (A0_1 : Option Addr) (c0_1 : Nat) (l0_1 : List Int) (a0_2 : Int) (a1 : Int) (r1 : List Int) (r2 : List Int) (r3 : Int) (w : World) (hr0_0 : Kd.C (Kd.int .i64) w A0_0 l0_0.length l0_0) (hc0_0 : l0_0.length ≤ c0_0) (hr0_1 : Kd.C (Kd.int .i64) w A0_1 l0_1.length l0_1) (hc0_1 : l0_1.length ≤ c0_1) (h : impl_FrmTimes.f l0_0 l0_1 a0_2 a1 = some (r1, r2, r3)) :
  Calls Try.prog 15 #[.agg #[.slice A0_0 l0_0.length c0_0, .slice A0_1 l0_1.length c0_1, .int .i64 a0_2], .int .i64 a1] w fun e w' => ∃ v0_ v1_ : Value, e = .returned (.agg #[v0_, v1_, .int .i64 r3]) ∧ Kd.R (Kd.int .i64) 3 w' w.heap.size (fun k_ => some k_ ≠ (v1_ : Value).ownBlock) v0_ r1 ∧ Kd.R (Kd.int .i64) 3 w' w.heap.size (fun k_ => some k_ ≠ (v0_ : Value).ownBlock) v1_ r2 ∧ Below w.heap.size w w' := by
 have hu := Try.underlying25
 unfold impl_FrmTimes.f at h
 have HBw := Aside0.mk (Below.refl w.heap.size w)
 have HZ := Aside0.mk (fun (W : World) => impl_FrmZero.calls [0, 0, 0] [0, 0] 0 W rfl)
 have HI := Aside0.mk (fun (W : World) => in_calls a1 (-10000000) 10000000 W)
 obtain ⟨o0, ho0, h⟩ := Option.bind_eq_some_iff.mp h
 have HK0 := Aside0.mk (fun (W : World) (hb : Below w.heap.size w W) => impl_FrmOk.calls A0_0 c0_0 l0_0 A0_1 c0_1 l0_1 a0_2 o0 W (Kd.C_below hr0_0 hb) hc0_0 (Kd.C_below hr0_1 hb) hc0_1 ho0)
 clear ho0
 cases o0 with
 | false =>
  simp only [Bool.false_eq_true, if_false, Option.some.injEq, Prod.mk.injEq] at h
  obtain ⟨rfl, rfl, rfl⟩ := h
  go_enter Try.func15, Try.ntmps15
  go_wp2_with (first
   | ((with_reducible refine gate_dst (N := 2) rfl ?_); refine box_event ?hg (N := 2) ?hd (cs := #[.slice A0_0 l0_0.length c0_0, .slice A0_1 l0_1.length c0_1, .int .i64 a0_2]) (t := 25) ?hr ?_; (case hd => rfl); (case hg => rfl); (case hr => first | (go_simp; done) | (go_simp; rfl)); intro G0 hG w1 hbox hb; have B0 := Aside0.mk hbox; have n9 := Aside0.mk (below_then HBw.out HBw.out.size hb); clear HBw hbox hb hG; have HBw := n9; clear n9)
   | ((with_reducible refine gate_dst (N := 4) rfl ?_); refine box_event ?hg (N := 4) ?hd (cs := #[.slice none 0 0, .slice none 0 0, .int .i64 0]) (t := 25) ?hr ?_; (case hd => rfl); (case hg => rfl); (case hr => first | (go_simp; done) | (go_simp; rfl)); intro GR hG w4 hbox hb; have BR := Aside0.mk hbox; have GER := Aside0.mk (show w.heap.size ≤ GR by rw [hG]; exact HBw.out.size); have IGER : Nonempty _ := ⟨GER.out⟩; have NER0 := Aside0.mk (show GR ≠ G0 by rw [hG]; exact Nat.ne_of_gt (blk_lt B0.out)); have n_B0 := Aside0.mk (blk_below B0.out hb); clear B0; have B0 := n_B0; clear n_B0; have n9 := Aside0.mk (below_then HBw.out HBw.out.size hb); clear HBw; have HBw := n9; clear n9; obtain ⟨hq0, hq1, hq2⟩ := cz3 B0.out; clear hbox hb hG)
   | (go_at_call 11; (with_reducible refine (HK0.out _ HBw.out).mono ?_); rintro e wk0 ⟨rfl, hb⟩; have n_B0 := Aside0.mk (blk_below B0.out hb); clear B0; have B0 := n_B0; clear n_B0; have n_BR := Aside0.mk (blk_below BR.out hb); clear BR; have BR := n_BR; clear n_BR; have n9 := Aside0.mk (below_then HBw.out HBw.out.size hb); clear HBw; have HBw := n9; clear n9; clear hb; obtain ⟨hd0_0, hd0_1, hd0_2, hz0_0, hz0_1, hz0_2⟩ := cf3 BR.out; skip)
   | (go_at_call 31; refine (HI.out _).mono ?_; rintro e w' ⟨rfl, ⟨n, rfl⟩⟩)
   | (go_at_call 18; (with_reducible refine (HZ.out _).mono ?_); rintro e w5 ⟨vC, vD, rfl, ho0, ho1, hb0⟩; have hb : Below wk0.heap.size wk0 w5 := ⟨hb0.os, hb0.tape, hb0.output, hb0.size, hb0.block⟩; have HC := Aside0.mk (Kd.R_lower ho0 HBw.out.size); have HD := Aside0.mk (Kd.R_lower ho1 HBw.out.size); have n_B0 := Aside0.mk (blk_below B0.out hb); clear B0; have B0 := n_B0; clear n_B0; have n_BR := Aside0.mk (blk_below BR.out hb); clear BR; have BR := n_BR; clear n_BR; have n9 := Aside0.mk (below_then HBw.out HBw.out.size hb); clear HBw; have HBw := n9; clear n9; clear hb hb0 ho0 ho1; obtain ⟨AC, cC, eC⟩ := Kd.R_slice HC.out; subst eC; obtain ⟨AD, cD, eD⟩ := Kd.R_slice HD.out; subst eD)
   | ((with_reducible refine gate_dst (N := 5) rfl ?_); refine box_event ?hg (N := 5) ?hd (cs := #[.slice none 0 0, .slice none 0 0, .int .i64 0]) (t := 25) ?hr ?_; (case hd => rfl); (case hg => rfl); (case hr => first | (go_simp; done) | (go_simp; rfl)); intro GF hG w6 hbox hb; have BF := Aside0.mk hbox; have GEF := Aside0.mk (show w.heap.size ≤ GF by rw [hG]; exact HBw.out.size); have IGEF : Nonempty _ := ⟨GEF.out⟩; have NEFG0 := Aside0.mk (show G0 ≠ GF by rw [hG]; exact Nat.ne_of_lt (blk_lt B0.out)); have NEFGR := Aside0.mk (show GR ≠ GF by rw [hG]; exact Nat.ne_of_lt (blk_lt BR.out)); have n_B0 := Aside0.mk (blk_below B0.out hb); clear B0; have B0 := n_B0; clear n_B0; have n_BR := Aside0.mk (blk_below BR.out hb); clear BR; have BR := n_BR; clear n_BR; have n1 := Aside0.mk (Kd.R_below HC.out hb); have n2 := Aside0.mk (Kd.R_below HD.out hb); clear HC HD; have HC := n1; have HD := n2; clear n1 n2; have n9 := Aside0.mk (below_then HBw.out HBw.out.size hb); clear HBw; have HBw := n9; clear n9; clear hbox hb hG; obtain ⟨hf0, hf1, hf2, hy0, hy1, hy2⟩ := cf3 BF.out)
   | ((with_reducible refine gate_store (t := 25) (p := 5) rfl ?_); refine store_event (t := 25) (p := 5) (v := ?vo_) (w1 := (((w6.setCell ⟨GF, 0, none⟩ (.slice AC 3 cC)).setCell ⟨GF, 1, none⟩ (.slice AD 2 cD)).setCell ⟨GF, 2, none⟩ (.int .i64 0))) ?hg ?ho ?hn ?hr ?_; (case ho => rfl); (case hg => rfl); (case hn => rfl); (case hr => first | (go_simp; done) | (go_simp; rfl)); intro w7 hw; have n1 : Aside0 (Kd.R (Kd.int .i64) 3 w7 w.heap.size (fun k => some k ≠ (Value.slice AD 2 cD).ownBlock) (.slice AC 3 cC) [0, 0, 0]) := ⟨by rw [hw]; exact R_put3 HC.out BF.out (by decide)⟩; have n2 : Aside0 (Kd.R (Kd.int .i64) 3 w7 w.heap.size (fun k => some k ≠ (Value.slice AC 3 cC).ownBlock) (.slice AD 2 cD) [0, 0]) := ⟨by rw [hw]; exact R_put3 HD.out BF.out (by decide)⟩; have n_B0 : Aside0 (w7.heap[G0]? = some (.cells #[.slice A0_0 l0_0.length c0_0, .slice A0_1 l0_1.length c0_1, .int .i64 a0_2] 25 (0, 0))) := ⟨by rw [hw]; exact far3 B0.out NEFG0.out⟩; clear B0; have B0 := n_B0; clear n_B0; have n_BR : Aside0 (w7.heap[GR]? = some (.cells #[.slice none 0 0, .slice none 0 0, .int .i64 0] 25 (0, 0))) := ⟨by rw [hw]; exact far3 BR.out NEFGR.out⟩; clear BR; have BR := n_BR; clear n_BR; have n4 : Aside0 (w7.heap[GF]? = some (.cells #[.slice AC 3 cC, .slice AD 2 cD, .int .i64 0] 25 (0, 0))) := ⟨by rw [hw]; exact put3 BF.out⟩; have n5 : Aside0 (Below w.heap.size w w7) := ⟨by rw [hw]; exact below_put3 HBw.out GEF.out⟩; clear HC HD BF HBw hw; have HC := n1; have HD := n2; have BF := n4; have HBw := n5; clear n1 n2 n4 n5; obtain ⟨hb0_0, hb0_1, hb0_2⟩ := cz3 B0.out)
   | (go_at_call 27; (with_reducible refine (HA0.out _ _ HBw.out _ _ GEF.out BF.out HC.out HD.out).mono ?_); rintro e wa0 ⟨rfl, hF, hC, hD, hB, hKp⟩; (try simp only [Int.zero_add, Int.one_mul] at hF); have n_B0 := Aside0.mk (blk_kept B0.out hKp (fun e_ => e_.elim (fun e_ => NEFG0.out e_) (fun e_ => e_.elim (fun e_ => Kd.R_ne HC.out B0.out (by decide) e_) (fun e_ => Kd.R_ne HD.out B0.out (by decide) e_)))); have n_BR := Aside0.mk (blk_kept BR.out hKp (fun e_ => e_.elim (fun e_ => NEFGR.out e_) (fun e_ => e_.elim (fun e_ => Kd.R_ne HC.out BR.out (by decide) e_) (fun e_ => Kd.R_ne HD.out BR.out (by decide) e_)))); clear B0; have B0 := n_B0; clear n_B0; clear BR; have BR := n_BR; clear n_BR; have n1 := Aside0.mk hF; have n2 := Aside0.mk hC; have n3 := Aside0.mk hD; have n4 := Aside0.mk hB; clear BF HC HD HBw hF hC hD hB hKp; have BF := n1; have HC := n2; have HD := n3; have HBw := n4; clear n1 n2 n3 n4; obtain ⟨hf0_0, hf0_1, hf0_2⟩ := cz3 BF.out; skip)
   | (go_at_call 28; (with_reducible refine (checked_calls _ _ _ _ _ true w _ HBw.out HC.out HD.out HCK.out).mono ?_); rintro e w9 ⟨u0, u1, rfl, hu0, hu1, hB, hb⟩; simp only [if_true, Bool.false_eq_true, if_false] at hu0 hu1; have n1 := Aside0.mk (blk_below BR.out hb); clear BR; have BR := n1; clear n1; have HU0 := Aside0.mk hu0; have HU1 := Aside0.mk hu1; have HB9 := Aside0.mk hB; clear hu0 hu1 hB hb; obtain ⟨U0, q0, e0⟩ := Kd.R_slice HU0.out; subst e0; obtain ⟨U1, q1, e1⟩ := Kd.R_slice HU1.out; subst e1; obtain ⟨hr0, hr1, hr2, hs0, hs1, hs2⟩ := cf3 BR.out))
  refine bodyPost_ret (results_cell_row rfl _ _ GR 25 #[.slice none 0 0, .slice none 0 0, .int .i64 0] (0, 0) _ rfl (put3 (by first | exact BR.out | exact blk_drewN BR.out _)) Try.underlying25 rfl (by kernel_rfl)) rfl ?_
  exact ⟨_, _, rfl, Kd.R_nil _ _ _ _ _, Kd.R_nil _ _ _ _ _, below_put3 (by first | exact HBw.out | exact pw_below_drewN HBw.out _) GER.out⟩
 | true =>
  simp only [if_true] at h
  by_cases hin : inB a1 (-10000000) 10000000 = true
  case neg =>
   rw [if_neg hin] at h
   rw [Bool.eq_false_iff.mpr hin] at HI
   simp only [Option.some.injEq, Prod.mk.injEq] at h
   obtain ⟨rfl, rfl, rfl⟩ := h
   clear hin
   go_enter Try.func15, Try.ntmps15
   go_wp2_with (first
    | ((with_reducible refine gate_dst (N := 2) rfl ?_); refine box_event ?hg (N := 2) ?hd (cs := #[.slice A0_0 l0_0.length c0_0, .slice A0_1 l0_1.length c0_1, .int .i64 a0_2]) (t := 25) ?hr ?_; (case hd => rfl); (case hg => rfl); (case hr => first | (go_simp; done) | (go_simp; rfl)); intro G0 hG w1 hbox hb; have B0 := Aside0.mk hbox; have n9 := Aside0.mk (below_then HBw.out HBw.out.size hb); clear HBw hbox hb hG; have HBw := n9; clear n9)
    | ((with_reducible refine gate_dst (N := 4) rfl ?_); refine box_event ?hg (N := 4) ?hd (cs := #[.slice none 0 0, .slice none 0 0, .int .i64 0]) (t := 25) ?hr ?_; (case hd => rfl); (case hg => rfl); (case hr => first | (go_simp; done) | (go_simp; rfl)); intro GR hG w4 hbox hb; have BR := Aside0.mk hbox; have GER := Aside0.mk (show w.heap.size ≤ GR by rw [hG]; exact HBw.out.size); have IGER : Nonempty _ := ⟨GER.out⟩; have NER0 := Aside0.mk (show GR ≠ G0 by rw [hG]; exact Nat.ne_of_gt (blk_lt B0.out)); have n_B0 := Aside0.mk (blk_below B0.out hb); clear B0; have B0 := n_B0; clear n_B0; have n9 := Aside0.mk (below_then HBw.out HBw.out.size hb); clear HBw; have HBw := n9; clear n9; obtain ⟨hq0, hq1, hq2⟩ := cz3 B0.out; clear hbox hb hG)
    | (go_at_call 11; (with_reducible refine (HK0.out _ HBw.out).mono ?_); rintro e wk0 ⟨rfl, hb⟩; have n_B0 := Aside0.mk (blk_below B0.out hb); clear B0; have B0 := n_B0; clear n_B0; have n_BR := Aside0.mk (blk_below BR.out hb); clear BR; have BR := n_BR; clear n_BR; have n9 := Aside0.mk (below_then HBw.out HBw.out.size hb); clear HBw; have HBw := n9; clear n9; clear hb; obtain ⟨hd0_0, hd0_1, hd0_2, hz0_0, hz0_1, hz0_2⟩ := cf3 BR.out; skip)
    | (go_at_call 31; refine (HI.out _).mono ?_; rintro e w' ⟨rfl, ⟨n, rfl⟩⟩)
    | (go_at_call 18; (with_reducible refine (HZ.out _).mono ?_); rintro e w5 ⟨vC, vD, rfl, ho0, ho1, hb0⟩; have hb : Below wk0.heap.size wk0 w5 := ⟨hb0.os, hb0.tape, hb0.output, hb0.size, hb0.block⟩; have HC := Aside0.mk (Kd.R_lower ho0 HBw.out.size); have HD := Aside0.mk (Kd.R_lower ho1 HBw.out.size); have n_B0 := Aside0.mk (blk_below B0.out hb); clear B0; have B0 := n_B0; clear n_B0; have n_BR := Aside0.mk (blk_below BR.out hb); clear BR; have BR := n_BR; clear n_BR; have n9 := Aside0.mk (below_then HBw.out HBw.out.size hb); clear HBw; have HBw := n9; clear n9; clear hb hb0 ho0 ho1; obtain ⟨AC, cC, eC⟩ := Kd.R_slice HC.out; subst eC; obtain ⟨AD, cD, eD⟩ := Kd.R_slice HD.out; subst eD)
    | ((with_reducible refine gate_dst (N := 5) rfl ?_); refine box_event ?hg (N := 5) ?hd (cs := #[.slice none 0 0, .slice none 0 0, .int .i64 0]) (t := 25) ?hr ?_; (case hd => rfl); (case hg => rfl); (case hr => first | (go_simp; done) | (go_simp; rfl)); intro GF hG w6 hbox hb; have BF := Aside0.mk hbox; have GEF := Aside0.mk (show w.heap.size ≤ GF by rw [hG]; exact HBw.out.size); have IGEF : Nonempty _ := ⟨GEF.out⟩; have NEFG0 := Aside0.mk (show G0 ≠ GF by rw [hG]; exact Nat.ne_of_lt (blk_lt B0.out)); have NEFGR := Aside0.mk (show GR ≠ GF by rw [hG]; exact Nat.ne_of_lt (blk_lt BR.out)); have n_B0 := Aside0.mk (blk_below B0.out hb); clear B0; have B0 := n_B0; clear n_B0; have n_BR := Aside0.mk (blk_below BR.out hb); clear BR; have BR := n_BR; clear n_BR; have n1 := Aside0.mk (Kd.R_below HC.out hb); have n2 := Aside0.mk (Kd.R_below HD.out hb); clear HC HD; have HC := n1; have HD := n2; clear n1 n2; have n9 := Aside0.mk (below_then HBw.out HBw.out.size hb); clear HBw; have HBw := n9; clear n9; clear hbox hb hG; obtain ⟨hf0, hf1, hf2, hy0, hy1, hy2⟩ := cf3 BF.out)
    | ((with_reducible refine gate_store (t := 25) (p := 5) rfl ?_); refine store_event (t := 25) (p := 5) (v := ?vo_) (w1 := (((w6.setCell ⟨GF, 0, none⟩ (.slice AC 3 cC)).setCell ⟨GF, 1, none⟩ (.slice AD 2 cD)).setCell ⟨GF, 2, none⟩ (.int .i64 0))) ?hg ?ho ?hn ?hr ?_; (case ho => rfl); (case hg => rfl); (case hn => rfl); (case hr => first | (go_simp; done) | (go_simp; rfl)); intro w7 hw; have n1 : Aside0 (Kd.R (Kd.int .i64) 3 w7 w.heap.size (fun k => some k ≠ (Value.slice AD 2 cD).ownBlock) (.slice AC 3 cC) [0, 0, 0]) := ⟨by rw [hw]; exact R_put3 HC.out BF.out (by decide)⟩; have n2 : Aside0 (Kd.R (Kd.int .i64) 3 w7 w.heap.size (fun k => some k ≠ (Value.slice AC 3 cC).ownBlock) (.slice AD 2 cD) [0, 0]) := ⟨by rw [hw]; exact R_put3 HD.out BF.out (by decide)⟩; have n_B0 : Aside0 (w7.heap[G0]? = some (.cells #[.slice A0_0 l0_0.length c0_0, .slice A0_1 l0_1.length c0_1, .int .i64 a0_2] 25 (0, 0))) := ⟨by rw [hw]; exact far3 B0.out NEFG0.out⟩; clear B0; have B0 := n_B0; clear n_B0; have n_BR : Aside0 (w7.heap[GR]? = some (.cells #[.slice none 0 0, .slice none 0 0, .int .i64 0] 25 (0, 0))) := ⟨by rw [hw]; exact far3 BR.out NEFGR.out⟩; clear BR; have BR := n_BR; clear n_BR; have n4 : Aside0 (w7.heap[GF]? = some (.cells #[.slice AC 3 cC, .slice AD 2 cD, .int .i64 0] 25 (0, 0))) := ⟨by rw [hw]; exact put3 BF.out⟩; have n5 : Aside0 (Below w.heap.size w w7) := ⟨by rw [hw]; exact below_put3 HBw.out GEF.out⟩; clear HC HD BF HBw hw; have HC := n1; have HD := n2; have BF := n4; have HBw := n5; clear n1 n2 n4 n5; obtain ⟨hb0_0, hb0_1, hb0_2⟩ := cz3 B0.out)
    | (go_at_call 27; (with_reducible refine (HA0.out _ _ HBw.out _ _ GEF.out BF.out HC.out HD.out).mono ?_); rintro e wa0 ⟨rfl, hF, hC, hD, hB, hKp⟩; (try simp only [Int.zero_add, Int.one_mul] at hF); have n_B0 := Aside0.mk (blk_kept B0.out hKp (fun e_ => e_.elim (fun e_ => NEFG0.out e_) (fun e_ => e_.elim (fun e_ => Kd.R_ne HC.out B0.out (by decide) e_) (fun e_ => Kd.R_ne HD.out B0.out (by decide) e_)))); have n_BR := Aside0.mk (blk_kept BR.out hKp (fun e_ => e_.elim (fun e_ => NEFGR.out e_) (fun e_ => e_.elim (fun e_ => Kd.R_ne HC.out BR.out (by decide) e_) (fun e_ => Kd.R_ne HD.out BR.out (by decide) e_)))); clear B0; have B0 := n_B0; clear n_B0; clear BR; have BR := n_BR; clear n_BR; have n1 := Aside0.mk hF; have n2 := Aside0.mk hC; have n3 := Aside0.mk hD; have n4 := Aside0.mk hB; clear BF HC HD HBw hF hC hD hB hKp; have BF := n1; have HC := n2; have HD := n3; have HBw := n4; clear n1 n2 n3 n4; obtain ⟨hf0_0, hf0_1, hf0_2⟩ := cz3 BF.out; skip)
    | (go_at_call 28; (with_reducible refine (checked_calls _ _ _ _ _ true w _ HBw.out HC.out HD.out HCK.out).mono ?_); rintro e w9 ⟨u0, u1, rfl, hu0, hu1, hB, hb⟩; simp only [if_true, Bool.false_eq_true, if_false] at hu0 hu1; have n1 := Aside0.mk (blk_below BR.out hb); clear BR; have BR := n1; clear n1; have HU0 := Aside0.mk hu0; have HU1 := Aside0.mk hu1; have HB9 := Aside0.mk hB; clear hu0 hu1 hB hb; obtain ⟨U0, q0, e0⟩ := Kd.R_slice HU0.out; subst e0; obtain ⟨U1, q1, e1⟩ := Kd.R_slice HU1.out; subst e1; obtain ⟨hr0, hr1, hr2, hs0, hs1, hs2⟩ := cf3 BR.out))
   refine bodyPost_ret (results_cell_row rfl _ _ GR 25 #[.slice none 0 0, .slice none 0 0, .int .i64 0] (0, 0) _ rfl (put3 (by first | exact BR.out | exact blk_drewN BR.out _)) Try.underlying25 rfl (by kernel_rfl)) rfl ?_
   exact ⟨_, _, rfl, Kd.R_nil _ _ _ _ _, Kd.R_nil _ _ _ _ _, below_put3 (by first | exact HBw.out | exact pw_below_drewN HBw.out _) GER.out⟩
  case pos =>
   rw [if_pos hin] at h
   rw [hin] at HI
   clear hin
   obtain ⟨x0, hx0, h⟩ := Option.bind_eq_some_iff.mp h
   obtain ⟨y0, hy0, h⟩ := Option.bind_eq_some_iff.mp h
   have HA0 := Aside0.mk (fun (W : World) (F : Nat) (hB : Below w.heap.size w W) (vC vD : Value) (hF0 : w.heap.size ≤ F) (hF : W.heap[F]? = some (.cells #[vC, vD, .int .i64 (0)] 25 (0, 0))) hC hD => add_calls 5 F vC vD [0, 0, 0] [0, 0] (0) A0_0 c0_0 l0_0 A0_1 c0_1 l0_1 a0_2 (a1) x0 y0 w W hB hF0 hF hC hD hr0_0 hr0_1 hx0 hy0)
   obtain ⟨b, hbk, h⟩ := Option.bind_eq_some_iff.mp h
   have HCK := Aside0.mk hbk
   clear hbk hx0 hy0 hr0_0 hr0_1
   cases b with
   | false =>
    simp only [if_true, Bool.false_eq_true, if_false, Option.some.injEq, Prod.mk.injEq] at h
    obtain ⟨rfl, rfl, rfl⟩ := h
    go_enter Try.func15, Try.ntmps15
    go_wp2_with (first
     | ((with_reducible refine gate_dst (N := 2) rfl ?_); refine box_event ?hg (N := 2) ?hd (cs := #[.slice A0_0 l0_0.length c0_0, .slice A0_1 l0_1.length c0_1, .int .i64 a0_2]) (t := 25) ?hr ?_; (case hd => rfl); (case hg => rfl); (case hr => first | (go_simp; done) | (go_simp; rfl)); intro G0 hG w1 hbox hb; have B0 := Aside0.mk hbox; have n9 := Aside0.mk (below_then HBw.out HBw.out.size hb); clear HBw hbox hb hG; have HBw := n9; clear n9)
     | ((with_reducible refine gate_dst (N := 4) rfl ?_); refine box_event ?hg (N := 4) ?hd (cs := #[.slice none 0 0, .slice none 0 0, .int .i64 0]) (t := 25) ?hr ?_; (case hd => rfl); (case hg => rfl); (case hr => first | (go_simp; done) | (go_simp; rfl)); intro GR hG w4 hbox hb; have BR := Aside0.mk hbox; have GER := Aside0.mk (show w.heap.size ≤ GR by rw [hG]; exact HBw.out.size); have IGER : Nonempty _ := ⟨GER.out⟩; have NER0 := Aside0.mk (show GR ≠ G0 by rw [hG]; exact Nat.ne_of_gt (blk_lt B0.out)); have n_B0 := Aside0.mk (blk_below B0.out hb); clear B0; have B0 := n_B0; clear n_B0; have n9 := Aside0.mk (below_then HBw.out HBw.out.size hb); clear HBw; have HBw := n9; clear n9; obtain ⟨hq0, hq1, hq2⟩ := cz3 B0.out; clear hbox hb hG)
     | (go_at_call 11; (with_reducible refine (HK0.out _ HBw.out).mono ?_); rintro e wk0 ⟨rfl, hb⟩; have n_B0 := Aside0.mk (blk_below B0.out hb); clear B0; have B0 := n_B0; clear n_B0; have n_BR := Aside0.mk (blk_below BR.out hb); clear BR; have BR := n_BR; clear n_BR; have n9 := Aside0.mk (below_then HBw.out HBw.out.size hb); clear HBw; have HBw := n9; clear n9; clear hb; obtain ⟨hd0_0, hd0_1, hd0_2, hz0_0, hz0_1, hz0_2⟩ := cf3 BR.out; skip)
     | (go_at_call 31; refine (HI.out _).mono ?_; rintro e w' ⟨rfl, ⟨n, rfl⟩⟩)
     | (go_at_call 18; (with_reducible refine (HZ.out _).mono ?_); rintro e w5 ⟨vC, vD, rfl, ho0, ho1, hb0⟩; have hb : Below wk0.heap.size wk0 w5 := ⟨hb0.os, hb0.tape, hb0.output, hb0.size, hb0.block⟩; have HC := Aside0.mk (Kd.R_lower ho0 HBw.out.size); have HD := Aside0.mk (Kd.R_lower ho1 HBw.out.size); have n_B0 := Aside0.mk (blk_below B0.out hb); clear B0; have B0 := n_B0; clear n_B0; have n_BR := Aside0.mk (blk_below BR.out hb); clear BR; have BR := n_BR; clear n_BR; have n9 := Aside0.mk (below_then HBw.out HBw.out.size hb); clear HBw; have HBw := n9; clear n9; clear hb hb0 ho0 ho1; obtain ⟨AC, cC, eC⟩ := Kd.R_slice HC.out; subst eC; obtain ⟨AD, cD, eD⟩ := Kd.R_slice HD.out; subst eD)
     | ((with_reducible refine gate_dst (N := 5) rfl ?_); refine box_event ?hg (N := 5) ?hd (cs := #[.slice none 0 0, .slice none 0 0, .int .i64 0]) (t := 25) ?hr ?_; (case hd => rfl); (case hg => rfl); (case hr => first | (go_simp; done) | (go_simp; rfl)); intro GF hG w6 hbox hb; have BF := Aside0.mk hbox; have GEF := Aside0.mk (show w.heap.size ≤ GF by rw [hG]; exact HBw.out.size); have IGEF : Nonempty _ := ⟨GEF.out⟩; have NEFG0 := Aside0.mk (show G0 ≠ GF by rw [hG]; exact Nat.ne_of_lt (blk_lt B0.out)); have NEFGR := Aside0.mk (show GR ≠ GF by rw [hG]; exact Nat.ne_of_lt (blk_lt BR.out)); have n_B0 := Aside0.mk (blk_below B0.out hb); clear B0; have B0 := n_B0; clear n_B0; have n_BR := Aside0.mk (blk_below BR.out hb); clear BR; have BR := n_BR; clear n_BR; have n1 := Aside0.mk (Kd.R_below HC.out hb); have n2 := Aside0.mk (Kd.R_below HD.out hb); clear HC HD; have HC := n1; have HD := n2; clear n1 n2; have n9 := Aside0.mk (below_then HBw.out HBw.out.size hb); clear HBw; have HBw := n9; clear n9; clear hbox hb hG; obtain ⟨hf0, hf1, hf2, hy0, hy1, hy2⟩ := cf3 BF.out)
     | ((with_reducible refine gate_store (t := 25) (p := 5) rfl ?_); refine store_event (t := 25) (p := 5) (v := ?vo_) (w1 := (((w6.setCell ⟨GF, 0, none⟩ (.slice AC 3 cC)).setCell ⟨GF, 1, none⟩ (.slice AD 2 cD)).setCell ⟨GF, 2, none⟩ (.int .i64 0))) ?hg ?ho ?hn ?hr ?_; (case ho => rfl); (case hg => rfl); (case hn => rfl); (case hr => first | (go_simp; done) | (go_simp; rfl)); intro w7 hw; have n1 : Aside0 (Kd.R (Kd.int .i64) 3 w7 w.heap.size (fun k => some k ≠ (Value.slice AD 2 cD).ownBlock) (.slice AC 3 cC) [0, 0, 0]) := ⟨by rw [hw]; exact R_put3 HC.out BF.out (by decide)⟩; have n2 : Aside0 (Kd.R (Kd.int .i64) 3 w7 w.heap.size (fun k => some k ≠ (Value.slice AC 3 cC).ownBlock) (.slice AD 2 cD) [0, 0]) := ⟨by rw [hw]; exact R_put3 HD.out BF.out (by decide)⟩; have n_B0 : Aside0 (w7.heap[G0]? = some (.cells #[.slice A0_0 l0_0.length c0_0, .slice A0_1 l0_1.length c0_1, .int .i64 a0_2] 25 (0, 0))) := ⟨by rw [hw]; exact far3 B0.out NEFG0.out⟩; clear B0; have B0 := n_B0; clear n_B0; have n_BR : Aside0 (w7.heap[GR]? = some (.cells #[.slice none 0 0, .slice none 0 0, .int .i64 0] 25 (0, 0))) := ⟨by rw [hw]; exact far3 BR.out NEFGR.out⟩; clear BR; have BR := n_BR; clear n_BR; have n4 : Aside0 (w7.heap[GF]? = some (.cells #[.slice AC 3 cC, .slice AD 2 cD, .int .i64 0] 25 (0, 0))) := ⟨by rw [hw]; exact put3 BF.out⟩; have n5 : Aside0 (Below w.heap.size w w7) := ⟨by rw [hw]; exact below_put3 HBw.out GEF.out⟩; clear HC HD BF HBw hw; have HC := n1; have HD := n2; have BF := n4; have HBw := n5; clear n1 n2 n4 n5; obtain ⟨hb0_0, hb0_1, hb0_2⟩ := cz3 B0.out)
     | (go_at_call 27; (with_reducible refine (HA0.out _ _ HBw.out _ _ GEF.out BF.out HC.out HD.out).mono ?_); rintro e wa0 ⟨rfl, hF, hC, hD, hB, hKp⟩; (try simp only [Int.zero_add, Int.one_mul] at hF); have n_B0 := Aside0.mk (blk_kept B0.out hKp (fun e_ => e_.elim (fun e_ => NEFG0.out e_) (fun e_ => e_.elim (fun e_ => Kd.R_ne HC.out B0.out (by decide) e_) (fun e_ => Kd.R_ne HD.out B0.out (by decide) e_)))); have n_BR := Aside0.mk (blk_kept BR.out hKp (fun e_ => e_.elim (fun e_ => NEFGR.out e_) (fun e_ => e_.elim (fun e_ => Kd.R_ne HC.out BR.out (by decide) e_) (fun e_ => Kd.R_ne HD.out BR.out (by decide) e_)))); clear B0; have B0 := n_B0; clear n_B0; clear BR; have BR := n_BR; clear n_BR; have n1 := Aside0.mk hF; have n2 := Aside0.mk hC; have n3 := Aside0.mk hD; have n4 := Aside0.mk hB; clear BF HC HD HBw hF hC hD hB hKp; have BF := n1; have HC := n2; have HD := n3; have HBw := n4; clear n1 n2 n3 n4; obtain ⟨hf0_0, hf0_1, hf0_2⟩ := cz3 BF.out; skip)
     | (go_at_call 28; (with_reducible refine (checked_calls _ _ _ _ _ false w _ HBw.out HC.out HD.out HCK.out).mono ?_); rintro e w9 ⟨u0, u1, rfl, hu0, hu1, hB, hb⟩; simp only [if_true, Bool.false_eq_true, if_false] at hu0 hu1; have n1 := Aside0.mk (blk_below BR.out hb); clear BR; have BR := n1; clear n1; have HU0 := Aside0.mk hu0; have HU1 := Aside0.mk hu1; have HB9 := Aside0.mk hB; clear hu0 hu1 hB hb; obtain ⟨U0, q0, e0⟩ := Kd.R_slice HU0.out; subst e0; obtain ⟨U1, q1, e1⟩ := Kd.R_slice HU1.out; subst e1; obtain ⟨hr0, hr1, hr2, hs0, hs1, hs2⟩ := cf3 BR.out))
    refine bodyPost_ret (results_cell_row rfl _ _ GR 25 #[.slice U0 0 q0, .slice U1 0 q1, .int .i64 0] (0, 0) _ rfl (put3 BR.out) Try.underlying25 rfl (by kernel_rfl)) rfl ?_
    exact ⟨_, _, rfl, R_put3 HU0.out BR.out (by decide), R_put3 HU1.out BR.out (by decide), below_put3 HB9.out GER.out⟩
   | true =>
    simp only [if_true, Bool.false_eq_true, if_false, Option.some.injEq, Prod.mk.injEq] at h
    obtain ⟨rfl, rfl, rfl⟩ := h
    go_enter Try.func15, Try.ntmps15
    go_wp2_with (first
     | ((with_reducible refine gate_dst (N := 2) rfl ?_); refine box_event ?hg (N := 2) ?hd (cs := #[.slice A0_0 l0_0.length c0_0, .slice A0_1 l0_1.length c0_1, .int .i64 a0_2]) (t := 25) ?hr ?_; (case hd => rfl); (case hg => rfl); (case hr => first | (go_simp; done) | (go_simp; rfl)); intro G0 hG w1 hbox hb; have B0 := Aside0.mk hbox; have n9 := Aside0.mk (below_then HBw.out HBw.out.size hb); clear HBw hbox hb hG; have HBw := n9; clear n9)
     | ((with_reducible refine gate_dst (N := 4) rfl ?_); refine box_event ?hg (N := 4) ?hd (cs := #[.slice none 0 0, .slice none 0 0, .int .i64 0]) (t := 25) ?hr ?_; (case hd => rfl); (case hg => rfl); (case hr => first | (go_simp; done) | (go_simp; rfl)); intro GR hG w4 hbox hb; have BR := Aside0.mk hbox; have GER := Aside0.mk (show w.heap.size ≤ GR by rw [hG]; exact HBw.out.size); have IGER : Nonempty _ := ⟨GER.out⟩; have NER0 := Aside0.mk (show GR ≠ G0 by rw [hG]; exact Nat.ne_of_gt (blk_lt B0.out)); have n_B0 := Aside0.mk (blk_below B0.out hb); clear B0; have B0 := n_B0; clear n_B0; have n9 := Aside0.mk (below_then HBw.out HBw.out.size hb); clear HBw; have HBw := n9; clear n9; obtain ⟨hq0, hq1, hq2⟩ := cz3 B0.out; clear hbox hb hG)
     | (go_at_call 11; (with_reducible refine (HK0.out _ HBw.out).mono ?_); rintro e wk0 ⟨rfl, hb⟩; have n_B0 := Aside0.mk (blk_below B0.out hb); clear B0; have B0 := n_B0; clear n_B0; have n_BR := Aside0.mk (blk_below BR.out hb); clear BR; have BR := n_BR; clear n_BR; have n9 := Aside0.mk (below_then HBw.out HBw.out.size hb); clear HBw; have HBw := n9; clear n9; clear hb; obtain ⟨hd0_0, hd0_1, hd0_2, hz0_0, hz0_1, hz0_2⟩ := cf3 BR.out; skip)
     | (go_at_call 31; refine (HI.out _).mono ?_; rintro e w' ⟨rfl, ⟨n, rfl⟩⟩)
     | (go_at_call 18; (with_reducible refine (HZ.out _).mono ?_); rintro e w5 ⟨vC, vD, rfl, ho0, ho1, hb0⟩; have hb : Below wk0.heap.size wk0 w5 := ⟨hb0.os, hb0.tape, hb0.output, hb0.size, hb0.block⟩; have HC := Aside0.mk (Kd.R_lower ho0 HBw.out.size); have HD := Aside0.mk (Kd.R_lower ho1 HBw.out.size); have n_B0 := Aside0.mk (blk_below B0.out hb); clear B0; have B0 := n_B0; clear n_B0; have n_BR := Aside0.mk (blk_below BR.out hb); clear BR; have BR := n_BR; clear n_BR; have n9 := Aside0.mk (below_then HBw.out HBw.out.size hb); clear HBw; have HBw := n9; clear n9; clear hb hb0 ho0 ho1; obtain ⟨AC, cC, eC⟩ := Kd.R_slice HC.out; subst eC; obtain ⟨AD, cD, eD⟩ := Kd.R_slice HD.out; subst eD)
     | ((with_reducible refine gate_dst (N := 5) rfl ?_); refine box_event ?hg (N := 5) ?hd (cs := #[.slice none 0 0, .slice none 0 0, .int .i64 0]) (t := 25) ?hr ?_; (case hd => rfl); (case hg => rfl); (case hr => first | (go_simp; done) | (go_simp; rfl)); intro GF hG w6 hbox hb; have BF := Aside0.mk hbox; have GEF := Aside0.mk (show w.heap.size ≤ GF by rw [hG]; exact HBw.out.size); have IGEF : Nonempty _ := ⟨GEF.out⟩; have NEFG0 := Aside0.mk (show G0 ≠ GF by rw [hG]; exact Nat.ne_of_lt (blk_lt B0.out)); have NEFGR := Aside0.mk (show GR ≠ GF by rw [hG]; exact Nat.ne_of_lt (blk_lt BR.out)); have n_B0 := Aside0.mk (blk_below B0.out hb); clear B0; have B0 := n_B0; clear n_B0; have n_BR := Aside0.mk (blk_below BR.out hb); clear BR; have BR := n_BR; clear n_BR; have n1 := Aside0.mk (Kd.R_below HC.out hb); have n2 := Aside0.mk (Kd.R_below HD.out hb); clear HC HD; have HC := n1; have HD := n2; clear n1 n2; have n9 := Aside0.mk (below_then HBw.out HBw.out.size hb); clear HBw; have HBw := n9; clear n9; clear hbox hb hG; obtain ⟨hf0, hf1, hf2, hy0, hy1, hy2⟩ := cf3 BF.out)
     | ((with_reducible refine gate_store (t := 25) (p := 5) rfl ?_); refine store_event (t := 25) (p := 5) (v := ?vo_) (w1 := (((w6.setCell ⟨GF, 0, none⟩ (.slice AC 3 cC)).setCell ⟨GF, 1, none⟩ (.slice AD 2 cD)).setCell ⟨GF, 2, none⟩ (.int .i64 0))) ?hg ?ho ?hn ?hr ?_; (case ho => rfl); (case hg => rfl); (case hn => rfl); (case hr => first | (go_simp; done) | (go_simp; rfl)); intro w7 hw; have n1 : Aside0 (Kd.R (Kd.int .i64) 3 w7 w.heap.size (fun k => some k ≠ (Value.slice AD 2 cD).ownBlock) (.slice AC 3 cC) [0, 0, 0]) := ⟨by rw [hw]; exact R_put3 HC.out BF.out (by decide)⟩; have n2 : Aside0 (Kd.R (Kd.int .i64) 3 w7 w.heap.size (fun k => some k ≠ (Value.slice AC 3 cC).ownBlock) (.slice AD 2 cD) [0, 0]) := ⟨by rw [hw]; exact R_put3 HD.out BF.out (by decide)⟩; have n_B0 : Aside0 (w7.heap[G0]? = some (.cells #[.slice A0_0 l0_0.length c0_0, .slice A0_1 l0_1.length c0_1, .int .i64 a0_2] 25 (0, 0))) := ⟨by rw [hw]; exact far3 B0.out NEFG0.out⟩; clear B0; have B0 := n_B0; clear n_B0; have n_BR : Aside0 (w7.heap[GR]? = some (.cells #[.slice none 0 0, .slice none 0 0, .int .i64 0] 25 (0, 0))) := ⟨by rw [hw]; exact far3 BR.out NEFGR.out⟩; clear BR; have BR := n_BR; clear n_BR; have n4 : Aside0 (w7.heap[GF]? = some (.cells #[.slice AC 3 cC, .slice AD 2 cD, .int .i64 0] 25 (0, 0))) := ⟨by rw [hw]; exact put3 BF.out⟩; have n5 : Aside0 (Below w.heap.size w w7) := ⟨by rw [hw]; exact below_put3 HBw.out GEF.out⟩; clear HC HD BF HBw hw; have HC := n1; have HD := n2; have BF := n4; have HBw := n5; clear n1 n2 n4 n5; obtain ⟨hb0_0, hb0_1, hb0_2⟩ := cz3 B0.out)
     | (go_at_call 27; (with_reducible refine (HA0.out _ _ HBw.out _ _ GEF.out BF.out HC.out HD.out).mono ?_); rintro e wa0 ⟨rfl, hF, hC, hD, hB, hKp⟩; (try simp only [Int.zero_add, Int.one_mul] at hF); have n_B0 := Aside0.mk (blk_kept B0.out hKp (fun e_ => e_.elim (fun e_ => NEFG0.out e_) (fun e_ => e_.elim (fun e_ => Kd.R_ne HC.out B0.out (by decide) e_) (fun e_ => Kd.R_ne HD.out B0.out (by decide) e_)))); have n_BR := Aside0.mk (blk_kept BR.out hKp (fun e_ => e_.elim (fun e_ => NEFGR.out e_) (fun e_ => e_.elim (fun e_ => Kd.R_ne HC.out BR.out (by decide) e_) (fun e_ => Kd.R_ne HD.out BR.out (by decide) e_)))); clear B0; have B0 := n_B0; clear n_B0; clear BR; have BR := n_BR; clear n_BR; have n1 := Aside0.mk hF; have n2 := Aside0.mk hC; have n3 := Aside0.mk hD; have n4 := Aside0.mk hB; clear BF HC HD HBw hF hC hD hB hKp; have BF := n1; have HC := n2; have HD := n3; have HBw := n4; clear n1 n2 n3 n4; obtain ⟨hf0_0, hf0_1, hf0_2⟩ := cz3 BF.out; skip)
     | (go_at_call 28; (with_reducible refine (checked_calls _ _ _ _ _ true w _ HBw.out HC.out HD.out HCK.out).mono ?_); rintro e w9 ⟨u0, u1, rfl, hu0, hu1, hB, hb⟩; simp only [if_true, Bool.false_eq_true, if_false] at hu0 hu1; have n1 := Aside0.mk (blk_below BR.out hb); clear BR; have BR := n1; clear n1; have HU0 := Aside0.mk hu0; have HU1 := Aside0.mk hu1; have HB9 := Aside0.mk hB; clear hu0 hu1 hB hb; obtain ⟨U0, q0, e0⟩ := Kd.R_slice HU0.out; subst e0; obtain ⟨U1, q1, e1⟩ := Kd.R_slice HU1.out; subst e1; obtain ⟨hr0, hr1, hr2, hs0, hs1, hs2⟩ := cf3 BR.out))
    refine bodyPost_ret (results_cell_row rfl _ _ GR 25 #[.slice U0 x0.length q0, .slice U1 y0.length q1, .int .i64 (wrap64 (wrap64 (a1 * a0_2)))] (0, 0) _ rfl (put3 BR.out) Try.underlying25 rfl (by kernel_rfl)) rfl ?_
    exact ⟨_, _, rfl, R_put3 HU0.out BR.out (by decide), R_put3 HU1.out BR.out (by decide), below_put3 HB9.out GER.out⟩

/-! ### spec_l1In: function 36 -/
def spec_l1In.f (a0 : Int) (a1 : Int) (a2 : Int) : Option (Bool) := if a0 ≥ a1 then (some (decide (a0 ≤ a2))) else (some false)
set_option maxHeartbeats 8000000 in
set_option maxRecDepth 100000 in
theorem spec_l1In.calls (a0 : Int) (a1 : Int) (a2 : Int) (r : Bool) (w : World) (h : spec_l1In.f a0 a1 a2 = some r) :
  Calls Try.prog 36 #[.int .i64 a0, .int .i64 a1, .int .i64 a2] w fun e w' => e = .returned (.bool r) ∧ Drawn0 w w' := by
 have H : (if a0 ≥ a1 then (some (decide (a0 ≤ a2))) else (some false)) = some r := h
 clear h
 by_cases c4 : a0 ≥ a1
 ·rw [if_pos c4] at H
  have c4b0 : decide (a1 ≤ a0) = true := decide_eq_true c4
  clear c4
  obtain rfl := Option.some.inj H
  go_enter Try.func36, Try.ntmps36
  go_wp2
  go_ret
  exact ⟨by first | rfl | (simp; done) | (simp [*]; done), by repeat (first | exact Drawn0.refl _ | apply Drawn0.step)⟩
 ·rw [if_neg c4] at H
  have c4b0 : decide (a1 ≤ a0) = false := decide_eq_false c4
  clear c4
  obtain rfl := Option.some.inj H
  go_enter Try.func36, Try.ntmps36
  go_wp2
  go_ret
  exact ⟨by first | rfl | (simp; done) | (simp [*]; done), by repeat (first | exact Drawn0.refl _ | apply Drawn0.step)⟩

/-! ### spec_l1All: function 38 -/
def spec_l1All.l0 : Nat → List Int → Int → Int → Option (Bool)
 | 0, _, _, _ => none
 | k + 1, x0, x2, x7 => if x7 < (x0.length : Int) then (if 0 ≤ x7 then ((spec_l1In.f (rd x0 x7) (wrap64 (-x2)) x2).bind fun t328 => (if t328 = true then (spec_l1All.l0 k x0 x2 (wrap64 (x7 + 1))) else (some false))) else (none)) else (some true)
def spec_l1All.f (k : Nat) (l0 : List Int) (a1 : Int) (a2 : Int) : Option (Bool) := if (l0.length : Int) = a1 then (spec_l1All.l0 k l0 a2 0) else (some false)
theorem spec_l1All.mono_l : ∀ k, (∀ y0 y1 y2, LeO (spec_l1All.l0 k y0 y1 y2) (spec_l1All.l0 (k + 1) y0 y1 y2))
 | 0 => fun _ _ _ r h => by simp [spec_l1All.l0] at h
 | k + 1 => by
  have ih0 := spec_l1All.mono_l k
  ·intro y0 y1 y2
   unfold spec_l1All.l0
   repeat' first
   | (with_reducible exact ih0 _ _ _)
   | (with_reducible exact LeO.refl _)
   | (with_reducible exact LeO.none _)
   | (with_reducible refine LeO.ite ?_ ?_)
   | (with_reducible refine LeO.bind ?_ (fun _ => ?_))
   | exact ih0 _ _ _
   | exact LeO.none _
   | refine LeO.ite ?_ ?_
   | refine LeO.bind ?_ (fun _ => ?_)
theorem spec_l1All.mono : ∀ a0 a1 a2 k, LeO (spec_l1All.f k a0 a1 a2) (spec_l1All.f (k + 1) a0 a1 a2) := by
 intro a0 a1 a2 k
 have ih0 := spec_l1All.mono_l k
 unfold spec_l1All.f
 repeat' first
   | (with_reducible exact ih0 _ _ _)
   | (with_reducible exact LeO.refl _)
   | (with_reducible exact LeO.none _)
   | (with_reducible refine LeO.ite ?_ ?_)
   | (with_reducible refine LeO.bind ?_ (fun _ => ?_))
   | exact ih0 _ _ _
   | exact LeO.none _
   | refine LeO.ite ?_ ?_
   | refine LeO.bind ?_ (fun _ => ?_)
set_option maxHeartbeats 8000000 in
set_option maxRecDepth 100000 in
theorem spec_l1All.calls (k : Nat) (A0 : Option Addr) (c0 : Nat) (l0 : List Int) (a1 : Int) (a2 : Int) (r : Bool) (w : World) (hr0 : Kd.C (Kd.int .i64) w A0 l0.length l0) (hc0 : l0.length ≤ c0) (h : spec_l1All.f k l0 a1 a2 = some r) :
  Calls Try.prog 38 #[.slice A0 l0.length c0, .int .i64 a1, .int .i64 a2] w fun e w' => e = .returned (.bool r) ∧ Drawn0 w w' := by
 have HR0 := Aside0.mk hr0
 have HC0 := Aside0.mk hc0
 clear hr0 hc0
 have H : (if (l0.length : Int) = a1 then (spec_l1All.l0 k l0 a2 0) else (some false)) = some r := h
 clear h
 by_cases c4 : (l0.length : Int) = a1
 ·rw [if_pos c4] at H
  have c4b0 : ((l0.length : Int) == a1) = true := beq_iff_eq.mpr c4
  have c4b1 : ((l0.length : Int) != a1) = false := bne_eq_false_iff_eq.mpr c4
  clear c4
  have H' := Aside0.mk H
  clear H
  go_enter Try.func38, Try.ntmps38
  go_wp2
  go_loopg [7] k (fun kq v7 w' => ∃ (x7_1 : Int), v7 = .int .i64 x7_1 ∧ Aside0 (spec_l1All.l0 kq l0 a2 x7_1 = some r) ∧ Aside0 (kq ≤ k) ∧ Drawn0 w w')
  case atStart => exact ⟨(0), (by first | rfl | (simp; done) | (simp [*]; done)), H', ⟨Nat.le_refl _⟩, by repeat (first | exact Drawn0.refl _ | apply Drawn0.step)⟩
  case round =>
   clear H'
   try clear p2
   try clear c3
   try clear c4
   try clear c4b0
   try clear c4b1
   obtain ⟨x7_1, rfl, HA, HK1, ⟨m1, rfl⟩⟩ := hrel
   cases gk with
   | zero => exact absurd HA.out (by simp [spec_l1All.l0])
   | succ k1 =>
    have H := HA.out
    clear HA
    simp only [spec_l1All.l0] at H
    by_cases c5 : x7_1 < (l0.length : Int)
    ·rw [if_pos c5] at H
     have c5b0 : decide (x7_1 < (l0.length : Int)) = true := decide_eq_true c5
     clear c5
     by_cases c6 : 0 ≤ x7_1
     ·rw [if_pos c6] at H
      have c6b0 : decide (0 ≤ x7_1) = true := decide_eq_true c6
      clear c6
      replace H := Option.bind_eq_some_iff.mp H
      obtain ⟨t328, A70, H⟩ := H
      replace H : (if t328 = true then (spec_l1All.l0 k1 l0 a2 (wrap64 (x7_1 + 1))) else (some false)) = some r := H
      have A7 := Aside0.mk A70
      clear A70
      by_cases c8 : t328 = true
      ·subst c8
       have H1 : (spec_l1All.l0 k1 l0 a2 (wrap64 (x7_1 + 1))) = some r := by rw [if_pos rfl] at H; exact H
       clear H
       have H := H1
       clear H1
       have H' := Aside0.mk H
       clear H
       have p327 : 0 ≤ (x7_1 : Int) := of_decide_eq_true (by first | (with_reducible assumption) | assumption)
       have q327 : x7_1 < (l0.length : Int) := of_decide_eq_true (by first | (with_reducible assumption) | assumption)
       obtain ⟨ad327, e327, hx327_0⟩ := Kd.at_int HR0.out x7_1 p327 q327
       cases e327
       replace p327 := eq_true p327
       replace q327 := eq_true q327
       go_wp2_with (first | ((with_reducible refine gate_callee (f := 36) rfl ?_); refine goesL_ (some 25) rfl rfl Try.func36 (by kernel_rfl) rfl #[.int .i64 (rd l0 x7_1), .int .i64 (wrap64 (-a2)), .int .i64 a2] rfl (by (try simp only [mA, mC, mN]); first | done | rfl | (simp only [ld, lt]; rfl)) ?_; (with_reducible refine (spec_l1In.calls (rd l0 x7_1) (wrap64 (-a2)) a2 true _ A7.out).mono ?_); rintro e w' ⟨rfl, ⟨nd, rfl⟩⟩; refine ⟨_, rfl, ?_⟩))
       go_roundg k1
       case measure => have := HK1.out; omega
       case rel => exact ⟨(wrap64 (x7_1 + 1)), (by first | rfl | (simp; done) | (simp [*]; done)), H', ⟨by have := HK1.out; omega⟩, by repeat (first | exact Drawn0.refl _ | apply Drawn0.step)⟩
      ·replace c8 := Bool.eq_false_iff.mpr c8
       subst c8
       have H1 : (some false) = some r := by rw [if_neg (show ¬ (false = true) by decide)] at H; exact H
       clear H
       have H := H1
       clear H1
       obtain rfl := Option.some.inj H
       have p327 : 0 ≤ (x7_1 : Int) := of_decide_eq_true (by first | (with_reducible assumption) | assumption)
       have q327 : x7_1 < (l0.length : Int) := of_decide_eq_true (by first | (with_reducible assumption) | assumption)
       obtain ⟨ad327, e327, hx327_0⟩ := Kd.at_int HR0.out x7_1 p327 q327
       cases e327
       replace p327 := eq_true p327
       replace q327 := eq_true q327
       go_wp2_with (first | ((with_reducible refine gate_callee (f := 36) rfl ?_); refine goesL_ (some 25) rfl rfl Try.func36 (by kernel_rfl) rfl #[.int .i64 (rd l0 x7_1), .int .i64 (wrap64 (-a2)), .int .i64 a2] rfl (by (try simp only [mA, mC, mN]); first | done | rfl | (simp only [ld, lt]; rfl)) ?_; (with_reducible refine (spec_l1In.calls (rd l0 x7_1) (wrap64 (-a2)) a2 false _ A7.out).mono ?_); rintro e w' ⟨rfl, ⟨nd, rfl⟩⟩; refine ⟨_, rfl, ?_⟩))
       go_ret
       exact ⟨by first | rfl | (simp; done) | (simp [*]; done), by repeat (first | exact Drawn0.refl _ | apply Drawn0.step)⟩
     ·rw [if_neg c6] at H
      exact absurd H (by simp)
    ·rw [if_neg c5] at H
     have c5b0 : decide (x7_1 < (l0.length : Int)) = false := decide_eq_false c5
     clear c5
     obtain rfl := Option.some.inj H
     go_wp2
     go_ret
     exact ⟨by first | rfl | (simp; done) | (simp [*]; done), by repeat (first | exact Drawn0.refl _ | apply Drawn0.step)⟩
 ·rw [if_neg c4] at H
  have c4b0 : ((l0.length : Int) == a1) = false := beq_eq_false_iff_ne.mpr c4
  have c4b1 : ((l0.length : Int) != a1) = true := bne_iff_ne.mpr c4
  obtain rfl := Option.some.inj H
  go_enter Try.func38, Try.ntmps38
  go_wp2
  go_ret
  exact ⟨by first | rfl | (simp; done) | (simp [*]; done), by repeat (first | exact Drawn0.refl _ | apply Drawn0.step)⟩

/-! ### spec_FrmOk: function 17 -/
def spec_FrmOk.f (k : Nat) (l0_0 : List Int) (l0_1 : List Int) (a0_2 : Int) : Option (Bool) := (spec_l1All.f k l0_0 3 10000000).bind fun t330 => (if t330 = true then ((spec_l1All.f k l0_1 2 10000000).bind fun t331 => (if t331 = true then ((spec_l1In.f a0_2 (-10000000) 10000000).bind fun t332 => (some t332)) else (some false))) else (some false))
theorem spec_FrmOk.mono : ∀ a0 a1 a2 k, LeO (spec_FrmOk.f k a0 a1 a2) (spec_FrmOk.f (k + 1) a0 a1 a2) := by
 intro a0 a1 a2 k
 unfold spec_FrmOk.f
 repeat' first
   | (with_reducible exact spec_l1All.mono _ _ _ _)
   | (with_reducible exact LeO.refl _)
   | (with_reducible exact LeO.none _)
   | (with_reducible refine LeO.ite ?_ ?_)
   | (with_reducible refine LeO.bind ?_ (fun _ => ?_))
   | exact spec_l1All.mono _ _ _ _
   | exact LeO.none _
   | refine LeO.ite ?_ ?_
   | refine LeO.bind ?_ (fun _ => ?_)
set_option maxHeartbeats 8000000 in
set_option maxRecDepth 100000 in
theorem spec_FrmOk.calls (k : Nat) (A0_0 : Option Addr) (c0_0 : Nat) (l0_0 : List Int) (A0_1 : Option Addr) (c0_1 : Nat) (l0_1 : List Int) (a0_2 : Int) (r : Bool) (w : World) (hr0_0 : Kd.C (Kd.int .i64) w A0_0 l0_0.length l0_0) (hc0_0 : l0_0.length ≤ c0_0) (hr0_1 : Kd.C (Kd.int .i64) w A0_1 l0_1.length l0_1) (hc0_1 : l0_1.length ≤ c0_1) (h : spec_FrmOk.f k l0_0 l0_1 a0_2 = some r) :
  Calls Try.prog 17 #[.agg #[.slice A0_0 l0_0.length c0_0, .slice A0_1 l0_1.length c0_1, .int .i64 a0_2]] w fun e w' => e = .returned (.bool r) ∧ Below w.heap.size w w' := by
 have hu25 := Try.underlying25
 have HR0_0 := Aside0.mk hr0_0
 have HC0_0 := Aside0.mk hc0_0
 clear hr0_0 hc0_0
 have HR0_1 := Aside0.mk hr0_1
 have HC0_1 := Aside0.mk hc0_1
 clear hr0_1 hc0_1
 have HB := Aside0.mk (Below.refl w.heap.size w)
 have H : ((spec_l1All.f k l0_0 3 10000000).bind fun t330 => (if t330 = true then ((spec_l1All.f k l0_1 2 10000000).bind fun t331 => (if t331 = true then ((spec_l1In.f a0_2 (-10000000) 10000000).bind fun t332 => (some t332)) else (some false))) else (some false))) = some r := h
 clear h
 replace H := Option.bind_eq_some_iff.mp H
 obtain ⟨t330, A20, H⟩ := H
 replace H : (if t330 = true then ((spec_l1All.f k l0_1 2 10000000).bind fun t331 => (if t331 = true then ((spec_l1In.f a0_2 (-10000000) 10000000).bind fun t332 => (some t332)) else (some false))) else (some false)) = some r := H
 have A2 := Aside0.mk A20
 clear A20
 by_cases c3 : t330 = true
 ·subst c3
  have H1 : ((spec_l1All.f k l0_1 2 10000000).bind fun t331 => (if t331 = true then ((spec_l1In.f a0_2 (-10000000) 10000000).bind fun t332 => (some t332)) else (some false))) = some r := by rw [if_pos rfl] at H; exact H
  clear H
  have H := H1
  clear H1
  replace H := Option.bind_eq_some_iff.mp H
  obtain ⟨t331, A40, H⟩ := H
  replace H : (if t331 = true then ((spec_l1In.f a0_2 (-10000000) 10000000).bind fun t332 => (some t332)) else (some false)) = some r := H
  have A4 := Aside0.mk A40
  clear A40
  by_cases c5 : t331 = true
  ·subst c5
   have H1 : ((spec_l1In.f a0_2 (-10000000) 10000000).bind fun t332 => (some t332)) = some r := by rw [if_pos rfl] at H; exact H
   clear H
   have H := H1
   clear H1
   replace H := Option.bind_eq_some_iff.mp H
   obtain ⟨t332, A60, H⟩ := H
   replace H : (some t332) = some r := H
   have A6 := Aside0.mk A60
   clear A60
   obtain rfl := Option.some.inj H
   go_enter Try.func17, Try.ntmps17
   go_wp2_with (first | ((with_reducible refine gate_dst (N := 1) rfl ?_); refine box_event ?hg (N := 1) ?hd (cs := #[.slice A0_0 l0_0.length c0_0, .slice A0_1 l0_1.length c0_1, .int .i64 a0_2]) (t := 25) ?hr ?_; (case hd => rfl); (case hg => rfl); (case hr => first | (go_simp; done) | (go_simp; rfl)); intro gb329 hg w7 hbox hb; have BK329 := Aside0.mk (hbox); have GW329 := Aside0.mk ((by rw [hg]; exact (below_size (by exact lB HB.out)) : w.heap.size ≤ gb329)); have IGW329 : Nonempty _ := ⟨GW329.out⟩; have GE329 := Aside0.mk ((by rw [hg]; exact (below_size (by exact lB HB.out)) : w.heap.size ≤ gb329)); have IGE329 : Nonempty _ := ⟨GE329.out⟩; replace HB := Aside0.mk (below_step (by exact lB HB.out) hb); clear hb hbox hg; obtain ⟨hcz8_0, hcz8_1, hcz8_2, hfz8_0, hfz8_1, hfz8_2⟩ := cf3 BK329.out) | ((with_reducible refine gate_callee (f := 38) rfl ?_); refine goesL_ (some 5) rfl rfl Try.func38 (by kernel_rfl) rfl #[.slice A0_0 l0_0.length c0_0, .int .i64 3, .int .i64 10000000] rfl (by (try simp only [mA, mC, mN]); first | done | rfl | (simp only [ld, lt]; rfl)) ?_; (with_reducible refine (spec_l1All.calls k _ _ l0_0 3 10000000 true _ ?side1 ?side2 A2.out).mono ?_); (case side1 => exact lC <| (Kd.C_below HR0_0.out HB.out)); (case side2 => exact HC0_0.out); rintro e w' ⟨rfl, ⟨nd, rfl⟩⟩; refine ⟨_, rfl, ?_⟩) | (go_at_call 38; (with_reducible refine (spec_l1All.calls k _ _ l0_1 2 10000000 true _ ?side1 ?side2 A4.out).mono ?_); (case side1 => repeat (first | exact (Kd.C_below HR0_1.out (by exact jB HB.out)) | (with_reducible refine Kd.C_alloc ?_ _) | (with_reducible refine Kd.C_drewN ?_ _) | (with_reducible refine Kd.C_drew ?_))); (case side2 => exact HC0_1.out); rintro e w' ⟨rfl, ⟨nd, rfl⟩⟩) | (go_at_call 36; (with_reducible refine (spec_l1In.calls a0_2 (-10000000) 10000000 t332 _ A6.out).mono ?_); rintro e w' ⟨rfl, ⟨nd, rfl⟩⟩))
   go_ret
   exact ⟨by first | rfl | (simp [errW_none, errW_some] <;> rfl) | (simp [*, errW_none, errW_some] <;> rfl), by exact jB HB.out⟩
  ·replace c5 := Bool.eq_false_iff.mpr c5
   subst c5
   have H1 : (some false) = some r := by rw [if_neg (show ¬ (false = true) by decide)] at H; exact H
   clear H
   have H := H1
   clear H1
   obtain rfl := Option.some.inj H
   go_enter Try.func17, Try.ntmps17
   go_wp2_with (first | ((with_reducible refine gate_dst (N := 1) rfl ?_); refine box_event ?hg (N := 1) ?hd (cs := #[.slice A0_0 l0_0.length c0_0, .slice A0_1 l0_1.length c0_1, .int .i64 a0_2]) (t := 25) ?hr ?_; (case hd => rfl); (case hg => rfl); (case hr => first | (go_simp; done) | (go_simp; rfl)); intro gb329 hg w9 hbox hb; have BK329 := Aside0.mk (hbox); have GW329 := Aside0.mk ((by rw [hg]; exact (below_size (by exact lB HB.out)) : w.heap.size ≤ gb329)); have IGW329 : Nonempty _ := ⟨GW329.out⟩; have GE329 := Aside0.mk ((by rw [hg]; exact (below_size (by exact lB HB.out)) : w.heap.size ≤ gb329)); have IGE329 : Nonempty _ := ⟨GE329.out⟩; replace HB := Aside0.mk (below_step (by exact lB HB.out) hb); clear hb hbox hg; obtain ⟨hcz10_0, hcz10_1, hcz10_2, hfz10_0, hfz10_1, hfz10_2⟩ := cf3 BK329.out) | ((with_reducible refine gate_callee (f := 38) rfl ?_); refine goesL_ (some 5) rfl rfl Try.func38 (by kernel_rfl) rfl #[.slice A0_0 l0_0.length c0_0, .int .i64 3, .int .i64 10000000] rfl (by (try simp only [mA, mC, mN]); first | done | rfl | (simp only [ld, lt]; rfl)) ?_; (with_reducible refine (spec_l1All.calls k _ _ l0_0 3 10000000 true _ ?side1 ?side2 A2.out).mono ?_); (case side1 => exact lC <| (Kd.C_below HR0_0.out HB.out)); (case side2 => exact HC0_0.out); rintro e w' ⟨rfl, ⟨nd, rfl⟩⟩; refine ⟨_, rfl, ?_⟩) | (go_at_call 38; (with_reducible refine (spec_l1All.calls k _ _ l0_1 2 10000000 false _ ?side1 ?side2 A4.out).mono ?_); (case side1 => repeat (first | exact (Kd.C_below HR0_1.out (by exact jB HB.out)) | (with_reducible refine Kd.C_alloc ?_ _) | (with_reducible refine Kd.C_drewN ?_ _) | (with_reducible refine Kd.C_drew ?_))); (case side2 => exact HC0_1.out); rintro e w' ⟨rfl, ⟨nd, rfl⟩⟩))
   go_ret
   exact ⟨by first | rfl | (simp [errW_none, errW_some] <;> rfl) | (simp [*, errW_none, errW_some] <;> rfl), by exact jB HB.out⟩
 ·replace c3 := Bool.eq_false_iff.mpr c3
  subst c3
  have H1 : (some false) = some r := by rw [if_neg (show ¬ (false = true) by decide)] at H; exact H
  clear H
  have H := H1
  clear H1
  obtain rfl := Option.some.inj H
  go_enter Try.func17, Try.ntmps17
  go_wp2_with (first | ((with_reducible refine gate_dst (N := 1) rfl ?_); refine box_event ?hg (N := 1) ?hd (cs := #[.slice A0_0 l0_0.length c0_0, .slice A0_1 l0_1.length c0_1, .int .i64 a0_2]) (t := 25) ?hr ?_; (case hd => rfl); (case hg => rfl); (case hr => first | (go_simp; done) | (go_simp; rfl)); intro gb329 hg w11 hbox hb; have BK329 := Aside0.mk (hbox); have GW329 := Aside0.mk ((by rw [hg]; exact (below_size (by exact lB HB.out)) : w.heap.size ≤ gb329)); have IGW329 : Nonempty _ := ⟨GW329.out⟩; have GE329 := Aside0.mk ((by rw [hg]; exact (below_size (by exact lB HB.out)) : w.heap.size ≤ gb329)); have IGE329 : Nonempty _ := ⟨GE329.out⟩; replace HB := Aside0.mk (below_step (by exact lB HB.out) hb); clear hb hbox hg; obtain ⟨hcz12_0, hcz12_1, hcz12_2, hfz12_0, hfz12_1, hfz12_2⟩ := cf3 BK329.out) | ((with_reducible refine gate_callee (f := 38) rfl ?_); refine goesL_ (some 5) rfl rfl Try.func38 (by kernel_rfl) rfl #[.slice A0_0 l0_0.length c0_0, .int .i64 3, .int .i64 10000000] rfl (by (try simp only [mA, mC, mN]); first | done | rfl | (simp only [ld, lt]; rfl)) ?_; (with_reducible refine (spec_l1All.calls k _ _ l0_0 3 10000000 false _ ?side1 ?side2 A2.out).mono ?_); (case side1 => exact lC <| (Kd.C_below HR0_0.out HB.out)); (case side2 => exact HC0_0.out); rintro e w' ⟨rfl, ⟨nd, rfl⟩⟩; refine ⟨_, rfl, ?_⟩))
  go_ret
  exact ⟨by first | rfl | (simp [errW_none, errW_some] <;> rfl) | (simp [*, errW_none, errW_some] <;> rfl), by exact jB HB.out⟩

end Go.Proofs.Ytopbdoilpdpkmaa.QFnFrmTimes

-- shorter
