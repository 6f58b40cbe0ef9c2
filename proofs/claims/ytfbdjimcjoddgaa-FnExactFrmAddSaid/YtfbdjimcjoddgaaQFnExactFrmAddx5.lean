/- Plain functions, and that the Go code computes them: written by a program of this session over the seat's translation; the conditions stand in each theorem. -/
import Derived.Test.YtfbdjimcjoddgaaQFnExactFrmAddx51
import Derived.Test.YtfbdjimcjoddgaaQFnExactFrmAddx0
import Derived.Test.YtfbdjimcjoddgaaQFnExactFrmAddx1
import Derived.Test.YtfbdjimcjoddgaaQFnExactFrmAddx3
import Derived.Test.YtfbdjimcjoddgaaQFnExactFrmAddx4
namespace Go.Proofs.Ytfbdjimcjoddgaa.QFnExactFrmAdd
open Go.RowKit Go.Proofs.YtfbdjimcjoddgaaW.PrintWords Go.Proofs.YtfbdjimcjoddgaaW.PrintLast Go.Proofs.YtfbdjimcjoddgaaW.PrintMore Go.Proofs.Ytfbdjimcjoddgaa.HWords
attribute [local go_sem] max2_int min2_int max_two min_two max_three min_three max_four min_four   -- for this text's walks alone
set_option linter.unusedVariables false
set_option linter.unusedSimpArgs false

set_option maxHeartbeats 8000000 in
set_option maxRecDepth 100000 in
theorem laws_FnExactFrmAdd.calls (k : Nat) (A0_0 : Option Addr) (c0_0 : Nat) (l0_0 : List Int) (A0_1 : Option Addr) (c0_1 : Nat) (l0_1 : List Int) (a0_2 : Int) (A1_0 : Option Addr) (c1_0 : Nat) (l1_0 : List Int) (A1_1 : Option Addr) (c1_1 : Nat) (l1_1 : List Int) (a1_2 : Int) (r : Bool) (w : World) (hr : Aside0 (r = true)) (hr0_0 : Kd.C (Kd.int .i64) w A0_0 l0_0.length l0_0) (hc0_0 : l0_0.length ≤ c0_0) (hr0_1 : Kd.C (Kd.int .i64) w A0_1 l0_1.length l0_1) (hc0_1 : l0_1.length ≤ c0_1) (hr1_0 : Kd.C (Kd.int .i64) w A1_0 l1_0.length l1_0) (hc1_0 : l1_0.length ≤ c1_0) (hr1_1 : Kd.C (Kd.int .i64) w A1_1 l1_1.length l1_1) (hc1_1 : l1_1.length ≤ c1_1) (h : laws_FnExactFrmAdd.f k l0_0 l0_1 a0_2 l1_0 l1_1 a1_2 = some r) :
    Calls Try.prog 3 #[.agg #[.slice A0_0 l0_0.length c0_0, .slice A0_1 l0_1.length c0_1, .int .i64 a0_2], .agg #[.slice A1_0 l1_0.length c1_0, .slice A1_1 l1_1.length c1_1, .int .i64 a1_2]] w fun e w' => e = .returned (.bool r) ∧ Below w.heap.size w w' := by
  have hu24 := Try.underlying24
  have hu26 := Try.underlying26
  have HR0_0 := Aside0.mk hr0_0
  have HC0_0 := Aside0.mk hc0_0
  clear hr0_0 hc0_0
  have HR0_1 := Aside0.mk hr0_1
  have HC0_1 := Aside0.mk hc0_1
  clear hr0_1 hc0_1
  have HR1_0 := Aside0.mk hr1_0
  have HC1_0 := Aside0.mk hc1_0
  clear hr1_0 hc1_0
  have HR1_1 := Aside0.mk hr1_1
  have HC1_1 := Aside0.mk hc1_1
  clear hr1_1 hc1_1
  have HB := Aside0.mk (Below.refl w.heap.size w)
  have H : ((laws_szFrmForm.f l0_0 l0_1 a0_2 1048576).bind fun t197 => (if t197 < 0 then (some true) else ((laws_szFrmForm.f l1_0 l1_1 a1_2 t197).bind fun t198 => (if t198 < 0 then (some true) else ((laws_toFrmForm.f k l0_0 l0_1 a0_2).bind fun bt199 => ((laws_toFrmForm.f k l1_0 l1_1 a1_2).bind fun bt206 => ((spec_FrmAdd.f k bt199.1 bt199.2.1 bt199.2.2 bt206.1 bt206.2.1 bt206.2.2).bind fun bt213 => ((laws_toFrmForm.f k l0_0 l0_1 a0_2).bind fun bt221 => ((laws_toFrmForm.f k l1_0 l1_1 a1_2).bind fun bt229 => ((impl_FrmAdd.f bt221.1 bt221.2.1 bt221.2.2 bt229.1 bt229.2.1 bt229.2.2).bind fun bt237 => ((laws_eqFrmForm.f k bt237.1 bt237.2.1 bt237.2.2 bt213.1 bt213.2.1 bt213.2.2).bind fun t245 => (if t245 = true then ((laws_toFrmForm.f k l0_0 l0_1 a0_2).bind fun bt246 => ((laws_eqFrmForm.f k bt221.1 bt221.2.1 bt221.2.2 bt246.1 bt246.2.1 bt246.2.2).bind fun t253 => (if t253 = true then ((laws_toFrmForm.f k l1_0 l1_1 a1_2).bind fun bt254 => ((laws_eqFrmForm.f k bt229.1 bt229.2.1 bt229.2.2 bt254.1 bt254.2.1 bt254.2.2).bind fun t261 => (if t261 = true then ((laws_markFrmForm.f k bt221.1 bt221.2.1 bt221.2.2 1).bind fun bt262 => ((laws_markFrmForm.f k bt229.1 bt229.2.1 bt229.2.2 bt262.1).bind fun bt265 => (if bt265.1 < 0 then (laws_FnExactFrmAdd.j0 k true l0_0 l0_1 a0_2 l1_0 l1_1 a1_2 bt213.1 bt213.2.1 bt213.2.2 bt237.1 bt237.2.1 bt237.2.2) else ((laws_eqFrmForm.f k bt237.1 bt237.2.1 bt237.2.2 bt213.1 bt213.2.1 bt213.2.2).bind fun t268 => (laws_FnExactFrmAdd.j0 k (!t268) l0_0 l0_1 a0_2 l1_0 l1_1 a1_2 bt213.1 bt213.2.1 bt213.2.2 bt237.1 bt237.2.1 bt237.2.2))))) else (some false)))) else (some false)))) else (some false))))))))))))) = some r := h
  clear h
  replace H := Option.bind_eq_some_iff.mp H
  obtain ⟨t197, A30, H⟩ := H
  replace H : (if t197 < 0 then (some true) else ((laws_szFrmForm.f l1_0 l1_1 a1_2 t197).bind fun t198 => (if t198 < 0 then (some true) else ((laws_toFrmForm.f k l0_0 l0_1 a0_2).bind fun bt199 => ((laws_toFrmForm.f k l1_0 l1_1 a1_2).bind fun bt206 => ((spec_FrmAdd.f k bt199.1 bt199.2.1 bt199.2.2 bt206.1 bt206.2.1 bt206.2.2).bind fun bt213 => ((laws_toFrmForm.f k l0_0 l0_1 a0_2).bind fun bt221 => ((laws_toFrmForm.f k l1_0 l1_1 a1_2).bind fun bt229 => ((impl_FrmAdd.f bt221.1 bt221.2.1 bt221.2.2 bt229.1 bt229.2.1 bt229.2.2).bind fun bt237 => ((laws_eqFrmForm.f k bt237.1 bt237.2.1 bt237.2.2 bt213.1 bt213.2.1 bt213.2.2).bind fun t245 => (if t245 = true then ((laws_toFrmForm.f k l0_0 l0_1 a0_2).bind fun bt246 => ((laws_eqFrmForm.f k bt221.1 bt221.2.1 bt221.2.2 bt246.1 bt246.2.1 bt246.2.2).bind fun t253 => (if t253 = true then ((laws_toFrmForm.f k l1_0 l1_1 a1_2).bind fun bt254 => ((laws_eqFrmForm.f k bt229.1 bt229.2.1 bt229.2.2 bt254.1 bt254.2.1 bt254.2.2).bind fun t261 => (if t261 = true then ((laws_markFrmForm.f k bt221.1 bt221.2.1 bt221.2.2 1).bind fun bt262 => ((laws_markFrmForm.f k bt229.1 bt229.2.1 bt229.2.2 bt262.1).bind fun bt265 => (if bt265.1 < 0 then (laws_FnExactFrmAdd.j0 k true l0_0 l0_1 a0_2 l1_0 l1_1 a1_2 bt213.1 bt213.2.1 bt213.2.2 bt237.1 bt237.2.1 bt237.2.2) else ((laws_eqFrmForm.f k bt237.1 bt237.2.1 bt237.2.2 bt213.1 bt213.2.1 bt213.2.2).bind fun t268 => (laws_FnExactFrmAdd.j0 k (!t268) l0_0 l0_1 a0_2 l1_0 l1_1 a1_2 bt213.1 bt213.2.1 bt213.2.2 bt237.1 bt237.2.1 bt237.2.2))))) else (some false)))) else (some false)))) else (some false)))))))))))) = some r := H
  have A3 := Aside0.mk A30
  clear A30
  by_cases c4 : t197 < 0
  · rw [if_pos c4] at H
    have c4b0 : decide (t197 < 0) = true := decide_eq_true c4
    clear c4
    obtain rfl := Option.some.inj H
    go_enter Try.func3, Try.ntmps3
    go_wp2_with (first | ((with_reducible refine gate_dst (N := 2) rfl ?_); refine box_event ?hg (N := 2) ?hd (cs := #[.slice A0_0 l0_0.length c0_0, .slice A0_1 l0_1.length c0_1, .int .i64 a0_2]) (t := 24) ?hr ?_; (case hd => rfl); (case hg => rfl); (case hr => first | (go_simp; done) | (go_simp; rfl)); intro gb195 hg w5 hbox hb; have n0_ := Aside0.mk (below_step (by exact lB HB.out) hb); have n1_ := Aside0.mk (hbox); have n2_ := Aside0.mk ((by rw [hg]; exact (below_size (by exact lB HB.out)) : w.heap.size ≤ gb195)); have n3_ := Aside0.mk ((by rw [hg]; exact (below_size (by exact lB HB.out)) : w.heap.size ≤ gb195)); clear HB; have HB := n0_; have BK195 := n1_; have GW195 := n2_; have GE195 := n3_; clear n0_ n1_ n2_ n3_; clear hb hbox hg) | ((with_reducible refine gate_dst (N := 3) rfl ?_); refine box_event ?hg (N := 3) ?hd (cs := #[.slice A1_0 l1_0.length c1_0, .slice A1_1 l1_1.length c1_1, .int .i64 a1_2]) (t := 24) ?hr ?_; (case hd => rfl); (case hg => rfl); (case hr => first | (go_simp; done) | (go_simp; rfl)); intro gb196 hg w6 hbox hb; have n0_ := Aside0.mk (blk_below (g := gb195) (o := .cells #[.slice A0_0 l0_0.length c0_0, .slice A0_1 l0_1.length c0_1, .int .i64 a0_2] 24 (0, 0)) (by exact lK <| BK195.out) hb); have n1_ := Aside0.mk (below_step (by repeat (first | (with_reducible first | exact HB.out | apply below_alloc | apply pw_below_drewN | apply below_drew1 | refine below_set ?_ GE195.out) | exact HB.out)) hb); have n2_ := Aside0.mk (hbox); have n3_ := Aside0.mk ((by rw [hg]; exact (below_size (by repeat (first | (with_reducible first | exact HB.out | apply below_alloc | apply pw_below_drewN | apply below_drew1 | refine below_set ?_ GE195.out) | exact HB.out))) : w.heap.size ≤ gb196)); have n4_ := Aside0.mk ((by rw [hg]; exact (below_size (by repeat (first | (with_reducible first | exact HB.out | apply below_alloc | apply pw_below_drewN | apply below_drew1 | refine below_set ?_ GE195.out) | exact HB.out))) : w.heap.size ≤ gb196)); have n5_ := Aside0.mk ((neL hg (lK BK195.out) : gb195 ≠ gb196)); have n6_ := Aside0.mk ((neG hg (lK BK195.out) : gb196 ≠ gb195)); clear BK195; clear HB; have BK195 := n0_; have HB := n1_; have BK196 := n2_; have GW196 := n3_; have GE196 := n4_; have NB195_196 := n5_; have NB196_195 := n6_; clear n0_ n1_ n2_ n3_ n4_ n5_ n6_; clear hb hbox hg; have hnb7 := NB195_196.out; have hnc7 := NB196_195.out; have hcz8_0 : w6.cell? ⟨gb195, 0, none⟩ = some (.slice A0_0 l0_0.length c0_0) := (blk_cell BK195.out 0).trans rfl; have hcz8_1 : w6.cell? ⟨gb195, 1, none⟩ = some (.slice A0_1 l0_1.length c0_1) := (blk_cell BK195.out 1).trans rfl; have hcz8_2 : w6.cell? ⟨gb195, 2, none⟩ = some (.int .i64 a0_2) := (blk_cell BK195.out 2).trans rfl; have hfz8_0 := blk_frozen BK195.out 0; have hfz8_1 := blk_frozen BK195.out 1; have hfz8_2 := blk_frozen BK195.out 2) | ((with_reducible refine gate_callee (f := 8) rfl ?_); refine goesL_ (some 16) rfl rfl Try.func8 (by kernel_rfl) rfl #[.agg #[.slice A0_0 l0_0.length c0_0, .slice A0_1 l0_1.length c0_1, .int .i64 a0_2], .int .i64 1048576] rfl (by (try simp only [List.map_toArray, List.map_cons, List.map_nil]); first | done | rfl | (simp only [List.length_drop, List.length_take]; rfl)) ?_; (with_reducible refine (laws_szFrmForm.calls _ _ l0_0 _ _ l0_1 a0_2 1048576 t197 _ ?side1 ?side2 ?side3 ?side4 A3.out).mono ?_); (case side1 => exact lC <| (Kd.C_below HR0_0.out HB.out)); (case side2 => exact HC0_0.out); (case side3 => exact lC <| (Kd.C_below HR0_1.out HB.out)); (case side4 => exact HC0_1.out); rintro e w9 ⟨rfl, hb⟩; refine ⟨_, rfl, ?_⟩; have n0_ := Aside0.mk (blk_below (g := gb195) (o := .cells #[.slice A0_0 l0_0.length c0_0, .slice A0_1 l0_1.length c0_1, .int .i64 a0_2] 24 (0, 0)) (by exact lK <| BK195.out) hb); have n1_ := Aside0.mk (blk_below (g := gb196) (o := .cells #[.slice A1_0 l1_0.length c1_0, .slice A1_1 l1_1.length c1_1, .int .i64 a1_2] 24 (0, 0)) (by exact lK <| BK196.out) hb); have n2_ := Aside0.mk (below_step (by repeat (first | (with_reducible first | exact HB.out | apply below_alloc | apply pw_below_drewN | apply below_drew1 | refine below_set ?_ GE195.out | refine below_set ?_ GE196.out) | exact HB.out)) hb); clear BK195; clear BK196; clear HB; have BK195 := n0_; have BK196 := n1_; have HB := n2_; clear n0_ n1_ n2_; (try clear hb); (try clear hb2); (try clear hk); (try clear hi)))
    go_ret
    exact ⟨by first | rfl | (simp [errW_none, errW_some] <;> rfl) | (simp [*, errW_none, errW_some] <;> rfl), by repeat (first | (with_reducible first | exact HB.out | apply below_alloc | apply pw_below_drewN | apply below_drew1 | refine below_set ?_ GE195.out | refine below_set ?_ GE196.out) | exact HB.out)⟩
  · rw [if_neg c4] at H
    have c4b0 : decide (t197 < 0) = false := decide_eq_false c4
    clear c4
    replace H := Option.bind_eq_some_iff.mp H
    obtain ⟨t198, A100, H⟩ := H
    replace H : (if t198 < 0 then (some true) else ((laws_toFrmForm.f k l0_0 l0_1 a0_2).bind fun bt199 => ((laws_toFrmForm.f k l1_0 l1_1 a1_2).bind fun bt206 => ((spec_FrmAdd.f k bt199.1 bt199.2.1 bt199.2.2 bt206.1 bt206.2.1 bt206.2.2).bind fun bt213 => ((laws_toFrmForm.f k l0_0 l0_1 a0_2).bind fun bt221 => ((laws_toFrmForm.f k l1_0 l1_1 a1_2).bind fun bt229 => ((impl_FrmAdd.f bt221.1 bt221.2.1 bt221.2.2 bt229.1 bt229.2.1 bt229.2.2).bind fun bt237 => ((laws_eqFrmForm.f k bt237.1 bt237.2.1 bt237.2.2 bt213.1 bt213.2.1 bt213.2.2).bind fun t245 => (if t245 = true then ((laws_toFrmForm.f k l0_0 l0_1 a0_2).bind fun bt246 => ((laws_eqFrmForm.f k bt221.1 bt221.2.1 bt221.2.2 bt246.1 bt246.2.1 bt246.2.2).bind fun t253 => (if t253 = true then ((laws_toFrmForm.f k l1_0 l1_1 a1_2).bind fun bt254 => ((laws_eqFrmForm.f k bt229.1 bt229.2.1 bt229.2.2 bt254.1 bt254.2.1 bt254.2.2).bind fun t261 => (if t261 = true then ((laws_markFrmForm.f k bt221.1 bt221.2.1 bt221.2.2 1).bind fun bt262 => ((laws_markFrmForm.f k bt229.1 bt229.2.1 bt229.2.2 bt262.1).bind fun bt265 => (if bt265.1 < 0 then (laws_FnExactFrmAdd.j0 k true l0_0 l0_1 a0_2 l1_0 l1_1 a1_2 bt213.1 bt213.2.1 bt213.2.2 bt237.1 bt237.2.1 bt237.2.2) else ((laws_eqFrmForm.f k bt237.1 bt237.2.1 bt237.2.2 bt213.1 bt213.2.1 bt213.2.2).bind fun t268 => (laws_FnExactFrmAdd.j0 k (!t268) l0_0 l0_1 a0_2 l1_0 l1_1 a1_2 bt213.1 bt213.2.1 bt213.2.2 bt237.1 bt237.2.1 bt237.2.2))))) else (some false)))) else (some false)))) else (some false)))))))))) = some r := H
    have A10 := Aside0.mk A100
    clear A100
    by_cases c11 : t198 < 0
    · rw [if_pos c11] at H
      have c11b0 : decide (t198 < 0) = true := decide_eq_true c11
      clear c11
      obtain rfl := Option.some.inj H
      go_enter Try.func3, Try.ntmps3
      go_wp2_with (first | ((with_reducible refine gate_dst (N := 2) rfl ?_); refine box_event ?hg (N := 2) ?hd (cs := #[.slice A0_0 l0_0.length c0_0, .slice A0_1 l0_1.length c0_1, .int .i64 a0_2]) (t := 24) ?hr ?_; (case hd => rfl); (case hg => rfl); (case hr => first | (go_simp; done) | (go_simp; rfl)); intro gb195 hg w12 hbox hb; have n0_ := Aside0.mk (below_step (by exact lB HB.out) hb); have n1_ := Aside0.mk (hbox); have n2_ := Aside0.mk ((by rw [hg]; exact (below_size (by exact lB HB.out)) : w.heap.size ≤ gb195)); have n3_ := Aside0.mk ((by rw [hg]; exact (below_size (by exact lB HB.out)) : w.heap.size ≤ gb195)); clear HB; have HB := n0_; have BK195 := n1_; have GW195 := n2_; have GE195 := n3_; clear n0_ n1_ n2_ n3_; clear hb hbox hg) | ((with_reducible refine gate_dst (N := 3) rfl ?_); refine box_event ?hg (N := 3) ?hd (cs := #[.slice A1_0 l1_0.length c1_0, .slice A1_1 l1_1.length c1_1, .int .i64 a1_2]) (t := 24) ?hr ?_; (case hd => rfl); (case hg => rfl); (case hr => first | (go_simp; done) | (go_simp; rfl)); intro gb196 hg w13 hbox hb; have n0_ := Aside0.mk (blk_below (g := gb195) (o := .cells #[.slice A0_0 l0_0.length c0_0, .slice A0_1 l0_1.length c0_1, .int .i64 a0_2] 24 (0, 0)) (by exact lK <| BK195.out) hb); have n1_ := Aside0.mk (below_step (by repeat (first | (with_reducible first | exact HB.out | apply below_alloc | apply pw_below_drewN | apply below_drew1 | refine below_set ?_ GE195.out) | exact HB.out)) hb); have n2_ := Aside0.mk (hbox); have n3_ := Aside0.mk ((by rw [hg]; exact (below_size (by repeat (first | (with_reducible first | exact HB.out | apply below_alloc | apply pw_below_drewN | apply below_drew1 | refine below_set ?_ GE195.out) | exact HB.out))) : w.heap.size ≤ gb196)); have n4_ := Aside0.mk ((by rw [hg]; exact (below_size (by repeat (first | (with_reducible first | exact HB.out | apply below_alloc | apply pw_below_drewN | apply below_drew1 | refine below_set ?_ GE195.out) | exact HB.out))) : w.heap.size ≤ gb196)); have n5_ := Aside0.mk ((neL hg (lK BK195.out) : gb195 ≠ gb196)); have n6_ := Aside0.mk ((neG hg (lK BK195.out) : gb196 ≠ gb195)); clear BK195; clear HB; have BK195 := n0_; have HB := n1_; have BK196 := n2_; have GW196 := n3_; have GE196 := n4_; have NB195_196 := n5_; have NB196_195 := n6_; clear n0_ n1_ n2_ n3_ n4_ n5_ n6_; clear hb hbox hg; have hnb14 := NB195_196.out; have hnc14 := NB196_195.out; have hcz15_0 : w13.cell? ⟨gb195, 0, none⟩ = some (.slice A0_0 l0_0.length c0_0) := (blk_cell BK195.out 0).trans rfl; have hcz15_1 : w13.cell? ⟨gb195, 1, none⟩ = some (.slice A0_1 l0_1.length c0_1) := (blk_cell BK195.out 1).trans rfl; have hcz15_2 : w13.cell? ⟨gb195, 2, none⟩ = some (.int .i64 a0_2) := (blk_cell BK195.out 2).trans rfl; have hfz15_0 := blk_frozen BK195.out 0; have hfz15_1 := blk_frozen BK195.out 1; have hfz15_2 := blk_frozen BK195.out 2) | ((with_reducible refine gate_callee (f := 8) rfl ?_); refine goesL_ (some 16) rfl rfl Try.func8 (by kernel_rfl) rfl #[.agg #[.slice A0_0 l0_0.length c0_0, .slice A0_1 l0_1.length c0_1, .int .i64 a0_2], .int .i64 1048576] rfl (by (try simp only [List.map_toArray, List.map_cons, List.map_nil]); first | done | rfl | (simp only [List.length_drop, List.length_take]; rfl)) ?_; (with_reducible refine (laws_szFrmForm.calls _ _ l0_0 _ _ l0_1 a0_2 1048576 t197 _ ?side1 ?side2 ?side3 ?side4 A3.out).mono ?_); (case side1 => exact lC <| (Kd.C_below HR0_0.out HB.out)); (case side2 => exact HC0_0.out); (case side3 => exact lC <| (Kd.C_below HR0_1.out HB.out)); (case side4 => exact HC0_1.out); rintro e w16 ⟨rfl, hb⟩; refine ⟨_, rfl, ?_⟩; have n0_ := Aside0.mk (blk_below (g := gb195) (o := .cells #[.slice A0_0 l0_0.length c0_0, .slice A0_1 l0_1.length c0_1, .int .i64 a0_2] 24 (0, 0)) (by exact lK <| BK195.out) hb); have n1_ := Aside0.mk (blk_below (g := gb196) (o := .cells #[.slice A1_0 l1_0.length c1_0, .slice A1_1 l1_1.length c1_1, .int .i64 a1_2] 24 (0, 0)) (by exact lK <| BK196.out) hb); have n2_ := Aside0.mk (below_step (by repeat (first | (with_reducible first | exact HB.out | apply below_alloc | apply pw_below_drewN | apply below_drew1 | refine below_set ?_ GE195.out | refine below_set ?_ GE196.out) | exact HB.out)) hb); clear BK195; clear BK196; clear HB; have BK195 := n0_; have BK196 := n1_; have HB := n2_; clear n0_ n1_ n2_; (try clear hb); (try clear hb2); (try clear hk); (try clear hi); have hcz17_0 : w16.cell? ⟨gb196, 0, none⟩ = some (.slice A1_0 l1_0.length c1_0) := (blk_cell BK196.out 0).trans rfl; have hcz17_1 : w16.cell? ⟨gb196, 1, none⟩ = some (.slice A1_1 l1_1.length c1_1) := (blk_cell BK196.out 1).trans rfl; have hcz17_2 : w16.cell? ⟨gb196, 2, none⟩ = some (.int .i64 a1_2) := (blk_cell BK196.out 2).trans rfl; have hfz17_0 := blk_frozen BK196.out 0; have hfz17_1 := blk_frozen BK196.out 1; have hfz17_2 := blk_frozen BK196.out 2) | ((with_reducible refine gate_callee (f := 8) rfl ?_); refine goesL_ (some 21) rfl rfl Try.func8 (by kernel_rfl) rfl #[.agg #[.slice A1_0 l1_0.length c1_0, .slice A1_1 l1_1.length c1_1, .int .i64 a1_2], .int .i64 t197] rfl (by (try simp only [List.map_toArray, List.map_cons, List.map_nil]); first | done | rfl | (simp only [List.length_drop, List.length_take]; rfl)) ?_; (with_reducible refine (laws_szFrmForm.calls _ _ l1_0 _ _ l1_1 a1_2 t197 t198 _ ?side1 ?side2 ?side3 ?side4 A10.out).mono ?_); (case side1 => exact lC <| (Kd.C_below HR1_0.out HB.out)); (case side2 => exact HC1_0.out); (case side3 => exact lC <| (Kd.C_below HR1_1.out HB.out)); (case side4 => exact HC1_1.out); rintro e w18 ⟨rfl, hb⟩; refine ⟨_, rfl, ?_⟩; have n0_ := Aside0.mk (blk_below (g := gb195) (o := .cells #[.slice A0_0 l0_0.length c0_0, .slice A0_1 l0_1.length c0_1, .int .i64 a0_2] 24 (0, 0)) (by exact lK <| BK195.out) hb); have n1_ := Aside0.mk (blk_below (g := gb196) (o := .cells #[.slice A1_0 l1_0.length c1_0, .slice A1_1 l1_1.length c1_1, .int .i64 a1_2] 24 (0, 0)) (by exact lK <| BK196.out) hb); have n2_ := Aside0.mk (below_step (by repeat (first | (with_reducible first | exact HB.out | apply below_alloc | apply pw_below_drewN | apply below_drew1 | refine below_set ?_ GE195.out | refine below_set ?_ GE196.out) | exact HB.out)) hb); clear BK195; clear BK196; clear HB; have BK195 := n0_; have BK196 := n1_; have HB := n2_; clear n0_ n1_ n2_; (try clear hb); (try clear hb2); (try clear hk); (try clear hi)))
      go_ret
      exact ⟨by first | rfl | (simp [errW_none, errW_some] <;> rfl) | (simp [*, errW_none, errW_some] <;> rfl), by repeat (first | (with_reducible first | exact HB.out | apply below_alloc | apply pw_below_drewN | apply below_drew1 | refine below_set ?_ GE195.out | refine below_set ?_ GE196.out) | exact HB.out)⟩
    · rw [if_neg c11] at H
      have c11b0 : decide (t198 < 0) = false := decide_eq_false c11
      clear c11
      replace H := Option.bind_eq_some_iff.mp H
      obtain ⟨⟨t199, t202, t205⟩, A190, H⟩ := H
      replace H : ((laws_toFrmForm.f k l1_0 l1_1 a1_2).bind fun bt206 => ((spec_FrmAdd.f k t199 t202 t205 bt206.1 bt206.2.1 bt206.2.2).bind fun bt213 => ((laws_toFrmForm.f k l0_0 l0_1 a0_2).bind fun bt221 => ((laws_toFrmForm.f k l1_0 l1_1 a1_2).bind fun bt229 => ((impl_FrmAdd.f bt221.1 bt221.2.1 bt221.2.2 bt229.1 bt229.2.1 bt229.2.2).bind fun bt237 => ((laws_eqFrmForm.f k bt237.1 bt237.2.1 bt237.2.2 bt213.1 bt213.2.1 bt213.2.2).bind fun t245 => (if t245 = true then ((laws_toFrmForm.f k l0_0 l0_1 a0_2).bind fun bt246 => ((laws_eqFrmForm.f k bt221.1 bt221.2.1 bt221.2.2 bt246.1 bt246.2.1 bt246.2.2).bind fun t253 => (if t253 = true then ((laws_toFrmForm.f k l1_0 l1_1 a1_2).bind fun bt254 => ((laws_eqFrmForm.f k bt229.1 bt229.2.1 bt229.2.2 bt254.1 bt254.2.1 bt254.2.2).bind fun t261 => (if t261 = true then ((laws_markFrmForm.f k bt221.1 bt221.2.1 bt221.2.2 1).bind fun bt262 => ((laws_markFrmForm.f k bt229.1 bt229.2.1 bt229.2.2 bt262.1).bind fun bt265 => (if bt265.1 < 0 then (laws_FnExactFrmAdd.j0 k true l0_0 l0_1 a0_2 l1_0 l1_1 a1_2 bt213.1 bt213.2.1 bt213.2.2 bt237.1 bt237.2.1 bt237.2.2) else ((laws_eqFrmForm.f k bt237.1 bt237.2.1 bt237.2.2 bt213.1 bt213.2.1 bt213.2.2).bind fun t268 => (laws_FnExactFrmAdd.j0 k (!t268) l0_0 l0_1 a0_2 l1_0 l1_1 a1_2 bt213.1 bt213.2.1 bt213.2.2 bt237.1 bt237.2.1 bt237.2.2))))) else (some false)))) else (some false)))) else (some false)))))))) = some r := H
      have A19 := Aside0.mk A190
      clear A190
      replace H := Option.bind_eq_some_iff.mp H
      obtain ⟨⟨t206, t209, t212⟩, A200, H⟩ := H
      replace H : ((spec_FrmAdd.f k t199 t202 t205 t206 t209 t212).bind fun bt213 => ((laws_toFrmForm.f k l0_0 l0_1 a0_2).bind fun bt221 => ((laws_toFrmForm.f k l1_0 l1_1 a1_2).bind fun bt229 => ((impl_FrmAdd.f bt221.1 bt221.2.1 bt221.2.2 bt229.1 bt229.2.1 bt229.2.2).bind fun bt237 => ((laws_eqFrmForm.f k bt237.1 bt237.2.1 bt237.2.2 bt213.1 bt213.2.1 bt213.2.2).bind fun t245 => (if t245 = true then ((laws_toFrmForm.f k l0_0 l0_1 a0_2).bind fun bt246 => ((laws_eqFrmForm.f k bt221.1 bt221.2.1 bt221.2.2 bt246.1 bt246.2.1 bt246.2.2).bind fun t253 => (if t253 = true then ((laws_toFrmForm.f k l1_0 l1_1 a1_2).bind fun bt254 => ((laws_eqFrmForm.f k bt229.1 bt229.2.1 bt229.2.2 bt254.1 bt254.2.1 bt254.2.2).bind fun t261 => (if t261 = true then ((laws_markFrmForm.f k bt221.1 bt221.2.1 bt221.2.2 1).bind fun bt262 => ((laws_markFrmForm.f k bt229.1 bt229.2.1 bt229.2.2 bt262.1).bind fun bt265 => (if bt265.1 < 0 then (laws_FnExactFrmAdd.j0 k true l0_0 l0_1 a0_2 l1_0 l1_1 a1_2 bt213.1 bt213.2.1 bt213.2.2 bt237.1 bt237.2.1 bt237.2.2) else ((laws_eqFrmForm.f k bt237.1 bt237.2.1 bt237.2.2 bt213.1 bt213.2.1 bt213.2.2).bind fun t268 => (laws_FnExactFrmAdd.j0 k (!t268) l0_0 l0_1 a0_2 l1_0 l1_1 a1_2 bt213.1 bt213.2.1 bt213.2.2 bt237.1 bt237.2.1 bt237.2.2))))) else (some false)))) else (some false)))) else (some false))))))) = some r := H
      have A20 := Aside0.mk A200
      clear A200
      replace H := Option.bind_eq_some_iff.mp H
      obtain ⟨⟨t213, t216, t219⟩, A210, H⟩ := H
      replace H : ((laws_toFrmForm.f k l0_0 l0_1 a0_2).bind fun bt221 => ((laws_toFrmForm.f k l1_0 l1_1 a1_2).bind fun bt229 => ((impl_FrmAdd.f bt221.1 bt221.2.1 bt221.2.2 bt229.1 bt229.2.1 bt229.2.2).bind fun bt237 => ((laws_eqFrmForm.f k bt237.1 bt237.2.1 bt237.2.2 t213 t216 t219).bind fun t245 => (if t245 = true then ((laws_toFrmForm.f k l0_0 l0_1 a0_2).bind fun bt246 => ((laws_eqFrmForm.f k bt221.1 bt221.2.1 bt221.2.2 bt246.1 bt246.2.1 bt246.2.2).bind fun t253 => (if t253 = true then ((laws_toFrmForm.f k l1_0 l1_1 a1_2).bind fun bt254 => ((laws_eqFrmForm.f k bt229.1 bt229.2.1 bt229.2.2 bt254.1 bt254.2.1 bt254.2.2).bind fun t261 => (if t261 = true then ((laws_markFrmForm.f k bt221.1 bt221.2.1 bt221.2.2 1).bind fun bt262 => ((laws_markFrmForm.f k bt229.1 bt229.2.1 bt229.2.2 bt262.1).bind fun bt265 => (if bt265.1 < 0 then (laws_FnExactFrmAdd.j0 k true l0_0 l0_1 a0_2 l1_0 l1_1 a1_2 t213 t216 t219 bt237.1 bt237.2.1 bt237.2.2) else ((laws_eqFrmForm.f k bt237.1 bt237.2.1 bt237.2.2 t213 t216 t219).bind fun t268 => (laws_FnExactFrmAdd.j0 k (!t268) l0_0 l0_1 a0_2 l1_0 l1_1 a1_2 t213 t216 t219 bt237.1 bt237.2.1 bt237.2.2))))) else (some false)))) else (some false)))) else (some false)))))) = some r := H
      have A21 := Aside0.mk A210
      clear A210
      replace H := Option.bind_eq_some_iff.mp H
      obtain ⟨⟨t221, t224, t227⟩, A220, H⟩ := H
      replace H : ((laws_toFrmForm.f k l1_0 l1_1 a1_2).bind fun bt229 => ((impl_FrmAdd.f t221 t224 t227 bt229.1 bt229.2.1 bt229.2.2).bind fun bt237 => ((laws_eqFrmForm.f k bt237.1 bt237.2.1 bt237.2.2 t213 t216 t219).bind fun t245 => (if t245 = true then ((laws_toFrmForm.f k l0_0 l0_1 a0_2).bind fun bt246 => ((laws_eqFrmForm.f k t221 t224 t227 bt246.1 bt246.2.1 bt246.2.2).bind fun t253 => (if t253 = true then ((laws_toFrmForm.f k l1_0 l1_1 a1_2).bind fun bt254 => ((laws_eqFrmForm.f k bt229.1 bt229.2.1 bt229.2.2 bt254.1 bt254.2.1 bt254.2.2).bind fun t261 => (if t261 = true then ((laws_markFrmForm.f k t221 t224 t227 1).bind fun bt262 => ((laws_markFrmForm.f k bt229.1 bt229.2.1 bt229.2.2 bt262.1).bind fun bt265 => (if bt265.1 < 0 then (laws_FnExactFrmAdd.j0 k true l0_0 l0_1 a0_2 l1_0 l1_1 a1_2 t213 t216 t219 bt237.1 bt237.2.1 bt237.2.2) else ((laws_eqFrmForm.f k bt237.1 bt237.2.1 bt237.2.2 t213 t216 t219).bind fun t268 => (laws_FnExactFrmAdd.j0 k (!t268) l0_0 l0_1 a0_2 l1_0 l1_1 a1_2 t213 t216 t219 bt237.1 bt237.2.1 bt237.2.2))))) else (some false)))) else (some false)))) else (some false))))) = some r := H
      have A22 := Aside0.mk A220
      clear A220
      replace H := Option.bind_eq_some_iff.mp H
      obtain ⟨⟨t229, t232, t235⟩, A230, H⟩ := H
      replace H : ((impl_FrmAdd.f t221 t224 t227 t229 t232 t235).bind fun bt237 => ((laws_eqFrmForm.f k bt237.1 bt237.2.1 bt237.2.2 t213 t216 t219).bind fun t245 => (if t245 = true then ((laws_toFrmForm.f k l0_0 l0_1 a0_2).bind fun bt246 => ((laws_eqFrmForm.f k t221 t224 t227 bt246.1 bt246.2.1 bt246.2.2).bind fun t253 => (if t253 = true then ((laws_toFrmForm.f k l1_0 l1_1 a1_2).bind fun bt254 => ((laws_eqFrmForm.f k t229 t232 t235 bt254.1 bt254.2.1 bt254.2.2).bind fun t261 => (if t261 = true then ((laws_markFrmForm.f k t221 t224 t227 1).bind fun bt262 => ((laws_markFrmForm.f k t229 t232 t235 bt262.1).bind fun bt265 => (if bt265.1 < 0 then (laws_FnExactFrmAdd.j0 k true l0_0 l0_1 a0_2 l1_0 l1_1 a1_2 t213 t216 t219 bt237.1 bt237.2.1 bt237.2.2) else ((laws_eqFrmForm.f k bt237.1 bt237.2.1 bt237.2.2 t213 t216 t219).bind fun t268 => (laws_FnExactFrmAdd.j0 k (!t268) l0_0 l0_1 a0_2 l1_0 l1_1 a1_2 t213 t216 t219 bt237.1 bt237.2.1 bt237.2.2))))) else (some false)))) else (some false)))) else (some false)))) = some r := H
      have A23 := Aside0.mk A230
      clear A230
      replace H := Option.bind_eq_some_iff.mp H
      obtain ⟨⟨t237, t240, t243⟩, A240, H⟩ := H
      replace H : ((laws_eqFrmForm.f k t237 t240 t243 t213 t216 t219).bind fun t245 => (if t245 = true then ((laws_toFrmForm.f k l0_0 l0_1 a0_2).bind fun bt246 => ((laws_eqFrmForm.f k t221 t224 t227 bt246.1 bt246.2.1 bt246.2.2).bind fun t253 => (if t253 = true then ((laws_toFrmForm.f k l1_0 l1_1 a1_2).bind fun bt254 => ((laws_eqFrmForm.f k t229 t232 t235 bt254.1 bt254.2.1 bt254.2.2).bind fun t261 => (if t261 = true then ((laws_markFrmForm.f k t221 t224 t227 1).bind fun bt262 => ((laws_markFrmForm.f k t229 t232 t235 bt262.1).bind fun bt265 => (if bt265.1 < 0 then (laws_FnExactFrmAdd.j0 k true l0_0 l0_1 a0_2 l1_0 l1_1 a1_2 t213 t216 t219 t237 t240 t243) else ((laws_eqFrmForm.f k t237 t240 t243 t213 t216 t219).bind fun t268 => (laws_FnExactFrmAdd.j0 k (!t268) l0_0 l0_1 a0_2 l1_0 l1_1 a1_2 t213 t216 t219 t237 t240 t243))))) else (some false)))) else (some false)))) else (some false))) = some r := H
      have A24 := Aside0.mk A240
      clear A240
      replace H := Option.bind_eq_some_iff.mp H
      obtain ⟨t245, A250, H⟩ := H
      replace H : (if t245 = true then ((laws_toFrmForm.f k l0_0 l0_1 a0_2).bind fun bt246 => ((laws_eqFrmForm.f k t221 t224 t227 bt246.1 bt246.2.1 bt246.2.2).bind fun t253 => (if t253 = true then ((laws_toFrmForm.f k l1_0 l1_1 a1_2).bind fun bt254 => ((laws_eqFrmForm.f k t229 t232 t235 bt254.1 bt254.2.1 bt254.2.2).bind fun t261 => (if t261 = true then ((laws_markFrmForm.f k t221 t224 t227 1).bind fun bt262 => ((laws_markFrmForm.f k t229 t232 t235 bt262.1).bind fun bt265 => (if bt265.1 < 0 then (laws_FnExactFrmAdd.j0 k true l0_0 l0_1 a0_2 l1_0 l1_1 a1_2 t213 t216 t219 t237 t240 t243) else ((laws_eqFrmForm.f k t237 t240 t243 t213 t216 t219).bind fun t268 => (laws_FnExactFrmAdd.j0 k (!t268) l0_0 l0_1 a0_2 l1_0 l1_1 a1_2 t213 t216 t219 t237 t240 t243))))) else (some false)))) else (some false)))) else (some false)) = some r := H
      have A25 := Aside0.mk A250
      clear A250
      by_cases c26 : t245 = true
      · subst c26
        have H1 : ((laws_toFrmForm.f k l0_0 l0_1 a0_2).bind fun bt246 => ((laws_eqFrmForm.f k t221 t224 t227 bt246.1 bt246.2.1 bt246.2.2).bind fun t253 => (if t253 = true then ((laws_toFrmForm.f k l1_0 l1_1 a1_2).bind fun bt254 => ((laws_eqFrmForm.f k t229 t232 t235 bt254.1 bt254.2.1 bt254.2.2).bind fun t261 => (if t261 = true then ((laws_markFrmForm.f k t221 t224 t227 1).bind fun bt262 => ((laws_markFrmForm.f k t229 t232 t235 bt262.1).bind fun bt265 => (if bt265.1 < 0 then (laws_FnExactFrmAdd.j0 k true l0_0 l0_1 a0_2 l1_0 l1_1 a1_2 t213 t216 t219 t237 t240 t243) else ((laws_eqFrmForm.f k t237 t240 t243 t213 t216 t219).bind fun t268 => (laws_FnExactFrmAdd.j0 k (!t268) l0_0 l0_1 a0_2 l1_0 l1_1 a1_2 t213 t216 t219 t237 t240 t243))))) else (some false)))) else (some false)))) = some r := by rw [if_pos rfl] at H; exact H
        clear H
        have H := H1
        clear H1
        replace H := Option.bind_eq_some_iff.mp H
        obtain ⟨⟨t246, t249, t252⟩, A270, H⟩ := H
        replace H : ((laws_eqFrmForm.f k t221 t224 t227 t246 t249 t252).bind fun t253 => (if t253 = true then ((laws_toFrmForm.f k l1_0 l1_1 a1_2).bind fun bt254 => ((laws_eqFrmForm.f k t229 t232 t235 bt254.1 bt254.2.1 bt254.2.2).bind fun t261 => (if t261 = true then ((laws_markFrmForm.f k t221 t224 t227 1).bind fun bt262 => ((laws_markFrmForm.f k t229 t232 t235 bt262.1).bind fun bt265 => (if bt265.1 < 0 then (laws_FnExactFrmAdd.j0 k true l0_0 l0_1 a0_2 l1_0 l1_1 a1_2 t213 t216 t219 t237 t240 t243) else ((laws_eqFrmForm.f k t237 t240 t243 t213 t216 t219).bind fun t268 => (laws_FnExactFrmAdd.j0 k (!t268) l0_0 l0_1 a0_2 l1_0 l1_1 a1_2 t213 t216 t219 t237 t240 t243))))) else (some false)))) else (some false))) = some r := H
        have A27 := Aside0.mk A270
        clear A270
        replace H := Option.bind_eq_some_iff.mp H
        obtain ⟨t253, A280, H⟩ := H
        replace H : (if t253 = true then ((laws_toFrmForm.f k l1_0 l1_1 a1_2).bind fun bt254 => ((laws_eqFrmForm.f k t229 t232 t235 bt254.1 bt254.2.1 bt254.2.2).bind fun t261 => (if t261 = true then ((laws_markFrmForm.f k t221 t224 t227 1).bind fun bt262 => ((laws_markFrmForm.f k t229 t232 t235 bt262.1).bind fun bt265 => (if bt265.1 < 0 then (laws_FnExactFrmAdd.j0 k true l0_0 l0_1 a0_2 l1_0 l1_1 a1_2 t213 t216 t219 t237 t240 t243) else ((laws_eqFrmForm.f k t237 t240 t243 t213 t216 t219).bind fun t268 => (laws_FnExactFrmAdd.j0 k (!t268) l0_0 l0_1 a0_2 l1_0 l1_1 a1_2 t213 t216 t219 t237 t240 t243))))) else (some false)))) else (some false)) = some r := H
        have A28 := Aside0.mk A280
        clear A280
        by_cases c29 : t253 = true
        · subst c29
          have H1 : ((laws_toFrmForm.f k l1_0 l1_1 a1_2).bind fun bt254 => ((laws_eqFrmForm.f k t229 t232 t235 bt254.1 bt254.2.1 bt254.2.2).bind fun t261 => (if t261 = true then ((laws_markFrmForm.f k t221 t224 t227 1).bind fun bt262 => ((laws_markFrmForm.f k t229 t232 t235 bt262.1).bind fun bt265 => (if bt265.1 < 0 then (laws_FnExactFrmAdd.j0 k true l0_0 l0_1 a0_2 l1_0 l1_1 a1_2 t213 t216 t219 t237 t240 t243) else ((laws_eqFrmForm.f k t237 t240 t243 t213 t216 t219).bind fun t268 => (laws_FnExactFrmAdd.j0 k (!t268) l0_0 l0_1 a0_2 l1_0 l1_1 a1_2 t213 t216 t219 t237 t240 t243))))) else (some false)))) = some r := by rw [if_pos rfl] at H; exact H
          clear H
          have H := H1
          clear H1
          replace H := Option.bind_eq_some_iff.mp H
          obtain ⟨⟨t254, t257, t260⟩, A300, H⟩ := H
          replace H : ((laws_eqFrmForm.f k t229 t232 t235 t254 t257 t260).bind fun t261 => (if t261 = true then ((laws_markFrmForm.f k t221 t224 t227 1).bind fun bt262 => ((laws_markFrmForm.f k t229 t232 t235 bt262.1).bind fun bt265 => (if bt265.1 < 0 then (laws_FnExactFrmAdd.j0 k true l0_0 l0_1 a0_2 l1_0 l1_1 a1_2 t213 t216 t219 t237 t240 t243) else ((laws_eqFrmForm.f k t237 t240 t243 t213 t216 t219).bind fun t268 => (laws_FnExactFrmAdd.j0 k (!t268) l0_0 l0_1 a0_2 l1_0 l1_1 a1_2 t213 t216 t219 t237 t240 t243))))) else (some false))) = some r := H
          have A30 := Aside0.mk A300
          clear A300
          replace H := Option.bind_eq_some_iff.mp H
          obtain ⟨t261, A310, H⟩ := H
          replace H : (if t261 = true then ((laws_markFrmForm.f k t221 t224 t227 1).bind fun bt262 => ((laws_markFrmForm.f k t229 t232 t235 bt262.1).bind fun bt265 => (if bt265.1 < 0 then (laws_FnExactFrmAdd.j0 k true l0_0 l0_1 a0_2 l1_0 l1_1 a1_2 t213 t216 t219 t237 t240 t243) else ((laws_eqFrmForm.f k t237 t240 t243 t213 t216 t219).bind fun t268 => (laws_FnExactFrmAdd.j0 k (!t268) l0_0 l0_1 a0_2 l1_0 l1_1 a1_2 t213 t216 t219 t237 t240 t243))))) else (some false)) = some r := H
          have A31 := Aside0.mk A310
          clear A310
          by_cases c32 : t261 = true
          · subst c32
            have H1 : ((laws_markFrmForm.f k t221 t224 t227 1).bind fun bt262 => ((laws_markFrmForm.f k t229 t232 t235 bt262.1).bind fun bt265 => (if bt265.1 < 0 then (laws_FnExactFrmAdd.j0 k true l0_0 l0_1 a0_2 l1_0 l1_1 a1_2 t213 t216 t219 t237 t240 t243) else ((laws_eqFrmForm.f k t237 t240 t243 t213 t216 t219).bind fun t268 => (laws_FnExactFrmAdd.j0 k (!t268) l0_0 l0_1 a0_2 l1_0 l1_1 a1_2 t213 t216 t219 t237 t240 t243))))) = some r := by rw [if_pos rfl] at H; exact H
            clear H
            have H := H1
            clear H1
            replace H := Option.bind_eq_some_iff.mp H
            obtain ⟨⟨t262, t263, t264⟩, A330, H⟩ := H
            replace H : ((laws_markFrmForm.f k t229 t232 t235 t262).bind fun bt265 => (if bt265.1 < 0 then (laws_FnExactFrmAdd.j0 k true l0_0 l0_1 a0_2 l1_0 l1_1 a1_2 t213 t216 t219 t237 t240 t243) else ((laws_eqFrmForm.f k t237 t240 t243 t213 t216 t219).bind fun t268 => (laws_FnExactFrmAdd.j0 k (!t268) l0_0 l0_1 a0_2 l1_0 l1_1 a1_2 t213 t216 t219 t237 t240 t243)))) = some r := H
            have A33 := Aside0.mk A330
            clear A330
            replace H := Option.bind_eq_some_iff.mp H
            obtain ⟨⟨t265, t266, t267⟩, A340, H⟩ := H
            replace H : (if t265 < 0 then (laws_FnExactFrmAdd.j0 k true l0_0 l0_1 a0_2 l1_0 l1_1 a1_2 t213 t216 t219 t237 t240 t243) else ((laws_eqFrmForm.f k t237 t240 t243 t213 t216 t219).bind fun t268 => (laws_FnExactFrmAdd.j0 k (!t268) l0_0 l0_1 a0_2 l1_0 l1_1 a1_2 t213 t216 t219 t237 t240 t243))) = some r := H
            have A34 := Aside0.mk A340
            clear A340
            have HC35 := Aside0.mk H
            clear H
            go_enter Try.func3, Try.ntmps3
            try go_wp2_with (first | ((with_reducible refine gate_dst (N := 2) rfl ?_); refine box_event ?hg (N := 2) ?hd (cs := #[.slice A0_0 l0_0.length c0_0, .slice A0_1 l0_1.length c0_1, .int .i64 a0_2]) (t := 24) ?hr ?_; (case hd => rfl); (case hg => rfl); (case hr => first | (go_simp; done) | (go_simp; rfl)); intro gb195 hg w36 hbox hb; have n0_ := Aside0.mk (below_step (by exact lB HB.out) hb); have n1_ := Aside0.mk (hbox); have n2_ := Aside0.mk ((by rw [hg]; exact (below_size (by exact lB HB.out)) : w.heap.size ≤ gb195)); have n3_ := Aside0.mk ((by rw [hg]; exact (below_size (by exact lB HB.out)) : w.heap.size ≤ gb195)); clear HB; have HB := n0_; have BK195 := n1_; have GW195 := n2_; have GE195 := n3_; clear n0_ n1_ n2_ n3_; clear hb hbox hg) | ((with_reducible refine gate_dst (N := 3) rfl ?_); refine box_event ?hg (N := 3) ?hd (cs := #[.slice A1_0 l1_0.length c1_0, .slice A1_1 l1_1.length c1_1, .int .i64 a1_2]) (t := 24) ?hr ?_; (case hd => rfl); (case hg => rfl); (case hr => first | (go_simp; done) | (go_simp; rfl)); intro gb196 hg w37 hbox hb; have n0_ := Aside0.mk (blk_below (g := gb195) (o := .cells #[.slice A0_0 l0_0.length c0_0, .slice A0_1 l0_1.length c0_1, .int .i64 a0_2] 24 (0, 0)) (by exact lK <| BK195.out) hb); have n1_ := Aside0.mk (below_step (by repeat (first | (with_reducible first | exact HB.out | apply below_alloc | apply pw_below_drewN | apply below_drew1 | refine below_set ?_ GE195.out) | exact HB.out)) hb); have n2_ := Aside0.mk (hbox); have n3_ := Aside0.mk ((by rw [hg]; exact (below_size (by repeat (first | (with_reducible first | exact HB.out | apply below_alloc | apply pw_below_drewN | apply below_drew1 | refine below_set ?_ GE195.out) | exact HB.out))) : w.heap.size ≤ gb196)); have n4_ := Aside0.mk ((by rw [hg]; exact (below_size (by repeat (first | (with_reducible first | exact HB.out | apply below_alloc | apply pw_below_drewN | apply below_drew1 | refine below_set ?_ GE195.out) | exact HB.out))) : w.heap.size ≤ gb196)); have n5_ := Aside0.mk ((neL hg (lK BK195.out) : gb195 ≠ gb196)); have n6_ := Aside0.mk ((neG hg (lK BK195.out) : gb196 ≠ gb195)); clear BK195; clear HB; have BK195 := n0_; have HB := n1_; have BK196 := n2_; have GW196 := n3_; have GE196 := n4_; have NB195_196 := n5_; have NB196_195 := n6_; clear n0_ n1_ n2_ n3_ n4_ n5_ n6_; clear hb hbox hg; have hnb38 := NB195_196.out; have hnc38 := NB196_195.out; have hcz39_0 : w37.cell? ⟨gb195, 0, none⟩ = some (.slice A0_0 l0_0.length c0_0) := (blk_cell BK195.out 0).trans rfl; have hcz39_1 : w37.cell? ⟨gb195, 1, none⟩ = some (.slice A0_1 l0_1.length c0_1) := (blk_cell BK195.out 1).trans rfl; have hcz39_2 : w37.cell? ⟨gb195, 2, none⟩ = some (.int .i64 a0_2) := (blk_cell BK195.out 2).trans rfl; have hfz39_0 := blk_frozen BK195.out 0; have hfz39_1 := blk_frozen BK195.out 1; have hfz39_2 := blk_frozen BK195.out 2) | ((with_reducible refine gate_callee (f := 8) rfl ?_); refine goesL_ (some 16) rfl rfl Try.func8 (by kernel_rfl) rfl #[.agg #[.slice A0_0 l0_0.length c0_0, .slice A0_1 l0_1.length c0_1, .int .i64 a0_2], .int .i64 1048576] rfl (by (try simp only [List.map_toArray, List.map_cons, List.map_nil]); first | done | rfl | (simp only [List.length_drop, List.length_take]; rfl)) ?_; (with_reducible refine (laws_szFrmForm.calls _ _ l0_0 _ _ l0_1 a0_2 1048576 t197 _ ?side1 ?side2 ?side3 ?side4 A3.out).mono ?_); (case side1 => exact lC <| (Kd.C_below HR0_0.out HB.out)); (case side2 => exact HC0_0.out); (case side3 => exact lC <| (Kd.C_below HR0_1.out HB.out)); (case side4 => exact HC0_1.out); rintro e w40 ⟨rfl, hb⟩; refine ⟨_, rfl, ?_⟩; have n0_ := Aside0.mk (blk_below (g := gb195) (o := .cells #[.slice A0_0 l0_0.length c0_0, .slice A0_1 l0_1.length c0_1, .int .i64 a0_2] 24 (0, 0)) (by exact lK <| BK195.out) hb); have n1_ := Aside0.mk (blk_below (g := gb196) (o := .cells #[.slice A1_0 l1_0.length c1_0, .slice A1_1 l1_1.length c1_1, .int .i64 a1_2] 24 (0, 0)) (by exact lK <| BK196.out) hb); have n2_ := Aside0.mk (below_step (by repeat (first | (with_reducible first | exact HB.out | apply below_alloc | apply pw_below_drewN | apply below_drew1 | refine below_set ?_ GE195.out | refine below_set ?_ GE196.out) | exact HB.out)) hb); clear BK195; clear BK196; clear HB; have BK195 := n0_; have BK196 := n1_; have HB := n2_; clear n0_ n1_ n2_; (try clear hb); (try clear hb2); (try clear hk); (try clear hi); have hcz41_0 : w40.cell? ⟨gb196, 0, none⟩ = some (.slice A1_0 l1_0.length c1_0) := (blk_cell BK196.out 0).trans rfl; have hcz41_1 : w40.cell? ⟨gb196, 1, none⟩ = some (.slice A1_1 l1_1.length c1_1) := (blk_cell BK196.out 1).trans rfl; have hcz41_2 : w40.cell? ⟨gb196, 2, none⟩ = some (.int .i64 a1_2) := (blk_cell BK196.out 2).trans rfl; have hfz41_0 := blk_frozen BK196.out 0; have hfz41_1 := blk_frozen BK196.out 1; have hfz41_2 := blk_frozen BK196.out 2) | ((with_reducible refine gate_callee (f := 8) rfl ?_); refine goesL_ (some 21) rfl rfl Try.func8 (by kernel_rfl) rfl #[.agg #[.slice A1_0 l1_0.length c1_0, .slice A1_1 l1_1.length c1_1, .int .i64 a1_2], .int .i64 t197] rfl (by (try simp only [List.map_toArray, List.map_cons, List.map_nil]); first | done | rfl | (simp only [List.length_drop, List.length_take]; rfl)) ?_; (with_reducible refine (laws_szFrmForm.calls _ _ l1_0 _ _ l1_1 a1_2 t197 t198 _ ?side1 ?side2 ?side3 ?side4 A10.out).mono ?_); (case side1 => exact lC <| (Kd.C_below HR1_0.out HB.out)); (case side2 => exact HC1_0.out); (case side3 => exact lC <| (Kd.C_below HR1_1.out HB.out)); (case side4 => exact HC1_1.out); rintro e w42 ⟨rfl, hb⟩; refine ⟨_, rfl, ?_⟩; have n0_ := Aside0.mk (blk_below (g := gb195) (o := .cells #[.slice A0_0 l0_0.length c0_0, .slice A0_1 l0_1.length c0_1, .int .i64 a0_2] 24 (0, 0)) (by exact lK <| BK195.out) hb); have n1_ := Aside0.mk (blk_below (g := gb196) (o := .cells #[.slice A1_0 l1_0.length c1_0, .slice A1_1 l1_1.length c1_1, .int .i64 a1_2] 24 (0, 0)) (by exact lK <| BK196.out) hb); have n2_ := Aside0.mk (below_step (by repeat (first | (with_reducible first | exact HB.out | apply below_alloc | apply pw_below_drewN | apply below_drew1 | refine below_set ?_ GE195.out | refine below_set ?_ GE196.out) | exact HB.out)) hb); clear BK195; clear BK196; clear HB; have BK195 := n0_; have BK196 := n1_; have HB := n2_; clear n0_ n1_ n2_; (try clear hb); (try clear hb2); (try clear hk); (try clear hi)))
            have n0_ := Aside0.mk (blk_drew BK195.out)
            have n1_ := Aside0.mk (blk_drew BK196.out)
            have n2_ := Aside0.mk (below_drew1 HB.out)
            clear BK195
            clear BK196
            clear HB
            have BK195 := n0_
            have BK196 := n1_
            have HB := n2_
            clear n0_ n1_ n2_
            refine start_ (n := 7) (S := fun w' => w'.cell? ⟨gb195, 0, none⟩ = some (.slice A0_0 l0_0.length c0_0) ∧ w'.cell? ⟨gb195, 1, none⟩ = some (.slice A0_1 l0_1.length c0_1) ∧ w'.cell? ⟨gb195, 2, none⟩ = some (.int .i64 a0_2) ∧ w'.cell? ⟨gb196, 0, none⟩ = some (.slice A1_0 l1_0.length c1_0) ∧ w'.cell? ⟨gb196, 1, none⟩ = some (.slice A1_1 l1_1.length c1_1) ∧ w'.cell? ⟨gb196, 2, none⟩ = some (.int .i64 a1_2)) (ds := []) #[false, false, false, false, false, false, false] (by kernel_rfl) rfl rfl ⟨(blk_cell BK195.out 0).trans rfl, (blk_cell BK195.out 1).trans rfl, (blk_cell BK195.out 2).trans rfl, (blk_cell BK196.out 0).trans rfl, (blk_cell BK196.out 1).trans rfl, (blk_cell BK196.out 2).trans rfl⟩ (fun hHeld => ?_)
            generalize w42.drew = w43 at BK195 BK196 HB hHeld ⊢
            refine take_ (i := 0) (N := some 24) (v := ?_) (a' := ?_) #[true, false, false, false, false, false, false] rfl rfl (by kernel_rfl) (fun _ _ _ h => h) (Or.inl ⟨by rfl, ?_⟩) hHeld ?_ ?_
            rotate_left
            · rintro w' ⟨s0, s1, s2, s3, s4, s5⟩
              go_simp
              with_reducible rfl
            rotate_left
            · simp only [Act.put, List.setIfInBounds_toArray, List.set_cons_zero, List.set_cons_succ, i64_w, i32_w]
              rfl
            refine take_ (i := 2) (N := some 26) (v := ?_) (a' := ?_) #[true, false, true, false, false, false, false] rfl rfl (by kernel_rfl) (fun _ _ _ h => h) (Or.inl ⟨by rfl, ?_⟩) hHeld ?_ ?_
            rotate_left
            · rintro w' ⟨s0, s1, s2, s3, s4, s5⟩
              go_simp
              with_reducible rfl
            rotate_left
            · simp only [Act.put, List.setIfInBounds_toArray, List.set_cons_zero, List.set_cons_succ, i64_w, i32_w]
              rfl
            refine join_ (σ := Value × Value × Value × Value × Value × Value × Nat) 1 #[true, true, true, true, true, true, false] (fun s_ => [(25, .agg #[s_.1, s_.2.1, .int .i64 t205]), (27, .agg #[s_.2.2.1, s_.2.2.2.1, .int .i64 t212]), (28, .agg #[s_.2.2.2.2.1, s_.2.2.2.2.2.1, .int .i64 t219]), (6, .pointer (some ⟨s_.2.2.2.2.2.2, 0, none⟩))]) (fun s_ w' => (w'.cell? ⟨gb195, 0, none⟩ = some (.slice A0_0 l0_0.length c0_0) ∧ w'.cell? ⟨gb195, 1, none⟩ = some (.slice A0_1 l0_1.length c0_1) ∧ w'.cell? ⟨gb195, 2, none⟩ = some (.int .i64 a0_2) ∧ w'.cell? ⟨gb196, 0, none⟩ = some (.slice A1_0 l1_0.length c1_0) ∧ w'.cell? ⟨gb196, 1, none⟩ = some (.slice A1_1 l1_1.length c1_1) ∧ w'.cell? ⟨gb196, 2, none⟩ = some (.int .i64 a1_2)) ∧ (Kd.R (Kd.int .i64) 3 w' w.heap.size (fun k_ => some k_ ≠ (s_.2.1 : Value).ownBlock ∧ some k_ ≠ (s_.2.2.1 : Value).ownBlock ∧ some k_ ≠ (s_.2.2.2.1 : Value).ownBlock ∧ some k_ ≠ (s_.2.2.2.2.1 : Value).ownBlock ∧ some k_ ≠ (s_.2.2.2.2.2.1 : Value).ownBlock) s_.1 t199) ∧ (Kd.R (Kd.int .i64) 3 w' w.heap.size (fun k_ => some k_ ≠ (s_.1 : Value).ownBlock ∧ some k_ ≠ (s_.2.2.1 : Value).ownBlock ∧ some k_ ≠ (s_.2.2.2.1 : Value).ownBlock ∧ some k_ ≠ (s_.2.2.2.2.1 : Value).ownBlock ∧ some k_ ≠ (s_.2.2.2.2.2.1 : Value).ownBlock) s_.2.1 t202) ∧ (Kd.R (Kd.int .i64) 3 w' w.heap.size (fun k_ => some k_ ≠ (s_.1 : Value).ownBlock ∧ some k_ ≠ (s_.2.1 : Value).ownBlock ∧ some k_ ≠ (s_.2.2.2.1 : Value).ownBlock ∧ some k_ ≠ (s_.2.2.2.2.1 : Value).ownBlock ∧ some k_ ≠ (s_.2.2.2.2.2.1 : Value).ownBlock) s_.2.2.1 t206) ∧ (Kd.R (Kd.int .i64) 3 w' w.heap.size (fun k_ => some k_ ≠ (s_.1 : Value).ownBlock ∧ some k_ ≠ (s_.2.1 : Value).ownBlock ∧ some k_ ≠ (s_.2.2.1 : Value).ownBlock ∧ some k_ ≠ (s_.2.2.2.2.1 : Value).ownBlock ∧ some k_ ≠ (s_.2.2.2.2.2.1 : Value).ownBlock) s_.2.2.2.1 t209) ∧ (Kd.R (Kd.int .i64) 3 w' w.heap.size (fun k_ => some k_ ≠ (s_.1 : Value).ownBlock ∧ some k_ ≠ (s_.2.1 : Value).ownBlock ∧ some k_ ≠ (s_.2.2.1 : Value).ownBlock ∧ some k_ ≠ (s_.2.2.2.1 : Value).ownBlock ∧ some k_ ≠ (s_.2.2.2.2.2.1 : Value).ownBlock) s_.2.2.2.2.1 t213) ∧ (Kd.R (Kd.int .i64) 3 w' w.heap.size (fun k_ => some k_ ≠ (s_.1 : Value).ownBlock ∧ some k_ ≠ (s_.2.1 : Value).ownBlock ∧ some k_ ≠ (s_.2.2.1 : Value).ownBlock ∧ some k_ ≠ (s_.2.2.2.1 : Value).ownBlock ∧ some k_ ≠ (s_.2.2.2.2.1 : Value).ownBlock) s_.2.2.2.2.2.1 t216) ∧ (w'.heap[gb195]? = some (.cells #[.slice A0_0 l0_0.length c0_0, .slice A0_1 l0_1.length c0_1, .int .i64 a0_2] 24 (0, 0))) ∧ (w'.heap[gb196]? = some (.cells #[.slice A1_0 l1_0.length c1_0, .slice A1_1 l1_1.length c1_1, .int .i64 a1_2] 24 (0, 0))) ∧ (w'.heap[s_.2.2.2.2.2.2]? = some (.cells #[.slice none 0 0, .slice none 0 0, .int .i64 0] 26 (0, 0))) ∧ (w.heap.size ≤ s_.2.2.2.2.2.2) ∧ (w.heap.size ≤ s_.2.2.2.2.2.2) ∧ (gb195 ≠ s_.2.2.2.2.2.2) ∧ (s_.2.2.2.2.2.2 ≠ gb195) ∧ (gb196 ≠ s_.2.2.2.2.2.2) ∧ (s_.2.2.2.2.2.2 ≠ gb196) ∧ (Below w.heap.size w w')) ?_ ?_
            rotate_left
            · intro hCont
              refine two_ (i := 1) (j := 5) (Ni := some 25) (Nj := some 6) #[true, true, true, false, false, false, false] #[true, false, true, false, false, true, false] rfl rfl rfl rfl (by kernel_rfl) (by decide) (by decide) (fun K hK => ?_) (fun K hK => ?_)
              · skip
                refine goes_ Try.func10 (by kernel_rfl) rfl #[.agg #[.slice A0_0 l0_0.length c0_0, .slice A0_1 l0_1.length c0_1, .int .i64 a0_2]] (by rfl) rfl rfl (by (try simp only [List.map_toArray, List.map_cons, List.map_nil]); first | done | rfl | (simp only [List.length_drop, List.length_take]; rfl)) ?_
                with_reducible refine (laws_toFrmForm.calls k _ _ l0_0 _ _ l0_1 a0_2 t199 t202 t205 _ ?side1 ?side2 ?side3 ?side4 A19.out).mono ?_
                (case side1 => exact lC <| (Kd.C_below HR0_0.out HB.out))
                (case side2 => exact HC0_0.out)
                (case side3 => exact lC <| (Kd.C_below HR0_1.out HB.out))
                (case side4 => exact HC0_1.out)
                rintro e w44 ⟨v200, v203, rfl, ho0, ho1, hb⟩
                refine ⟨_, rfl, ?_⟩
                have n0_ := Aside0.mk (Kd.R_lower ho0 (below_size (by repeat (first | (with_reducible first | exact HB.out | apply below_alloc | apply pw_below_drewN | apply below_drew1 | refine below_set ?_ GE195.out | refine below_set ?_ GE196.out) | exact HB.out))))
                have n1_ := Aside0.mk (Kd.R_lower ho1 (below_size (by repeat (first | (with_reducible first | exact HB.out | apply below_alloc | apply pw_below_drewN | apply below_drew1 | refine below_set ?_ GE195.out | refine below_set ?_ GE196.out) | exact HB.out))))
                have n2_ := Aside0.mk (blk_below (g := gb195) (o := .cells #[.slice A0_0 l0_0.length c0_0, .slice A0_1 l0_1.length c0_1, .int .i64 a0_2] 24 (0, 0)) (by exact lK <| BK195.out) hb)
                have n3_ := Aside0.mk (blk_below (g := gb196) (o := .cells #[.slice A1_0 l1_0.length c1_0, .slice A1_1 l1_1.length c1_1, .int .i64 a1_2] 24 (0, 0)) (by exact lK <| BK196.out) hb)
                have n4_ := Aside0.mk (below_step (by repeat (first | (with_reducible first | exact HB.out | apply below_alloc | apply pw_below_drewN | apply below_drew1 | refine below_set ?_ GE195.out | refine below_set ?_ GE196.out) | exact HB.out)) hb)
                clear BK195
                clear BK196
                clear HB
                have HO201 := n0_
                have HO204 := n1_
                have BK195 := n2_
                have BK196 := n3_
                have HB := n4_
                clear n0_ n1_ n2_ n3_ n4_
                (try clear hb)
                (try clear hb2)
                (try clear hk)
                (try clear hi)
                (try clear ho0)
                (try clear ho1)
                refine hK.out _ _ ⟨(blk_cell BK195.out 0).trans rfl, (blk_cell BK195.out 1).trans rfl, (blk_cell BK195.out 2).trans rfl, (blk_cell BK196.out 0).trans rfl, (blk_cell BK196.out 1).trans rfl, (blk_cell BK196.out 2).trans rfl⟩ (fun hHeld => ?_)
                clear hK K
                refine norm_ (a' := ?_) ?_ ?_
                rotate_left
                · show Act.put _ (some 25) _ = _
                  simp only [Act.put, List.setIfInBounds_toArray, List.set_cons_zero, List.set_cons_succ, i64_w, i32_w]
                  rfl
                refine two_ (i := 3) (j := 5) (Ni := some 27) (Nj := some 6) #[true, true, true, true, false, false, false] #[true, true, true, false, false, true, false] rfl rfl rfl rfl (by kernel_rfl) (by decide) (by decide) (fun K hK => ?_) (fun K hK => ?_)
                · skip
                  refine goes_ Try.func10 (by kernel_rfl) rfl #[.agg #[.slice A1_0 l1_0.length c1_0, .slice A1_1 l1_1.length c1_1, .int .i64 a1_2]] (by rfl) rfl rfl (by (try simp only [List.map_toArray, List.map_cons, List.map_nil]); first | done | rfl | (simp only [List.length_drop, List.length_take]; rfl)) ?_
                  with_reducible refine (laws_toFrmForm.calls k _ _ l1_0 _ _ l1_1 a1_2 t206 t209 t212 _ ?side1 ?side2 ?side3 ?side4 A20.out).mono ?_
                  (case side1 => exact lC <| (Kd.C_below HR1_0.out HB.out))
                  (case side2 => exact HC1_0.out)
                  (case side3 => exact lC <| (Kd.C_below HR1_1.out HB.out))
                  (case side4 => exact HC1_1.out)
                  rintro e w45 ⟨v207, v210, rfl, ho0, ho1, hb⟩
                  refine ⟨_, rfl, ?_⟩
                  have n0_ := Aside0.mk (Kd.R_mono (Kd.R_told (Kd.R_told (Kd.R_old (by exact lR <| HO201.out) hb) (Kd.R_base ho0)) (Kd.R_base ho1)) (fun _ h_ => h_.1))
                  have n1_ := Aside0.mk (Kd.R_mono (Kd.R_told (Kd.R_told (Kd.R_old (by exact lR <| HO204.out) hb) (Kd.R_base ho0)) (Kd.R_base ho1)) (fun _ h_ => h_.1))
                  have n2_ := Aside0.mk (Kd.R_lower (Kd.R_new' (Kd.R_new' ho0 (Kd.R_lt (by exact lR <| HO201.out))) (Kd.R_lt (by exact lR <| HO204.out))) (below_size (by repeat (first | (with_reducible first | exact HB.out | apply below_alloc | apply pw_below_drewN | apply below_drew1 | refine below_set ?_ GE195.out | refine below_set ?_ GE196.out) | exact HB.out))))
                  have n3_ := Aside0.mk (Kd.R_lower (Kd.R_new' (Kd.R_new' ho1 (Kd.R_lt (by exact lR <| HO201.out))) (Kd.R_lt (by exact lR <| HO204.out))) (below_size (by repeat (first | (with_reducible first | exact HB.out | apply below_alloc | apply pw_below_drewN | apply below_drew1 | refine below_set ?_ GE195.out | refine below_set ?_ GE196.out) | exact HB.out))))
                  have n4_ := Aside0.mk (blk_below (g := gb195) (o := .cells #[.slice A0_0 l0_0.length c0_0, .slice A0_1 l0_1.length c0_1, .int .i64 a0_2] 24 (0, 0)) (by exact lK <| BK195.out) hb)
                  have n5_ := Aside0.mk (blk_below (g := gb196) (o := .cells #[.slice A1_0 l1_0.length c1_0, .slice A1_1 l1_1.length c1_1, .int .i64 a1_2] 24 (0, 0)) (by exact lK <| BK196.out) hb)
                  have n6_ := Aside0.mk (below_step (by repeat (first | (with_reducible first | exact HB.out | apply below_alloc | apply pw_below_drewN | apply below_drew1 | refine below_set ?_ GE195.out | refine below_set ?_ GE196.out) | exact HB.out)) hb)
                  clear HO201
                  clear HO204
                  clear BK195
                  clear BK196
                  clear HB
                  have HO201 := n0_
                  have HO204 := n1_
                  have HO208 := n2_
                  have HO211 := n3_
                  have BK195 := n4_
                  have BK196 := n5_
                  have HB := n6_
                  clear n0_ n1_ n2_ n3_ n4_ n5_ n6_
                  (try clear hb)
                  (try clear hb2)
                  (try clear hk)
                  (try clear hi)
                  (try clear ho0)
                  (try clear ho1)
                  obtain ⟨Ao46, co46, eo46⟩ := Kd.R_slice HO201.out
                  (first | subst eo46 | (injection eo46 with f1_ f2_ f3_; have f4_ := f1_.symm; have f5_ := f3_.symm; clear f1_ f2_ f3_; subst f4_; subst f5_))
                  obtain ⟨Ao47, co47, eo47⟩ := Kd.R_slice HO204.out
                  (first | subst eo47 | (injection eo47 with f1_ f2_ f3_; have f4_ := f1_.symm; have f5_ := f3_.symm; clear f1_ f2_ f3_; subst f4_; subst f5_))
                  obtain ⟨Ao48, co48, eo48⟩ := Kd.R_slice HO208.out
                  (first | subst eo48 | (injection eo48 with f1_ f2_ f3_; have f4_ := f1_.symm; have f5_ := f3_.symm; clear f1_ f2_ f3_; subst f4_; subst f5_))
                  obtain ⟨Ao49, co49, eo49⟩ := Kd.R_slice HO211.out
                  (first | subst eo49 | (injection eo49 with f1_ f2_ f3_; have f4_ := f1_.symm; have f5_ := f3_.symm; clear f1_ f2_ f3_; subst f4_; subst f5_))
                  refine hK.out _ _ ⟨(blk_cell BK195.out 0).trans rfl, (blk_cell BK195.out 1).trans rfl, (blk_cell BK195.out 2).trans rfl, (blk_cell BK196.out 0).trans rfl, (blk_cell BK196.out 1).trans rfl, (blk_cell BK196.out 2).trans rfl⟩ (fun hHeld => ?_)
                  clear hK K
                  refine norm_ (a' := ?_) ?_ ?_
                  rotate_left
                  · show Act.put _ (some 27) _ = _
                    simp only [Act.put, List.setIfInBounds_toArray, List.set_cons_zero, List.set_cons_succ, i64_w, i32_w]
                    rfl
                  refine two_ (i := 4) (j := 5) (Ni := some 28) (Nj := some 6) #[true, true, true, true, true, false, false] #[true, true, true, true, false, true, false] rfl rfl rfl rfl (by kernel_rfl) (by decide) (by decide) (fun K hK => ?_) (fun K hK => ?_)
                  · skip
                    refine goes_ Try.func9 (by kernel_rfl) rfl #[.agg #[.slice Ao46 t199.length co46, .slice Ao47 t202.length co47, .int .i64 t205], .agg #[.slice Ao48 t206.length co48, .slice Ao49 t209.length co49, .int .i64 t212]] (by rfl) rfl rfl (by (try simp only [List.map_toArray, List.map_cons, List.map_nil]); first | done | rfl | (simp only [List.length_drop, List.length_take]; rfl)) ?_
                    with_reducible refine (spec_FrmAdd.calls k _ _ t199 _ _ t202 t205 _ _ t206 _ _ t209 t212 t213 t216 t219 _ ?side1 ?side2 ?side3 ?side4 ?side5 ?side6 ?side7 ?side8 A21.out).mono ?_
                    (case side1 => exact lC <| (Kd.R_reads' HO201.out).2.2)
                    (case side2 => exact (Kd.R_reads' HO201.out).2.1)
                    (case side3 => exact lC <| (Kd.R_reads' HO204.out).2.2)
                    (case side4 => exact (Kd.R_reads' HO204.out).2.1)
                    (case side5 => exact lC <| (Kd.R_reads' HO208.out).2.2)
                    (case side6 => exact (Kd.R_reads' HO208.out).2.1)
                    (case side7 => exact lC <| (Kd.R_reads' HO211.out).2.2)
                    (case side8 => exact (Kd.R_reads' HO211.out).2.1)
                    rintro e w50 ⟨v214, v217, rfl, ho0, ho1, hb⟩
                    refine ⟨_, rfl, ?_⟩
                    have n0_ := Aside0.mk (Kd.R_mono (Kd.R_told (Kd.R_told (Kd.R_old (by exact lR <| HO201.out) hb) (Kd.R_base ho0)) (Kd.R_base ho1)) (fun _ h_ => h_.1))
                    have n1_ := Aside0.mk (Kd.R_mono (Kd.R_told (Kd.R_told (Kd.R_old (by exact lR <| HO204.out) hb) (Kd.R_base ho0)) (Kd.R_base ho1)) (fun _ h_ => h_.1))
                    have n2_ := Aside0.mk (Kd.R_mono (Kd.R_told (Kd.R_told (Kd.R_old (by exact lR <| HO208.out) hb) (Kd.R_base ho0)) (Kd.R_base ho1)) (fun _ h_ => h_.1))
                    have n3_ := Aside0.mk (Kd.R_mono (Kd.R_told (Kd.R_told (Kd.R_old (by exact lR <| HO211.out) hb) (Kd.R_base ho0)) (Kd.R_base ho1)) (fun _ h_ => h_.1))
                    have n4_ := Aside0.mk (Kd.R_lower (Kd.R_new' (Kd.R_new' (Kd.R_new' (Kd.R_new' ho0 (Kd.R_lt (by exact lR <| HO201.out))) (Kd.R_lt (by exact lR <| HO204.out))) (Kd.R_lt (by exact lR <| HO208.out))) (Kd.R_lt (by exact lR <| HO211.out))) (below_size (by repeat (first | (with_reducible first | exact HB.out | apply below_alloc | apply pw_below_drewN | apply below_drew1 | refine below_set ?_ GE195.out | refine below_set ?_ GE196.out) | exact HB.out))))
                    have n5_ := Aside0.mk (Kd.R_lower (Kd.R_new' (Kd.R_new' (Kd.R_new' (Kd.R_new' ho1 (Kd.R_lt (by exact lR <| HO201.out))) (Kd.R_lt (by exact lR <| HO204.out))) (Kd.R_lt (by exact lR <| HO208.out))) (Kd.R_lt (by exact lR <| HO211.out))) (below_size (by repeat (first | (with_reducible first | exact HB.out | apply below_alloc | apply pw_below_drewN | apply below_drew1 | refine below_set ?_ GE195.out | refine below_set ?_ GE196.out) | exact HB.out))))
                    have n6_ := Aside0.mk (blk_below (g := gb195) (o := .cells #[.slice A0_0 l0_0.length c0_0, .slice A0_1 l0_1.length c0_1, .int .i64 a0_2] 24 (0, 0)) (by exact lK <| BK195.out) hb)
                    have n7_ := Aside0.mk (blk_below (g := gb196) (o := .cells #[.slice A1_0 l1_0.length c1_0, .slice A1_1 l1_1.length c1_1, .int .i64 a1_2] 24 (0, 0)) (by exact lK <| BK196.out) hb)
                    have n8_ := Aside0.mk (below_step (by repeat (first | (with_reducible first | exact HB.out | apply below_alloc | apply pw_below_drewN | apply below_drew1 | refine below_set ?_ GE195.out | refine below_set ?_ GE196.out) | exact HB.out)) hb)
                    clear HO201
                    clear HO204
                    clear HO208
                    clear HO211
                    clear BK195
                    clear BK196
                    clear HB
                    have HO201 := n0_
                    have HO204 := n1_
                    have HO208 := n2_
                    have HO211 := n3_
                    have HO215 := n4_
                    have HO218 := n5_
                    have BK195 := n6_
                    have BK196 := n7_
                    have HB := n8_
                    clear n0_ n1_ n2_ n3_ n4_ n5_ n6_ n7_ n8_
                    (try clear hb)
                    (try clear hb2)
                    (try clear hk)
                    (try clear hi)
                    (try clear ho0)
                    (try clear ho1)
                    refine hK.out _ _ ⟨(blk_cell BK195.out 0).trans rfl, (blk_cell BK195.out 1).trans rfl, (blk_cell BK195.out 2).trans rfl, (blk_cell BK196.out 0).trans rfl, (blk_cell BK196.out 1).trans rfl, (blk_cell BK196.out 2).trans rfl⟩ (fun hHeld => ?_)
                    clear hK K
                    refine norm_ (a' := ?_) ?_ ?_
                    rotate_left
                    · show Act.put _ (some 28) _ = _
                      simp only [Act.put, List.setIfInBounds_toArray, List.set_cons_zero, List.set_cons_succ, i64_w, i32_w]
                      rfl
                    refine one_ (i := 5) (N := some 6) #[true, true, true, true, true, true, false] rfl rfl (by kernel_rfl) (by decide) (fun K hK => ?_)
                    refine box_step ?hg (N := 6) ?hd (cs := #[.slice none 0 0, .slice none 0 0, .int .i64 0]) (t := 26) ?hr ?_; (case hd => rfl); (case hg => rfl); (case hr => first | (go_simp; done) | (go_simp; rfl))
                    intro gb220 hg w51 hbox hb
                    have n0_ := Aside0.mk (Kd.R_below (by exact lR <| HO201.out) hb)
                    have n1_ := Aside0.mk (Kd.R_below (by exact lR <| HO204.out) hb)
                    have n2_ := Aside0.mk (Kd.R_below (by exact lR <| HO208.out) hb)
                    have n3_ := Aside0.mk (Kd.R_below (by exact lR <| HO211.out) hb)
                    have n4_ := Aside0.mk (Kd.R_below (by exact lR <| HO215.out) hb)
                    have n5_ := Aside0.mk (Kd.R_below (by exact lR <| HO218.out) hb)
                    have n6_ := Aside0.mk (blk_below (g := gb195) (o := .cells #[.slice A0_0 l0_0.length c0_0, .slice A0_1 l0_1.length c0_1, .int .i64 a0_2] 24 (0, 0)) (by exact lK <| BK195.out) hb)
                    have n7_ := Aside0.mk (blk_below (g := gb196) (o := .cells #[.slice A1_0 l1_0.length c1_0, .slice A1_1 l1_1.length c1_1, .int .i64 a1_2] 24 (0, 0)) (by exact lK <| BK196.out) hb)
                    have n8_ := Aside0.mk (below_step (by repeat (first | (with_reducible first | exact HB.out | apply below_alloc | apply pw_below_drewN | apply below_drew1 | refine below_set ?_ GE195.out | refine below_set ?_ GE196.out) | exact HB.out)) hb)
                    have n9_ := Aside0.mk (hbox)
                    have n10_ := Aside0.mk ((by rw [hg]; exact (below_size (by repeat (first | (with_reducible first | exact HB.out | apply below_alloc | apply pw_below_drewN | apply below_drew1 | refine below_set ?_ GE195.out | refine below_set ?_ GE196.out) | exact HB.out))) : w.heap.size ≤ gb220))
                    have n11_ := Aside0.mk ((by rw [hg]; exact (below_size (by repeat (first | (with_reducible first | exact HB.out | apply below_alloc | apply pw_below_drewN | apply below_drew1 | refine below_set ?_ GE195.out | refine below_set ?_ GE196.out) | exact HB.out))) : w.heap.size ≤ gb220))
                    have n12_ := Aside0.mk ((neL hg (lK BK195.out) : gb195 ≠ gb220))
                    have n13_ := Aside0.mk ((neG hg (lK BK195.out) : gb220 ≠ gb195))
                    have n14_ := Aside0.mk ((neL hg (lK BK196.out) : gb196 ≠ gb220))
                    have n15_ := Aside0.mk ((neG hg (lK BK196.out) : gb220 ≠ gb196))
                    clear HO201
                    clear HO204
                    clear HO208
                    clear HO211
                    clear HO215
                    clear HO218
                    clear BK195
                    clear BK196
                    clear HB
                    have HO201 := n0_
                    have HO204 := n1_
                    have HO208 := n2_
                    have HO211 := n3_
                    have HO215 := n4_
                    have HO218 := n5_
                    have BK195 := n6_
                    have BK196 := n7_
                    have HB := n8_
                    have BK220 := n9_
                    have GW220 := n10_
                    have GE220 := n11_
                    have NB195_220 := n12_
                    have NB220_195 := n13_
                    have NB196_220 := n14_
                    have NB220_196 := n15_
                    clear n0_ n1_ n2_ n3_ n4_ n5_ n6_ n7_ n8_ n9_ n10_ n11_ n12_ n13_ n14_ n15_
                    clear hb hbox hg
                    refine hK.out _ _ ⟨(blk_cell BK195.out 0).trans rfl, (blk_cell BK195.out 1).trans rfl, (blk_cell BK195.out 2).trans rfl, (blk_cell BK196.out 0).trans rfl, (blk_cell BK196.out 1).trans rfl, (blk_cell BK196.out 2).trans rfl⟩ (fun hHeld => ?_)
                    clear hK K
                    refine norm_ (a' := ?_) ?_ ?_
                    rotate_left
                    · show Act.put _ (some 6) _ = _
                      simp only [Act.put, List.setIfInBounds_toArray, List.set_cons_zero, List.set_cons_succ, i64_w, i32_w]
                      rfl
                    exact norm_ (by simp only [putAll, Act.put, List.setIfInBounds_toArray, List.set_cons_zero, List.set_cons_succ]) (hCont (.slice Ao46 t199.length co46, .slice Ao47 t202.length co47, .slice Ao48 t206.length co48, .slice Ao49 t209.length co49, v214, v217, gb220) _ ⟨hHeld, (by exact lR <| Kd.R_mono HO201.out (fun _ hk => ⟨hk.1.1.1.1, ⟨hk.1.1.1.2, ⟨hk.1.1.2, ⟨hk.1.2, hk.2⟩⟩⟩⟩)), (by exact lR <| Kd.R_mono HO204.out (fun _ hk => ⟨hk.1.1.1.1, ⟨hk.1.1.1.2, ⟨hk.1.1.2, ⟨hk.1.2, hk.2⟩⟩⟩⟩)), (by exact lR <| Kd.R_mono HO208.out (fun _ hk => ⟨hk.1.1.1.2, ⟨hk.1.1.2, ⟨hk.1.1.1.1, ⟨hk.1.2, hk.2⟩⟩⟩⟩)), (by exact lR <| Kd.R_mono HO211.out (fun _ hk => ⟨hk.1.1.1.2, ⟨hk.1.1.2, ⟨hk.1.1.1.1, ⟨hk.1.2, hk.2⟩⟩⟩⟩)), (by exact lR <| Kd.R_mono HO215.out (fun _ hk => ⟨hk.1.1.1.2, ⟨hk.1.1.2, ⟨hk.1.2, ⟨hk.2, hk.1.1.1.1⟩⟩⟩⟩)), (by exact lR <| Kd.R_mono HO218.out (fun _ hk => ⟨hk.1.1.1.2, ⟨hk.1.1.2, ⟨hk.1.2, ⟨hk.2, hk.1.1.1.1⟩⟩⟩⟩)), (by exact lK <| BK195.out), (by exact lK <| BK196.out), (by exact lK <| BK220.out), GW220.out, GE220.out, NB195_220.out, NB220_195.out, NB196_220.out, NB220_196.out, (by repeat (first | (with_reducible first | exact HB.out | apply below_alloc | apply pw_below_drewN | apply below_drew1 | refine below_set ?_ (by first | exact GE195.out | exact GE196.out | exact GE220.out)) | exact HB.out))⟩)
                  · skip
                    refine box_step ?hg (N := 6) ?hd (cs := #[.slice none 0 0, .slice none 0 0, .int .i64 0]) (t := 26) ?hr ?_; (case hd => rfl); (case hg => rfl); (case hr => first | (go_simp; done) | (go_simp; rfl))
                    intro gb220 hg w46 hbox hb
                    have n0_ := Aside0.mk (Kd.R_below (by exact lR <| HO201.out) hb)
                    have n1_ := Aside0.mk (Kd.R_below (by exact lR <| HO204.out) hb)
                    have n2_ := Aside0.mk (Kd.R_below (by exact lR <| HO208.out) hb)
                    have n3_ := Aside0.mk (Kd.R_below (by exact lR <| HO211.out) hb)
                    have n4_ := Aside0.mk (blk_below (g := gb195) (o := .cells #[.slice A0_0 l0_0.length c0_0, .slice A0_1 l0_1.length c0_1, .int .i64 a0_2] 24 (0, 0)) (by exact lK <| BK195.out) hb)
                    have n5_ := Aside0.mk (blk_below (g := gb196) (o := .cells #[.slice A1_0 l1_0.length c1_0, .slice A1_1 l1_1.length c1_1, .int .i64 a1_2] 24 (0, 0)) (by exact lK <| BK196.out) hb)
                    have n6_ := Aside0.mk (below_step (by repeat (first | (with_reducible first | exact HB.out | apply below_alloc | apply pw_below_drewN | apply below_drew1 | refine below_set ?_ GE195.out | refine below_set ?_ GE196.out) | exact HB.out)) hb)
                    have n7_ := Aside0.mk (hbox)
                    have n8_ := Aside0.mk ((by rw [hg]; exact (below_size (by repeat (first | (with_reducible first | exact HB.out | apply below_alloc | apply pw_below_drewN | apply below_drew1 | refine below_set ?_ GE195.out | refine below_set ?_ GE196.out) | exact HB.out))) : w.heap.size ≤ gb220))
                    have n9_ := Aside0.mk ((by rw [hg]; exact (below_size (by repeat (first | (with_reducible first | exact HB.out | apply below_alloc | apply pw_below_drewN | apply below_drew1 | refine below_set ?_ GE195.out | refine below_set ?_ GE196.out) | exact HB.out))) : w.heap.size ≤ gb220))
                    have n10_ := Aside0.mk ((neL hg (lK BK195.out) : gb195 ≠ gb220))
                    have n11_ := Aside0.mk ((neG hg (lK BK195.out) : gb220 ≠ gb195))
                    have n12_ := Aside0.mk ((neL hg (lK BK196.out) : gb196 ≠ gb220))
                    have n13_ := Aside0.mk ((neG hg (lK BK196.out) : gb220 ≠ gb196))
                    clear HO201
                    clear HO204
                    clear HO208
                    clear HO211
                    clear BK195
                    clear BK196
                    clear HB
                    have HO201 := n0_
                    have HO204 := n1_
                    have HO208 := n2_
                    have HO211 := n3_
                    have BK195 := n4_
                    have BK196 := n5_
                    have HB := n6_
                    have BK220 := n7_
                    have GW220 := n8_
                    have GE220 := n9_
                    have NB195_220 := n10_
                    have NB220_195 := n11_
                    have NB196_220 := n12_
                    have NB220_196 := n13_
                    clear n0_ n1_ n2_ n3_ n4_ n5_ n6_ n7_ n8_ n9_ n10_ n11_ n12_ n13_
                    clear hb hbox hg
                    obtain ⟨Ao47, co47, eo47⟩ := Kd.R_slice HO201.out
                    (first | subst eo47 | (injection eo47 with f1_ f2_ f3_; have f4_ := f1_.symm; have f5_ := f3_.symm; clear f1_ f2_ f3_; subst f4_; subst f5_))
                    obtain ⟨Ao48, co48, eo48⟩ := Kd.R_slice HO204.out
                    (first | subst eo48 | (injection eo48 with f1_ f2_ f3_; have f4_ := f1_.symm; have f5_ := f3_.symm; clear f1_ f2_ f3_; subst f4_; subst f5_))
                    obtain ⟨Ao49, co49, eo49⟩ := Kd.R_slice HO208.out
                    (first | subst eo49 | (injection eo49 with f1_ f2_ f3_; have f4_ := f1_.symm; have f5_ := f3_.symm; clear f1_ f2_ f3_; subst f4_; subst f5_))
                    obtain ⟨Ao50, co50, eo50⟩ := Kd.R_slice HO211.out
                    (first | subst eo50 | (injection eo50 with f1_ f2_ f3_; have f4_ := f1_.symm; have f5_ := f3_.symm; clear f1_ f2_ f3_; subst f4_; subst f5_))
                    refine hK.out _ _ ⟨(blk_cell BK195.out 0).trans rfl, (blk_cell BK195.out 1).trans rfl, (blk_cell BK195.out 2).trans rfl, (blk_cell BK196.out 0).trans rfl, (blk_cell BK196.out 1).trans rfl, (blk_cell BK196.out 2).trans rfl⟩ (fun hHeld => ?_)
                    clear hK K
                    refine norm_ (a' := ?_) ?_ ?_
                    rotate_left
                    · show Act.put _ (some 6) _ = _
                      simp only [Act.put, List.setIfInBounds_toArray, List.set_cons_zero, List.set_cons_succ, i64_w, i32_w]
                      rfl
                    refine one_ (i := 4) (N := some 28) #[true, true, true, true, true, true, false] rfl rfl (by kernel_rfl) (by decide) (fun K hK => ?_)
                    refine goes_ Try.func9 (by kernel_rfl) rfl #[.agg #[.slice Ao47 t199.length co47, .slice Ao48 t202.length co48, .int .i64 t205], .agg #[.slice Ao49 t206.length co49, .slice Ao50 t209.length co50, .int .i64 t212]] (by rfl) rfl rfl (by (try simp only [List.map_toArray, List.map_cons, List.map_nil]); first | done | rfl | (simp only [List.length_drop, List.length_take]; rfl)) ?_
                    with_reducible refine (spec_FrmAdd.calls k _ _ t199 _ _ t202 t205 _ _ t206 _ _ t209 t212 t213 t216 t219 _ ?side1 ?side2 ?side3 ?side4 ?side5 ?side6 ?side7 ?side8 A21.out).mono ?_
                    (case side1 => exact lC <| (Kd.R_reads' HO201.out).2.2)
                    (case side2 => exact (Kd.R_reads' HO201.out).2.1)
                    (case side3 => exact lC <| (Kd.R_reads' HO204.out).2.2)
                    (case side4 => exact (Kd.R_reads' HO204.out).2.1)
                    (case side5 => exact lC <| (Kd.R_reads' HO208.out).2.2)
                    (case side6 => exact (Kd.R_reads' HO208.out).2.1)
                    (case side7 => exact lC <| (Kd.R_reads' HO211.out).2.2)
                    (case side8 => exact (Kd.R_reads' HO211.out).2.1)
                    rintro e w51 ⟨v214, v217, rfl, ho0, ho1, hb⟩
                    refine ⟨_, rfl, ?_⟩
                    have n0_ := Aside0.mk (Kd.R_mono (Kd.R_told (Kd.R_told (Kd.R_old (by exact lR <| HO201.out) hb) (Kd.R_base ho0)) (Kd.R_base ho1)) (fun _ h_ => h_.1))
                    have n1_ := Aside0.mk (Kd.R_mono (Kd.R_told (Kd.R_told (Kd.R_old (by exact lR <| HO204.out) hb) (Kd.R_base ho0)) (Kd.R_base ho1)) (fun _ h_ => h_.1))
                    have n2_ := Aside0.mk (Kd.R_mono (Kd.R_told (Kd.R_told (Kd.R_old (by exact lR <| HO208.out) hb) (Kd.R_base ho0)) (Kd.R_base ho1)) (fun _ h_ => h_.1))
                    have n3_ := Aside0.mk (Kd.R_mono (Kd.R_told (Kd.R_told (Kd.R_old (by exact lR <| HO211.out) hb) (Kd.R_base ho0)) (Kd.R_base ho1)) (fun _ h_ => h_.1))
                    have n4_ := Aside0.mk (Kd.R_lower (Kd.R_new' (Kd.R_new' (Kd.R_new' (Kd.R_new' ho0 (Kd.R_lt (by exact lR <| HO201.out))) (Kd.R_lt (by exact lR <| HO204.out))) (Kd.R_lt (by exact lR <| HO208.out))) (Kd.R_lt (by exact lR <| HO211.out))) (below_size (by repeat (first | (with_reducible first | exact HB.out | apply below_alloc | apply pw_below_drewN | apply below_drew1 | refine below_set ?_ (by first | exact GE195.out | exact GE196.out | exact GE220.out)) | exact HB.out))))
                    have n5_ := Aside0.mk (Kd.R_lower (Kd.R_new' (Kd.R_new' (Kd.R_new' (Kd.R_new' ho1 (Kd.R_lt (by exact lR <| HO201.out))) (Kd.R_lt (by exact lR <| HO204.out))) (Kd.R_lt (by exact lR <| HO208.out))) (Kd.R_lt (by exact lR <| HO211.out))) (below_size (by repeat (first | (with_reducible first | exact HB.out | apply below_alloc | apply pw_below_drewN | apply below_drew1 | refine below_set ?_ (by first | exact GE195.out | exact GE196.out | exact GE220.out)) | exact HB.out))))
                    have n6_ := Aside0.mk (blk_below (g := gb195) (o := .cells #[.slice A0_0 l0_0.length c0_0, .slice A0_1 l0_1.length c0_1, .int .i64 a0_2] 24 (0, 0)) (by exact lK <| BK195.out) hb)
                    have n7_ := Aside0.mk (blk_below (g := gb196) (o := .cells #[.slice A1_0 l1_0.length c1_0, .slice A1_1 l1_1.length c1_1, .int .i64 a1_2] 24 (0, 0)) (by exact lK <| BK196.out) hb)
                    have n8_ := Aside0.mk (blk_below (g := gb220) (o := .cells #[.slice none 0 0, .slice none 0 0, .int .i64 0] 26 (0, 0)) (by exact lK <| BK220.out) hb)
                    have n9_ := Aside0.mk (below_step (by repeat (first | (with_reducible first | exact HB.out | apply below_alloc | apply pw_below_drewN | apply below_drew1 | refine below_set ?_ (by first | exact GE195.out | exact GE196.out | exact GE220.out)) | exact HB.out)) hb)
                    clear HO201
                    clear HO204
                    clear HO208
                    clear HO211
                    clear BK195
                    clear BK196
                    clear BK220
                    clear HB
                    have HO201 := n0_
                    have HO204 := n1_
                    have HO208 := n2_
                    have HO211 := n3_
                    have HO215 := n4_
                    have HO218 := n5_
                    have BK195 := n6_
                    have BK196 := n7_
                    have BK220 := n8_
                    have HB := n9_
                    clear n0_ n1_ n2_ n3_ n4_ n5_ n6_ n7_ n8_ n9_
                    (try clear hb)
                    (try clear hb2)
                    (try clear hk)
                    (try clear hi)
                    (try clear ho0)
                    (try clear ho1)
                    refine hK.out _ _ ⟨(blk_cell BK195.out 0).trans rfl, (blk_cell BK195.out 1).trans rfl, (blk_cell BK195.out 2).trans rfl, (blk_cell BK196.out 0).trans rfl, (blk_cell BK196.out 1).trans rfl, (blk_cell BK196.out 2).trans rfl⟩ (fun hHeld => ?_)
                    clear hK K
                    refine norm_ (a' := ?_) ?_ ?_
                    rotate_left
                    · show Act.put _ (some 28) _ = _
                      simp only [Act.put, List.setIfInBounds_toArray, List.set_cons_zero, List.set_cons_succ, i64_w, i32_w]
                      rfl
                    exact norm_ (by simp only [putAll, Act.put, List.setIfInBounds_toArray, List.set_cons_zero, List.set_cons_succ]) (hCont (.slice Ao47 t199.length co47, .slice Ao48 t202.length co48, .slice Ao49 t206.length co49, .slice Ao50 t209.length co50, v214, v217, gb220) _ ⟨hHeld, (by exact lR <| Kd.R_mono HO201.out (fun _ hk => ⟨hk.1.1.1.1, ⟨hk.1.1.1.2, ⟨hk.1.1.2, ⟨hk.1.2, hk.2⟩⟩⟩⟩)), (by exact lR <| Kd.R_mono HO204.out (fun _ hk => ⟨hk.1.1.1.1, ⟨hk.1.1.1.2, ⟨hk.1.1.2, ⟨hk.1.2, hk.2⟩⟩⟩⟩)), (by exact lR <| Kd.R_mono HO208.out (fun _ hk => ⟨hk.1.1.1.2, ⟨hk.1.1.2, ⟨hk.1.1.1.1, ⟨hk.1.2, hk.2⟩⟩⟩⟩)), (by exact lR <| Kd.R_mono HO211.out (fun _ hk => ⟨hk.1.1.1.2, ⟨hk.1.1.2, ⟨hk.1.1.1.1, ⟨hk.1.2, hk.2⟩⟩⟩⟩)), (by exact lR <| Kd.R_mono HO215.out (fun _ hk => ⟨hk.1.1.1.2, ⟨hk.1.1.2, ⟨hk.1.2, ⟨hk.2, hk.1.1.1.1⟩⟩⟩⟩)), (by exact lR <| Kd.R_mono HO218.out (fun _ hk => ⟨hk.1.1.1.2, ⟨hk.1.1.2, ⟨hk.1.2, ⟨hk.2, hk.1.1.1.1⟩⟩⟩⟩)), (by exact lK <| BK195.out), (by exact lK <| BK196.out), (by exact lK <| BK220.out), GW220.out, GE220.out, NB195_220.out, NB220_195.out, NB196_220.out, NB220_196.out, (by repeat (first | (with_reducible first | exact HB.out | apply below_alloc | apply pw_below_drewN | apply below_drew1 | refine below_set ?_ (by first | exact GE195.out | exact GE196.out | exact GE220.out)) | exact HB.out))⟩)
                · skip
                  refine box_step ?hg (N := 6) ?hd (cs := #[.slice none 0 0, .slice none 0 0, .int .i64 0]) (t := 26) ?hr ?_; (case hd => rfl); (case hg => rfl); (case hr => first | (go_simp; done) | (go_simp; rfl))
                  intro gb220 hg w45 hbox hb
                  have n0_ := Aside0.mk (Kd.R_below (by exact lR <| HO201.out) hb)
                  have n1_ := Aside0.mk (Kd.R_below (by exact lR <| HO204.out) hb)
                  have n2_ := Aside0.mk (blk_below (g := gb195) (o := .cells #[.slice A0_0 l0_0.length c0_0, .slice A0_1 l0_1.length c0_1, .int .i64 a0_2] 24 (0, 0)) (by exact lK <| BK195.out) hb)
                  have n3_ := Aside0.mk (blk_below (g := gb196) (o := .cells #[.slice A1_0 l1_0.length c1_0, .slice A1_1 l1_1.length c1_1, .int .i64 a1_2] 24 (0, 0)) (by exact lK <| BK196.out) hb)
                  have n4_ := Aside0.mk (below_step (by repeat (first | (with_reducible first | exact HB.out | apply below_alloc | apply pw_below_drewN | apply below_drew1 | refine below_set ?_ GE195.out | refine below_set ?_ GE196.out) | exact HB.out)) hb)
                  have n5_ := Aside0.mk (hbox)
                  have n6_ := Aside0.mk ((by rw [hg]; exact (below_size (by repeat (first | (with_reducible first | exact HB.out | apply below_alloc | apply pw_below_drewN | apply below_drew1 | refine below_set ?_ GE195.out | refine below_set ?_ GE196.out) | exact HB.out))) : w.heap.size ≤ gb220))
                  have n7_ := Aside0.mk ((by rw [hg]; exact (below_size (by repeat (first | (with_reducible first | exact HB.out | apply below_alloc | apply pw_below_drewN | apply below_drew1 | refine below_set ?_ GE195.out | refine below_set ?_ GE196.out) | exact HB.out))) : w.heap.size ≤ gb220))
                  have n8_ := Aside0.mk ((neL hg (lK BK195.out) : gb195 ≠ gb220))
                  have n9_ := Aside0.mk ((neG hg (lK BK195.out) : gb220 ≠ gb195))
                  have n10_ := Aside0.mk ((neL hg (lK BK196.out) : gb196 ≠ gb220))
                  have n11_ := Aside0.mk ((neG hg (lK BK196.out) : gb220 ≠ gb196))
                  clear HO201
                  clear HO204
                  clear BK195
                  clear BK196
                  clear HB
                  have HO201 := n0_
                  have HO204 := n1_
                  have BK195 := n2_
                  have BK196 := n3_
                  have HB := n4_
                  have BK220 := n5_
                  have GW220 := n6_
                  have GE220 := n7_
                  have NB195_220 := n8_
                  have NB220_195 := n9_
                  have NB196_220 := n10_
                  have NB220_196 := n11_
                  clear n0_ n1_ n2_ n3_ n4_ n5_ n6_ n7_ n8_ n9_ n10_ n11_
                  clear hb hbox hg
                  refine hK.out _ _ ⟨(blk_cell BK195.out 0).trans rfl, (blk_cell BK195.out 1).trans rfl, (blk_cell BK195.out 2).trans rfl, (blk_cell BK196.out 0).trans rfl, (blk_cell BK196.out 1).trans rfl, (blk_cell BK196.out 2).trans rfl⟩ (fun hHeld => ?_)
                  clear hK K
                  refine norm_ (a' := ?_) ?_ ?_
                  rotate_left
                  · show Act.put _ (some 6) _ = _
                    simp only [Act.put, List.setIfInBounds_toArray, List.set_cons_zero, List.set_cons_succ, i64_w, i32_w]
                    rfl
                  refine one_ (i := 3) (N := some 27) #[true, true, true, true, false, true, false] rfl rfl (by kernel_rfl) (by decide) (fun K hK => ?_)
                  refine goes_ Try.func10 (by kernel_rfl) rfl #[.agg #[.slice A1_0 l1_0.length c1_0, .slice A1_1 l1_1.length c1_1, .int .i64 a1_2]] (by rfl) rfl rfl (by (try simp only [List.map_toArray, List.map_cons, List.map_nil]); first | done | rfl | (simp only [List.length_drop, List.length_take]; rfl)) ?_
                  with_reducible refine (laws_toFrmForm.calls k _ _ l1_0 _ _ l1_1 a1_2 t206 t209 t212 _ ?side1 ?side2 ?side3 ?side4 A20.out).mono ?_
                  (case side1 => exact lC <| (Kd.C_below HR1_0.out HB.out))
                  (case side2 => exact HC1_0.out)
                  (case side3 => exact lC <| (Kd.C_below HR1_1.out HB.out))
                  (case side4 => exact HC1_1.out)
                  rintro e w46 ⟨v207, v210, rfl, ho0, ho1, hb⟩
                  refine ⟨_, rfl, ?_⟩
                  have n0_ := Aside0.mk (Kd.R_mono (Kd.R_told (Kd.R_told (Kd.R_old (by exact lR <| HO201.out) hb) (Kd.R_base ho0)) (Kd.R_base ho1)) (fun _ h_ => h_.1))
                  have n1_ := Aside0.mk (Kd.R_mono (Kd.R_told (Kd.R_told (Kd.R_old (by exact lR <| HO204.out) hb) (Kd.R_base ho0)) (Kd.R_base ho1)) (fun _ h_ => h_.1))
                  have n2_ := Aside0.mk (Kd.R_lower (Kd.R_new' (Kd.R_new' ho0 (Kd.R_lt (by exact lR <| HO201.out))) (Kd.R_lt (by exact lR <| HO204.out))) (below_size (by repeat (first | (with_reducible first | exact HB.out | apply below_alloc | apply pw_below_drewN | apply below_drew1 | refine below_set ?_ (by first | exact GE195.out | exact GE196.out | exact GE220.out)) | exact HB.out))))
                  have n3_ := Aside0.mk (Kd.R_lower (Kd.R_new' (Kd.R_new' ho1 (Kd.R_lt (by exact lR <| HO201.out))) (Kd.R_lt (by exact lR <| HO204.out))) (below_size (by repeat (first | (with_reducible first | exact HB.out | apply below_alloc | apply pw_below_drewN | apply below_drew1 | refine below_set ?_ (by first | exact GE195.out | exact GE196.out | exact GE220.out)) | exact HB.out))))
                  have n4_ := Aside0.mk (blk_below (g := gb195) (o := .cells #[.slice A0_0 l0_0.length c0_0, .slice A0_1 l0_1.length c0_1, .int .i64 a0_2] 24 (0, 0)) (by exact lK <| BK195.out) hb)
                  have n5_ := Aside0.mk (blk_below (g := gb196) (o := .cells #[.slice A1_0 l1_0.length c1_0, .slice A1_1 l1_1.length c1_1, .int .i64 a1_2] 24 (0, 0)) (by exact lK <| BK196.out) hb)
                  have n6_ := Aside0.mk (blk_below (g := gb220) (o := .cells #[.slice none 0 0, .slice none 0 0, .int .i64 0] 26 (0, 0)) (by exact lK <| BK220.out) hb)
                  have n7_ := Aside0.mk (below_step (by repeat (first | (with_reducible first | exact HB.out | apply below_alloc | apply pw_below_drewN | apply below_drew1 | refine below_set ?_ (by first | exact GE195.out | exact GE196.out | exact GE220.out)) | exact HB.out)) hb)
                  clear HO201
                  clear HO204
                  clear BK195
                  clear BK196
                  clear BK220
                  clear HB
                  have HO201 := n0_
                  have HO204 := n1_
                  have HO208 := n2_
                  have HO211 := n3_
                  have BK195 := n4_
                  have BK196 := n5_
                  have BK220 := n6_
                  have HB := n7_
                  clear n0_ n1_ n2_ n3_ n4_ n5_ n6_ n7_
                  (try clear hb)
                  (try clear hb2)
                  (try clear hk)
                  (try clear hi)
                  (try clear ho0)
                  (try clear ho1)
                  obtain ⟨Ao47, co47, eo47⟩ := Kd.R_slice HO201.out
                  (first | subst eo47 | (injection eo47 with f1_ f2_ f3_; have f4_ := f1_.symm; have f5_ := f3_.symm; clear f1_ f2_ f3_; subst f4_; subst f5_))
                  obtain ⟨Ao48, co48, eo48⟩ := Kd.R_slice HO204.out
                  (first | subst eo48 | (injection eo48 with f1_ f2_ f3_; have f4_ := f1_.symm; have f5_ := f3_.symm; clear f1_ f2_ f3_; subst f4_; subst f5_))
                  obtain ⟨Ao49, co49, eo49⟩ := Kd.R_slice HO208.out
                  (first | subst eo49 | (injection eo49 with f1_ f2_ f3_; have f4_ := f1_.symm; have f5_ := f3_.symm; clear f1_ f2_ f3_; subst f4_; subst f5_))
                  obtain ⟨Ao50, co50, eo50⟩ := Kd.R_slice HO211.out
                  (first | subst eo50 | (injection eo50 with f1_ f2_ f3_; have f4_ := f1_.symm; have f5_ := f3_.symm; clear f1_ f2_ f3_; subst f4_; subst f5_))
                  refine hK.out _ _ ⟨(blk_cell BK195.out 0).trans rfl, (blk_cell BK195.out 1).trans rfl, (blk_cell BK195.out 2).trans rfl, (blk_cell BK196.out 0).trans rfl, (blk_cell BK196.out 1).trans rfl, (blk_cell BK196.out 2).trans rfl⟩ (fun hHeld => ?_)
                  clear hK K
                  refine norm_ (a' := ?_) ?_ ?_
                  rotate_left
                  · show Act.put _ (some 27) _ = _
                    simp only [Act.put, List.setIfInBounds_toArray, List.set_cons_zero, List.set_cons_succ, i64_w, i32_w]
                    rfl
                  refine one_ (i := 4) (N := some 28) #[true, true, true, true, true, true, false] rfl rfl (by kernel_rfl) (by decide) (fun K hK => ?_)
                  refine goes_ Try.func9 (by kernel_rfl) rfl #[.agg #[.slice Ao47 t199.length co47, .slice Ao48 t202.length co48, .int .i64 t205], .agg #[.slice Ao49 t206.length co49, .slice Ao50 t209.length co50, .int .i64 t212]] (by rfl) rfl rfl (by (try simp only [List.map_toArray, List.map_cons, List.map_nil]); first | done | rfl | (simp only [List.length_drop, List.length_take]; rfl)) ?_
                  with_reducible refine (spec_FrmAdd.calls k _ _ t199 _ _ t202 t205 _ _ t206 _ _ t209 t212 t213 t216 t219 _ ?side1 ?side2 ?side3 ?side4 ?side5 ?side6 ?side7 ?side8 A21.out).mono ?_
                  (case side1 => exact lC <| (Kd.R_reads' HO201.out).2.2)
                  (case side2 => exact (Kd.R_reads' HO201.out).2.1)
                  (case side3 => exact lC <| (Kd.R_reads' HO204.out).2.2)
                  (case side4 => exact (Kd.R_reads' HO204.out).2.1)
                  (case side5 => exact lC <| (Kd.R_reads' HO208.out).2.2)
                  (case side6 => exact (Kd.R_reads' HO208.out).2.1)
                  (case side7 => exact lC <| (Kd.R_reads' HO211.out).2.2)
                  (case side8 => exact (Kd.R_reads' HO211.out).2.1)
                  rintro e w51 ⟨v214, v217, rfl, ho0, ho1, hb⟩
                  refine ⟨_, rfl, ?_⟩
                  have n0_ := Aside0.mk (Kd.R_mono (Kd.R_told (Kd.R_told (Kd.R_old (by exact lR <| HO201.out) hb) (Kd.R_base ho0)) (Kd.R_base ho1)) (fun _ h_ => h_.1))
                  have n1_ := Aside0.mk (Kd.R_mono (Kd.R_told (Kd.R_told (Kd.R_old (by exact lR <| HO204.out) hb) (Kd.R_base ho0)) (Kd.R_base ho1)) (fun _ h_ => h_.1))
                  have n2_ := Aside0.mk (Kd.R_mono (Kd.R_told (Kd.R_told (Kd.R_old (by exact lR <| HO208.out) hb) (Kd.R_base ho0)) (Kd.R_base ho1)) (fun _ h_ => h_.1))
                  have n3_ := Aside0.mk (Kd.R_mono (Kd.R_told (Kd.R_told (Kd.R_old (by exact lR <| HO211.out) hb) (Kd.R_base ho0)) (Kd.R_base ho1)) (fun _ h_ => h_.1))
                  have n4_ := Aside0.mk (Kd.R_lower (Kd.R_new' (Kd.R_new' (Kd.R_new' (Kd.R_new' ho0 (Kd.R_lt (by exact lR <| HO201.out))) (Kd.R_lt (by exact lR <| HO204.out))) (Kd.R_lt (by exact lR <| HO208.out))) (Kd.R_lt (by exact lR <| HO211.out))) (below_size (by repeat (first | (with_reducible first | exact HB.out | apply below_alloc | apply pw_below_drewN | apply below_drew1 | refine below_set ?_ (by first | exact GE195.out | exact GE196.out | exact GE220.out)) | exact HB.out))))
                  have n5_ := Aside0.mk (Kd.R_lower (Kd.R_new' (Kd.R_new' (Kd.R_new' (Kd.R_new' ho1 (Kd.R_lt (by exact lR <| HO201.out))) (Kd.R_lt (by exact lR <| HO204.out))) (Kd.R_lt (by exact lR <| HO208.out))) (Kd.R_lt (by exact lR <| HO211.out))) (below_size (by repeat (first | (with_reducible first | exact HB.out | apply below_alloc | apply pw_below_drewN | apply below_drew1 | refine below_set ?_ (by first | exact GE195.out | exact GE196.out | exact GE220.out)) | exact HB.out))))
                  have n6_ := Aside0.mk (blk_below (g := gb195) (o := .cells #[.slice A0_0 l0_0.length c0_0, .slice A0_1 l0_1.length c0_1, .int .i64 a0_2] 24 (0, 0)) (by exact lK <| BK195.out) hb)
                  have n7_ := Aside0.mk (blk_below (g := gb196) (o := .cells #[.slice A1_0 l1_0.length c1_0, .slice A1_1 l1_1.length c1_1, .int .i64 a1_2] 24 (0, 0)) (by exact lK <| BK196.out) hb)
                  have n8_ := Aside0.mk (blk_below (g := gb220) (o := .cells #[.slice none 0 0, .slice none 0 0, .int .i64 0] 26 (0, 0)) (by exact lK <| BK220.out) hb)
                  have n9_ := Aside0.mk (below_step (by repeat (first | (with_reducible first | exact HB.out | apply below_alloc | apply pw_below_drewN | apply below_drew1 | refine below_set ?_ (by first | exact GE195.out | exact GE196.out | exact GE220.out)) | exact HB.out)) hb)
                  clear HO201
                  clear HO204
                  clear HO208
                  clear HO211
                  clear BK195
                  clear BK196
                  clear BK220
                  clear HB
                  have HO201 := n0_
                  have HO204 := n1_
                  have HO208 := n2_
                  have HO211 := n3_
                  have HO215 := n4_
                  have HO218 := n5_
                  have BK195 := n6_
                  have BK196 := n7_
                  have BK220 := n8_
                  have HB := n9_
                  clear n0_ n1_ n2_ n3_ n4_ n5_ n6_ n7_ n8_ n9_
                  (try clear hb)
                  (try clear hb2)
                  (try clear hk)
                  (try clear hi)
                  (try clear ho0)
                  (try clear ho1)
                  refine hK.out _ _ ⟨(blk_cell BK195.out 0).trans rfl, (blk_cell BK195.out 1).trans rfl, (blk_cell BK195.out 2).trans rfl, (blk_cell BK196.out 0).trans rfl, (blk_cell BK196.out 1).trans rfl, (blk_cell BK196.out 2).trans rfl⟩ (fun hHeld => ?_)
                  clear hK K
                  refine norm_ (a' := ?_) ?_ ?_
                  rotate_left
                  · show Act.put _ (some 28) _ = _
                    simp only [Act.put, List.setIfInBounds_toArray, List.set_cons_zero, List.set_cons_succ, i64_w, i32_w]
                    rfl
                  exact norm_ (by simp only [putAll, Act.put, List.setIfInBounds_toArray, List.set_cons_zero, List.set_cons_succ]) (hCont (.slice Ao47 t199.length co47, .slice Ao48 t202.length co48, .slice Ao49 t206.length co49, .slice Ao50 t209.length co50, v214, v217, gb220) _ ⟨hHeld, (by exact lR <| Kd.R_mono HO201.out (fun _ hk => ⟨hk.1.1.1.1, ⟨hk.1.1.1.2, ⟨hk.1.1.2, ⟨hk.1.2, hk.2⟩⟩⟩⟩)), (by exact lR <| Kd.R_mono HO204.out (fun _ hk => ⟨hk.1.1.1.1, ⟨hk.1.1.1.2, ⟨hk.1.1.2, ⟨hk.1.2, hk.2⟩⟩⟩⟩)), (by exact lR <| Kd.R_mono HO208.out (fun _ hk => ⟨hk.1.1.1.2, ⟨hk.1.1.2, ⟨hk.1.1.1.1, ⟨hk.1.2, hk.2⟩⟩⟩⟩)), (by exact lR <| Kd.R_mono HO211.out (fun _ hk => ⟨hk.1.1.1.2, ⟨hk.1.1.2, ⟨hk.1.1.1.1, ⟨hk.1.2, hk.2⟩⟩⟩⟩)), (by exact lR <| Kd.R_mono HO215.out (fun _ hk => ⟨hk.1.1.1.2, ⟨hk.1.1.2, ⟨hk.1.2, ⟨hk.2, hk.1.1.1.1⟩⟩⟩⟩)), (by exact lR <| Kd.R_mono HO218.out (fun _ hk => ⟨hk.1.1.1.2, ⟨hk.1.1.2, ⟨hk.1.2, ⟨hk.2, hk.1.1.1.1⟩⟩⟩⟩)), (by exact lK <| BK195.out), (by exact lK <| BK196.out), (by exact lK <| BK220.out), GW220.out, GE220.out, NB195_220.out, NB220_195.out, NB196_220.out, NB220_196.out, (by repeat (first | (with_reducible first | exact HB.out | apply below_alloc | apply pw_below_drewN | apply below_drew1 | refine below_set ?_ (by first | exact GE195.out | exact GE196.out | exact GE220.out)) | exact HB.out))⟩)
              · skip
                refine box_step ?hg (N := 6) ?hd (cs := #[.slice none 0 0, .slice none 0 0, .int .i64 0]) (t := 26) ?hr ?_; (case hd => rfl); (case hg => rfl); (case hr => first | (go_simp; done) | (go_simp; rfl))
                intro gb220 hg w44 hbox hb
                have n0_ := Aside0.mk (blk_below (g := gb195) (o := .cells #[.slice A0_0 l0_0.length c0_0, .slice A0_1 l0_1.length c0_1, .int .i64 a0_2] 24 (0, 0)) (by exact lK <| BK195.out) hb)
                have n1_ := Aside0.mk (blk_below (g := gb196) (o := .cells #[.slice A1_0 l1_0.length c1_0, .slice A1_1 l1_1.length c1_1, .int .i64 a1_2] 24 (0, 0)) (by exact lK <| BK196.out) hb)
                have n2_ := Aside0.mk (below_step (by repeat (first | (with_reducible first | exact HB.out | apply below_alloc | apply pw_below_drewN | apply below_drew1 | refine below_set ?_ GE195.out | refine below_set ?_ GE196.out) | exact HB.out)) hb)
                have n3_ := Aside0.mk (hbox)
                have n4_ := Aside0.mk ((by rw [hg]; exact (below_size (by repeat (first | (with_reducible first | exact HB.out | apply below_alloc | apply pw_below_drewN | apply below_drew1 | refine below_set ?_ GE195.out | refine below_set ?_ GE196.out) | exact HB.out))) : w.heap.size ≤ gb220))
                have n5_ := Aside0.mk ((by rw [hg]; exact (below_size (by repeat (first | (with_reducible first | exact HB.out | apply below_alloc | apply pw_below_drewN | apply below_drew1 | refine below_set ?_ GE195.out | refine below_set ?_ GE196.out) | exact HB.out))) : w.heap.size ≤ gb220))
                have n6_ := Aside0.mk ((neL hg (lK BK195.out) : gb195 ≠ gb220))
                have n7_ := Aside0.mk ((neG hg (lK BK195.out) : gb220 ≠ gb195))
                have n8_ := Aside0.mk ((neL hg (lK BK196.out) : gb196 ≠ gb220))
                have n9_ := Aside0.mk ((neG hg (lK BK196.out) : gb220 ≠ gb196))
                clear BK195
                clear BK196
                clear HB
                have BK195 := n0_
                have BK196 := n1_
                have HB := n2_
                have BK220 := n3_
                have GW220 := n4_
                have GE220 := n5_
                have NB195_220 := n6_
                have NB220_195 := n7_
                have NB196_220 := n8_
                have NB220_196 := n9_
                clear n0_ n1_ n2_ n3_ n4_ n5_ n6_ n7_ n8_ n9_
                clear hb hbox hg
                refine hK.out _ _ ⟨(blk_cell BK195.out 0).trans rfl, (blk_cell BK195.out 1).trans rfl, (blk_cell BK195.out 2).trans rfl, (blk_cell BK196.out 0).trans rfl, (blk_cell BK196.out 1).trans rfl, (blk_cell BK196.out 2).trans rfl⟩ (fun hHeld => ?_)
                clear hK K
                refine norm_ (a' := ?_) ?_ ?_
                rotate_left
                · show Act.put _ (some 6) _ = _
                  simp only [Act.put, List.setIfInBounds_toArray, List.set_cons_zero, List.set_cons_succ, i64_w, i32_w]
                  rfl
                refine one_ (i := 1) (N := some 25) #[true, true, true, false, false, true, false] rfl rfl (by kernel_rfl) (by decide) (fun K hK => ?_)
                refine goes_ Try.func10 (by kernel_rfl) rfl #[.agg #[.slice A0_0 l0_0.length c0_0, .slice A0_1 l0_1.length c0_1, .int .i64 a0_2]] (by rfl) rfl rfl (by (try simp only [List.map_toArray, List.map_cons, List.map_nil]); first | done | rfl | (simp only [List.length_drop, List.length_take]; rfl)) ?_
                with_reducible refine (laws_toFrmForm.calls k _ _ l0_0 _ _ l0_1 a0_2 t199 t202 t205 _ ?side1 ?side2 ?side3 ?side4 A19.out).mono ?_
                (case side1 => exact lC <| (Kd.C_below HR0_0.out HB.out))
                (case side2 => exact HC0_0.out)
                (case side3 => exact lC <| (Kd.C_below HR0_1.out HB.out))
                (case side4 => exact HC0_1.out)
                rintro e w45 ⟨v200, v203, rfl, ho0, ho1, hb⟩
                refine ⟨_, rfl, ?_⟩
                have n0_ := Aside0.mk (Kd.R_lower ho0 (below_size (by repeat (first | (with_reducible first | exact HB.out | apply below_alloc | apply pw_below_drewN | apply below_drew1 | refine below_set ?_ (by first | exact GE195.out | exact GE196.out | exact GE220.out)) | exact HB.out))))
                have n1_ := Aside0.mk (Kd.R_lower ho1 (below_size (by repeat (first | (with_reducible first | exact HB.out | apply below_alloc | apply pw_below_drewN | apply below_drew1 | refine below_set ?_ (by first | exact GE195.out | exact GE196.out | exact GE220.out)) | exact HB.out))))
                have n2_ := Aside0.mk (blk_below (g := gb195) (o := .cells #[.slice A0_0 l0_0.length c0_0, .slice A0_1 l0_1.length c0_1, .int .i64 a0_2] 24 (0, 0)) (by exact lK <| BK195.out) hb)
                have n3_ := Aside0.mk (blk_below (g := gb196) (o := .cells #[.slice A1_0 l1_0.length c1_0, .slice A1_1 l1_1.length c1_1, .int .i64 a1_2] 24 (0, 0)) (by exact lK <| BK196.out) hb)
                have n4_ := Aside0.mk (blk_below (g := gb220) (o := .cells #[.slice none 0 0, .slice none 0 0, .int .i64 0] 26 (0, 0)) (by exact lK <| BK220.out) hb)
                have n5_ := Aside0.mk (below_step (by repeat (first | (with_reducible first | exact HB.out | apply below_alloc | apply pw_below_drewN | apply below_drew1 | refine below_set ?_ (by first | exact GE195.out | exact GE196.out | exact GE220.out)) | exact HB.out)) hb)
                clear BK195
                clear BK196
                clear BK220
                clear HB
                have HO201 := n0_
                have HO204 := n1_
                have BK195 := n2_
                have BK196 := n3_
                have BK220 := n4_
                have HB := n5_
                clear n0_ n1_ n2_ n3_ n4_ n5_
                (try clear hb)
                (try clear hb2)
                (try clear hk)
                (try clear hi)
                (try clear ho0)
                (try clear ho1)
                refine hK.out _ _ ⟨(blk_cell BK195.out 0).trans rfl, (blk_cell BK195.out 1).trans rfl, (blk_cell BK195.out 2).trans rfl, (blk_cell BK196.out 0).trans rfl, (blk_cell BK196.out 1).trans rfl, (blk_cell BK196.out 2).trans rfl⟩ (fun hHeld => ?_)
                clear hK K
                refine norm_ (a' := ?_) ?_ ?_
                rotate_left
                · show Act.put _ (some 25) _ = _
                  simp only [Act.put, List.setIfInBounds_toArray, List.set_cons_zero, List.set_cons_succ, i64_w, i32_w]
                  rfl
                refine one_ (i := 3) (N := some 27) #[true, true, true, true, false, true, false] rfl rfl (by kernel_rfl) (by decide) (fun K hK => ?_)
                refine goes_ Try.func10 (by kernel_rfl) rfl #[.agg #[.slice A1_0 l1_0.length c1_0, .slice A1_1 l1_1.length c1_1, .int .i64 a1_2]] (by rfl) rfl rfl (by (try simp only [List.map_toArray, List.map_cons, List.map_nil]); first | done | rfl | (simp only [List.length_drop, List.length_take]; rfl)) ?_
                with_reducible refine (laws_toFrmForm.calls k _ _ l1_0 _ _ l1_1 a1_2 t206 t209 t212 _ ?side1 ?side2 ?side3 ?side4 A20.out).mono ?_
                (case side1 => exact lC <| (Kd.C_below HR1_0.out HB.out))
                (case side2 => exact HC1_0.out)
                (case side3 => exact lC <| (Kd.C_below HR1_1.out HB.out))
                (case side4 => exact HC1_1.out)
                rintro e w46 ⟨v207, v210, rfl, ho0, ho1, hb⟩
                refine ⟨_, rfl, ?_⟩
                have n0_ := Aside0.mk (Kd.R_mono (Kd.R_told (Kd.R_told (Kd.R_old (by exact lR <| HO201.out) hb) (Kd.R_base ho0)) (Kd.R_base ho1)) (fun _ h_ => h_.1))
                have n1_ := Aside0.mk (Kd.R_mono (Kd.R_told (Kd.R_told (Kd.R_old (by exact lR <| HO204.out) hb) (Kd.R_base ho0)) (Kd.R_base ho1)) (fun _ h_ => h_.1))
                have n2_ := Aside0.mk (Kd.R_lower (Kd.R_new' (Kd.R_new' ho0 (Kd.R_lt (by exact lR <| HO201.out))) (Kd.R_lt (by exact lR <| HO204.out))) (below_size (by repeat (first | (with_reducible first | exact HB.out | apply below_alloc | apply pw_below_drewN | apply below_drew1 | refine below_set ?_ (by first | exact GE195.out | exact GE196.out | exact GE220.out)) | exact HB.out))))
                have n3_ := Aside0.mk (Kd.R_lower (Kd.R_new' (Kd.R_new' ho1 (Kd.R_lt (by exact lR <| HO201.out))) (Kd.R_lt (by exact lR <| HO204.out))) (below_size (by repeat (first | (with_reducible first | exact HB.out | apply below_alloc | apply pw_below_drewN | apply below_drew1 | refine below_set ?_ (by first | exact GE195.out | exact GE196.out | exact GE220.out)) | exact HB.out))))
                have n4_ := Aside0.mk (blk_below (g := gb195) (o := .cells #[.slice A0_0 l0_0.length c0_0, .slice A0_1 l0_1.length c0_1, .int .i64 a0_2] 24 (0, 0)) (by exact lK <| BK195.out) hb)
                have n5_ := Aside0.mk (blk_below (g := gb196) (o := .cells #[.slice A1_0 l1_0.length c1_0, .slice A1_1 l1_1.length c1_1, .int .i64 a1_2] 24 (0, 0)) (by exact lK <| BK196.out) hb)
                have n6_ := Aside0.mk (blk_below (g := gb220) (o := .cells #[.slice none 0 0, .slice none 0 0, .int .i64 0] 26 (0, 0)) (by exact lK <| BK220.out) hb)
                have n7_ := Aside0.mk (below_step (by repeat (first | (with_reducible first | exact HB.out | apply below_alloc | apply pw_below_drewN | apply below_drew1 | refine below_set ?_ (by first | exact GE195.out | exact GE196.out | exact GE220.out)) | exact HB.out)) hb)
                clear HO201
                clear HO204
                clear BK195
                clear BK196
                clear BK220
                clear HB
                have HO201 := n0_
                have HO204 := n1_
                have HO208 := n2_
                have HO211 := n3_
                have BK195 := n4_
                have BK196 := n5_
                have BK220 := n6_
                have HB := n7_
                clear n0_ n1_ n2_ n3_ n4_ n5_ n6_ n7_
                (try clear hb)
                (try clear hb2)
                (try clear hk)
                (try clear hi)
                (try clear ho0)
                (try clear ho1)
                obtain ⟨Ao47, co47, eo47⟩ := Kd.R_slice HO201.out
                (first | subst eo47 | (injection eo47 with f1_ f2_ f3_; have f4_ := f1_.symm; have f5_ := f3_.symm; clear f1_ f2_ f3_; subst f4_; subst f5_))
                obtain ⟨Ao48, co48, eo48⟩ := Kd.R_slice HO204.out
                (first | subst eo48 | (injection eo48 with f1_ f2_ f3_; have f4_ := f1_.symm; have f5_ := f3_.symm; clear f1_ f2_ f3_; subst f4_; subst f5_))
                obtain ⟨Ao49, co49, eo49⟩ := Kd.R_slice HO208.out
                (first | subst eo49 | (injection eo49 with f1_ f2_ f3_; have f4_ := f1_.symm; have f5_ := f3_.symm; clear f1_ f2_ f3_; subst f4_; subst f5_))
                obtain ⟨Ao50, co50, eo50⟩ := Kd.R_slice HO211.out
                (first | subst eo50 | (injection eo50 with f1_ f2_ f3_; have f4_ := f1_.symm; have f5_ := f3_.symm; clear f1_ f2_ f3_; subst f4_; subst f5_))
                refine hK.out _ _ ⟨(blk_cell BK195.out 0).trans rfl, (blk_cell BK195.out 1).trans rfl, (blk_cell BK195.out 2).trans rfl, (blk_cell BK196.out 0).trans rfl, (blk_cell BK196.out 1).trans rfl, (blk_cell BK196.out 2).trans rfl⟩ (fun hHeld => ?_)
                clear hK K
                refine norm_ (a' := ?_) ?_ ?_
                rotate_left
                · show Act.put _ (some 27) _ = _
                  simp only [Act.put, List.setIfInBounds_toArray, List.set_cons_zero, List.set_cons_succ, i64_w, i32_w]
                  rfl
                refine one_ (i := 4) (N := some 28) #[true, true, true, true, true, true, false] rfl rfl (by kernel_rfl) (by decide) (fun K hK => ?_)
                refine goes_ Try.func9 (by kernel_rfl) rfl #[.agg #[.slice Ao47 t199.length co47, .slice Ao48 t202.length co48, .int .i64 t205], .agg #[.slice Ao49 t206.length co49, .slice Ao50 t209.length co50, .int .i64 t212]] (by rfl) rfl rfl (by (try simp only [List.map_toArray, List.map_cons, List.map_nil]); first | done | rfl | (simp only [List.length_drop, List.length_take]; rfl)) ?_
                with_reducible refine (spec_FrmAdd.calls k _ _ t199 _ _ t202 t205 _ _ t206 _ _ t209 t212 t213 t216 t219 _ ?side1 ?side2 ?side3 ?side4 ?side5 ?side6 ?side7 ?side8 A21.out).mono ?_
                (case side1 => exact lC <| (Kd.R_reads' HO201.out).2.2)
                (case side2 => exact (Kd.R_reads' HO201.out).2.1)
                (case side3 => exact lC <| (Kd.R_reads' HO204.out).2.2)
                (case side4 => exact (Kd.R_reads' HO204.out).2.1)
                (case side5 => exact lC <| (Kd.R_reads' HO208.out).2.2)
                (case side6 => exact (Kd.R_reads' HO208.out).2.1)
                (case side7 => exact lC <| (Kd.R_reads' HO211.out).2.2)
                (case side8 => exact (Kd.R_reads' HO211.out).2.1)
                rintro e w51 ⟨v214, v217, rfl, ho0, ho1, hb⟩
                refine ⟨_, rfl, ?_⟩
                have n0_ := Aside0.mk (Kd.R_mono (Kd.R_told (Kd.R_told (Kd.R_old (by exact lR <| HO201.out) hb) (Kd.R_base ho0)) (Kd.R_base ho1)) (fun _ h_ => h_.1))
                have n1_ := Aside0.mk (Kd.R_mono (Kd.R_told (Kd.R_told (Kd.R_old (by exact lR <| HO204.out) hb) (Kd.R_base ho0)) (Kd.R_base ho1)) (fun _ h_ => h_.1))
                have n2_ := Aside0.mk (Kd.R_mono (Kd.R_told (Kd.R_told (Kd.R_old (by exact lR <| HO208.out) hb) (Kd.R_base ho0)) (Kd.R_base ho1)) (fun _ h_ => h_.1))
                have n3_ := Aside0.mk (Kd.R_mono (Kd.R_told (Kd.R_told (Kd.R_old (by exact lR <| HO211.out) hb) (Kd.R_base ho0)) (Kd.R_base ho1)) (fun _ h_ => h_.1))
                have n4_ := Aside0.mk (Kd.R_lower (Kd.R_new' (Kd.R_new' (Kd.R_new' (Kd.R_new' ho0 (Kd.R_lt (by exact lR <| HO201.out))) (Kd.R_lt (by exact lR <| HO204.out))) (Kd.R_lt (by exact lR <| HO208.out))) (Kd.R_lt (by exact lR <| HO211.out))) (below_size (by repeat (first | (with_reducible first | exact HB.out | apply below_alloc | apply pw_below_drewN | apply below_drew1 | refine below_set ?_ (by first | exact GE195.out | exact GE196.out | exact GE220.out)) | exact HB.out))))
                have n5_ := Aside0.mk (Kd.R_lower (Kd.R_new' (Kd.R_new' (Kd.R_new' (Kd.R_new' ho1 (Kd.R_lt (by exact lR <| HO201.out))) (Kd.R_lt (by exact lR <| HO204.out))) (Kd.R_lt (by exact lR <| HO208.out))) (Kd.R_lt (by exact lR <| HO211.out))) (below_size (by repeat (first | (with_reducible first | exact HB.out | apply below_alloc | apply pw_below_drewN | apply below_drew1 | refine below_set ?_ (by first | exact GE195.out | exact GE196.out | exact GE220.out)) | exact HB.out))))
                have n6_ := Aside0.mk (blk_below (g := gb195) (o := .cells #[.slice A0_0 l0_0.length c0_0, .slice A0_1 l0_1.length c0_1, .int .i64 a0_2] 24 (0, 0)) (by exact lK <| BK195.out) hb)
                have n7_ := Aside0.mk (blk_below (g := gb196) (o := .cells #[.slice A1_0 l1_0.length c1_0, .slice A1_1 l1_1.length c1_1, .int .i64 a1_2] 24 (0, 0)) (by exact lK <| BK196.out) hb)
                have n8_ := Aside0.mk (blk_below (g := gb220) (o := .cells #[.slice none 0 0, .slice none 0 0, .int .i64 0] 26 (0, 0)) (by exact lK <| BK220.out) hb)
                have n9_ := Aside0.mk (below_step (by repeat (first | (with_reducible first | exact HB.out | apply below_alloc | apply pw_below_drewN | apply below_drew1 | refine below_set ?_ (by first | exact GE195.out | exact GE196.out | exact GE220.out)) | exact HB.out)) hb)
                clear HO201
                clear HO204
                clear HO208
                clear HO211
                clear BK195
                clear BK196
                clear BK220
                clear HB
                have HO201 := n0_
                have HO204 := n1_
                have HO208 := n2_
                have HO211 := n3_
                have HO215 := n4_
                have HO218 := n5_
                have BK195 := n6_
                have BK196 := n7_
                have BK220 := n8_
                have HB := n9_
                clear n0_ n1_ n2_ n3_ n4_ n5_ n6_ n7_ n8_ n9_
                (try clear hb)
                (try clear hb2)
                (try clear hk)
                (try clear hi)
                (try clear ho0)
                (try clear ho1)
                refine hK.out _ _ ⟨(blk_cell BK195.out 0).trans rfl, (blk_cell BK195.out 1).trans rfl, (blk_cell BK195.out 2).trans rfl, (blk_cell BK196.out 0).trans rfl, (blk_cell BK196.out 1).trans rfl, (blk_cell BK196.out 2).trans rfl⟩ (fun hHeld => ?_)
                clear hK K
                refine norm_ (a' := ?_) ?_ ?_
                rotate_left
                · show Act.put _ (some 28) _ = _
                  simp only [Act.put, List.setIfInBounds_toArray, List.set_cons_zero, List.set_cons_succ, i64_w, i32_w]
                  rfl
                exact norm_ (by simp only [putAll, Act.put, List.setIfInBounds_toArray, List.set_cons_zero, List.set_cons_succ]) (hCont (.slice Ao47 t199.length co47, .slice Ao48 t202.length co48, .slice Ao49 t206.length co49, .slice Ao50 t209.length co50, v214, v217, gb220) _ ⟨hHeld, (by exact lR <| Kd.R_mono HO201.out (fun _ hk => ⟨hk.1.1.1.1, ⟨hk.1.1.1.2, ⟨hk.1.1.2, ⟨hk.1.2, hk.2⟩⟩⟩⟩)), (by exact lR <| Kd.R_mono HO204.out (fun _ hk => ⟨hk.1.1.1.1, ⟨hk.1.1.1.2, ⟨hk.1.1.2, ⟨hk.1.2, hk.2⟩⟩⟩⟩)), (by exact lR <| Kd.R_mono HO208.out (fun _ hk => ⟨hk.1.1.1.2, ⟨hk.1.1.2, ⟨hk.1.1.1.1, ⟨hk.1.2, hk.2⟩⟩⟩⟩)), (by exact lR <| Kd.R_mono HO211.out (fun _ hk => ⟨hk.1.1.1.2, ⟨hk.1.1.2, ⟨hk.1.1.1.1, ⟨hk.1.2, hk.2⟩⟩⟩⟩)), (by exact lR <| Kd.R_mono HO215.out (fun _ hk => ⟨hk.1.1.1.2, ⟨hk.1.1.2, ⟨hk.1.2, ⟨hk.2, hk.1.1.1.1⟩⟩⟩⟩)), (by exact lR <| Kd.R_mono HO218.out (fun _ hk => ⟨hk.1.1.1.2, ⟨hk.1.1.2, ⟨hk.1.2, ⟨hk.2, hk.1.1.1.1⟩⟩⟩⟩)), (by exact lK <| BK195.out), (by exact lK <| BK196.out), (by exact lK <| BK220.out), GW220.out, GE220.out, NB195_220.out, NB220_195.out, NB196_220.out, NB220_196.out, (by repeat (first | (with_reducible first | exact HB.out | apply below_alloc | apply pw_below_drewN | apply below_drew1 | refine below_set ?_ (by first | exact GE195.out | exact GE196.out | exact GE220.out)) | exact HB.out))⟩)
            rintro ⟨v200, v203, v207, v210, v214, v217, gb220⟩ w52 ⟨hS_, h0_, h1_, h2_, h3_, h4_, h5_, h6_, h7_, h8_, h9_, h10_, h11_, h12_, h13_, h14_, h15_⟩
            have n0_ : Aside0 (Kd.R (Kd.int .i64) 3 w52 w.heap.size (fun k_ => some k_ ≠ (v203 : Value).ownBlock ∧ some k_ ≠ (v207 : Value).ownBlock ∧ some k_ ≠ (v210 : Value).ownBlock ∧ some k_ ≠ (v214 : Value).ownBlock ∧ some k_ ≠ (v217 : Value).ownBlock) v200 t199) := ⟨h0_⟩
            have n1_ : Aside0 (Kd.R (Kd.int .i64) 3 w52 w.heap.size (fun k_ => some k_ ≠ (v200 : Value).ownBlock ∧ some k_ ≠ (v207 : Value).ownBlock ∧ some k_ ≠ (v210 : Value).ownBlock ∧ some k_ ≠ (v214 : Value).ownBlock ∧ some k_ ≠ (v217 : Value).ownBlock) v203 t202) := ⟨h1_⟩
            have n2_ : Aside0 (Kd.R (Kd.int .i64) 3 w52 w.heap.size (fun k_ => some k_ ≠ (v200 : Value).ownBlock ∧ some k_ ≠ (v203 : Value).ownBlock ∧ some k_ ≠ (v210 : Value).ownBlock ∧ some k_ ≠ (v214 : Value).ownBlock ∧ some k_ ≠ (v217 : Value).ownBlock) v207 t206) := ⟨h2_⟩
            have n3_ : Aside0 (Kd.R (Kd.int .i64) 3 w52 w.heap.size (fun k_ => some k_ ≠ (v200 : Value).ownBlock ∧ some k_ ≠ (v203 : Value).ownBlock ∧ some k_ ≠ (v207 : Value).ownBlock ∧ some k_ ≠ (v214 : Value).ownBlock ∧ some k_ ≠ (v217 : Value).ownBlock) v210 t209) := ⟨h3_⟩
            have n4_ : Aside0 (Kd.R (Kd.int .i64) 3 w52 w.heap.size (fun k_ => some k_ ≠ (v200 : Value).ownBlock ∧ some k_ ≠ (v203 : Value).ownBlock ∧ some k_ ≠ (v207 : Value).ownBlock ∧ some k_ ≠ (v210 : Value).ownBlock ∧ some k_ ≠ (v217 : Value).ownBlock) v214 t213) := ⟨h4_⟩
            have n5_ : Aside0 (Kd.R (Kd.int .i64) 3 w52 w.heap.size (fun k_ => some k_ ≠ (v200 : Value).ownBlock ∧ some k_ ≠ (v203 : Value).ownBlock ∧ some k_ ≠ (v207 : Value).ownBlock ∧ some k_ ≠ (v210 : Value).ownBlock ∧ some k_ ≠ (v214 : Value).ownBlock) v217 t216) := ⟨h5_⟩
            have n6_ : Aside0 (w52.heap[gb195]? = some (.cells #[.slice A0_0 l0_0.length c0_0, .slice A0_1 l0_1.length c0_1, .int .i64 a0_2] 24 (0, 0))) := ⟨h6_⟩
            have n7_ : Aside0 (w52.heap[gb196]? = some (.cells #[.slice A1_0 l1_0.length c1_0, .slice A1_1 l1_1.length c1_1, .int .i64 a1_2] 24 (0, 0))) := ⟨h7_⟩
            have n8_ : Aside0 (w52.heap[gb220]? = some (.cells #[.slice none 0 0, .slice none 0 0, .int .i64 0] 26 (0, 0))) := ⟨h8_⟩
            have n9_ : Aside0 (w.heap.size ≤ gb220) := ⟨h9_⟩
            have n10_ : Aside0 (w.heap.size ≤ gb220) := ⟨h10_⟩
            have n11_ : Aside0 (gb195 ≠ gb220) := ⟨h11_⟩
            have n12_ : Aside0 (gb220 ≠ gb195) := ⟨h12_⟩
            have n13_ : Aside0 (gb196 ≠ gb220) := ⟨h13_⟩
            have n14_ : Aside0 (gb220 ≠ gb196) := ⟨h14_⟩
            have n15_ : Aside0 (Below w.heap.size w w52) := ⟨h15_⟩
            clear BK195
            clear BK196
            clear HB
            clear h0_ h1_ h2_ h3_ h4_ h5_ h6_ h7_ h8_ h9_ h10_ h11_ h12_ h13_ h14_ h15_
            have HO201 := n0_
            have HO204 := n1_
            have HO208 := n2_
            have HO211 := n3_
            have HO215 := n4_
            have HO218 := n5_
            have BK195 := n6_
            have BK196 := n7_
            have BK220 := n8_
            have GW220 := n9_
            have GE220 := n10_
            have NB195_220 := n11_
            have NB220_195 := n12_
            have NB196_220 := n13_
            have NB220_196 := n14_
            have HB := n15_
            clear n0_ n1_ n2_ n3_ n4_ n5_ n6_ n7_ n8_ n9_ n10_ n11_ n12_ n13_ n14_ n15_
            have hHeld : w52.cell? ⟨gb195, 0, none⟩ = some (.slice A0_0 l0_0.length c0_0) ∧ w52.cell? ⟨gb195, 1, none⟩ = some (.slice A0_1 l0_1.length c0_1) ∧ w52.cell? ⟨gb195, 2, none⟩ = some (.int .i64 a0_2) ∧ w52.cell? ⟨gb196, 0, none⟩ = some (.slice A1_0 l1_0.length c1_0) ∧ w52.cell? ⟨gb196, 1, none⟩ = some (.slice A1_1 l1_1.length c1_1) ∧ w52.cell? ⟨gb196, 2, none⟩ = some (.int .i64 a1_2) := hS_
            obtain ⟨Ao53, co53, eo53⟩ := Kd.R_slice HO215.out
            (first | subst eo53 | (injection eo53 with f1_ f2_ f3_; have f4_ := f1_.symm; have f5_ := f3_.symm; clear f1_ f2_ f3_; subst f4_; subst f5_))
            obtain ⟨Ao55, co55, eo55⟩ := Kd.R_slice HO218.out
            (first | subst eo55 | (injection eo55 with f1_ f2_ f3_; have f4_ := f1_.symm; have f5_ := f3_.symm; clear f1_ f2_ f3_; subst f4_; subst f5_))
            refine norm_ (a' := ?_) ?_ ?_
            rotate_left
            · simp only [putAll, Act.put, List.setIfInBounds_toArray, List.set_cons_zero, List.set_cons_succ]
              rfl
            refine one_ (i := 6) (N := none) #[true, true, true, true, true, true, true] rfl rfl (by kernel_rfl) (by decide) (fun K hK => ?_)
            have hs54 : w52.cell? ⟨gb220, 0, none⟩ = some (.slice none 0 0) := (blk_cell BK220.out 0).trans rfl
            have hfs54 := blk_frozen BK220.out 0
            have hns54_0 := NB195_220.out
            have hns54_1 := NB196_220.out
            have hms54_0 := NB220_195.out
            have hms54_1 := NB220_196.out
            have hs56 : w52.cell? ⟨gb220, 1, none⟩ = some (.slice none 0 0) := (blk_cell BK220.out 1).trans rfl
            have hfs56 := blk_frozen BK220.out 1
            have hns56_0 := NB195_220.out
            have hns56_1 := NB196_220.out
            have hms56_0 := NB220_195.out
            have hms56_1 := NB220_196.out
            have hs57 : w52.cell? ⟨gb220, 2, none⟩ = some (.int .i64 0) := (blk_cell BK220.out 2).trans rfl
            have hfs57 := blk_frozen BK220.out 2
            have hns57_0 := NB195_220.out
            have hns57_1 := NB196_220.out
            have hms57_0 := NB220_195.out
            have hms57_1 := NB220_196.out
            refine skip_ (w1 := ?_) (by rfl) rfl ?_ ?_
            rotate_left
            · go_simp
              rfl
            refine hK.out _ _ ⟨((cell_far (p := ⟨gb220, _, none⟩) NB195_220.out _).trans (((cell_far (p := ⟨gb220, _, none⟩) NB195_220.out _).trans (((cell_far (p := ⟨gb220, _, none⟩) NB195_220.out _).trans (hHeld.1)))))), ((cell_far (p := ⟨gb220, _, none⟩) NB195_220.out _).trans (((cell_far (p := ⟨gb220, _, none⟩) NB195_220.out _).trans (((cell_far (p := ⟨gb220, _, none⟩) NB195_220.out _).trans (hHeld.2.1)))))), ((cell_far (p := ⟨gb220, _, none⟩) NB195_220.out _).trans (((cell_far (p := ⟨gb220, _, none⟩) NB195_220.out _).trans (((cell_far (p := ⟨gb220, _, none⟩) NB195_220.out _).trans (hHeld.2.2.1)))))), ((cell_far (p := ⟨gb220, _, none⟩) NB196_220.out _).trans (((cell_far (p := ⟨gb220, _, none⟩) NB196_220.out _).trans (((cell_far (p := ⟨gb220, _, none⟩) NB196_220.out _).trans (hHeld.2.2.2.1)))))), ((cell_far (p := ⟨gb220, _, none⟩) NB196_220.out _).trans (((cell_far (p := ⟨gb220, _, none⟩) NB196_220.out _).trans (((cell_far (p := ⟨gb220, _, none⟩) NB196_220.out _).trans (hHeld.2.2.2.2.1)))))), ((cell_far (p := ⟨gb220, _, none⟩) NB196_220.out _).trans (((cell_far (p := ⟨gb220, _, none⟩) NB196_220.out _).trans (((cell_far (p := ⟨gb220, _, none⟩) NB196_220.out _).trans (hHeld.2.2.2.2.2))))))⟩ (fun hHeld => ?_)
            clear hK K
            refine done_ (by kernel_rfl) ?_
            have hnb58 := NB195_220.out
            have hnc58 := NB220_195.out
            have hcz59_0 : w52.cell? ⟨gb195, 0, none⟩ = some (.slice A0_0 l0_0.length c0_0) := (blk_cell BK195.out 0).trans rfl
            have hcz59_1 : w52.cell? ⟨gb195, 1, none⟩ = some (.slice A0_1 l0_1.length c0_1) := (blk_cell BK195.out 1).trans rfl
            have hcz59_2 : w52.cell? ⟨gb195, 2, none⟩ = some (.int .i64 a0_2) := (blk_cell BK195.out 2).trans rfl
            have hfz59_0 := blk_frozen BK195.out 0
            have hfz59_1 := blk_frozen BK195.out 1
            have hfz59_2 := blk_frozen BK195.out 2
            try go_wp2_with (first | ((with_reducible refine gate_callee (f := 10) rfl ?_); refine goesL_ (some 30) rfl rfl Try.func10 (by kernel_rfl) rfl #[.agg #[.slice A0_0 l0_0.length c0_0, .slice A0_1 l0_1.length c0_1, .int .i64 a0_2]] rfl (by (try simp only [List.map_toArray, List.map_cons, List.map_nil]); first | done | rfl | (simp only [List.length_drop, List.length_take]; rfl)) ?_; (with_reducible refine (laws_toFrmForm.calls k _ _ l0_0 _ _ l0_1 a0_2 t221 t224 t227 _ ?side1 ?side2 ?side3 ?side4 A22.out).mono ?_); (case side1 => exact Kd.C_below HR0_0.out (by repeat (first | (with_reducible first | exact HB.out | apply below_alloc | apply pw_below_drewN | apply below_drew1 | refine below_set ?_ (by first | exact GE195.out | exact GE196.out | exact GE220.out)) | exact HB.out))); (case side2 => exact HC0_0.out); (case side3 => exact Kd.C_below HR0_1.out (by repeat (first | (with_reducible first | exact HB.out | apply below_alloc | apply pw_below_drewN | apply below_drew1 | refine below_set ?_ (by first | exact GE195.out | exact GE196.out | exact GE220.out)) | exact HB.out))); (case side4 => exact HC0_1.out); rintro e w60 ⟨v222, v225, rfl, ho0, ho1, hb⟩; refine ⟨_, rfl, ?_⟩; have n0_ := Aside0.mk (Kd.R_mono (Kd.R_told (Kd.R_told (Kd.R_old (by (with_reducible repeat (first | apply ra | apply rn | apply re)); exact (R3 HO201.out BK220.out)) hb) (Kd.R_base ho0)) (Kd.R_base ho1)) (fun _ h_ => h_.1)); have n1_ := Aside0.mk (Kd.R_mono (Kd.R_told (Kd.R_told (Kd.R_old (by (with_reducible repeat (first | apply ra | apply rn | apply re)); exact (R3 HO204.out BK220.out)) hb) (Kd.R_base ho0)) (Kd.R_base ho1)) (fun _ h_ => h_.1)); have n2_ := Aside0.mk (Kd.R_mono (Kd.R_told (Kd.R_told (Kd.R_old (by (with_reducible repeat (first | apply ra | apply rn | apply re)); exact (R3 HO208.out BK220.out)) hb) (Kd.R_base ho0)) (Kd.R_base ho1)) (fun _ h_ => h_.1)); have n3_ := Aside0.mk (Kd.R_mono (Kd.R_told (Kd.R_told (Kd.R_old (by (with_reducible repeat (first | apply ra | apply rn | apply re)); exact (R3 HO211.out BK220.out)) hb) (Kd.R_base ho0)) (Kd.R_base ho1)) (fun _ h_ => h_.1)); have n4_ := Aside0.mk (Kd.R_mono (Kd.R_told (Kd.R_told (Kd.R_old (by (with_reducible repeat (first | apply ra | apply rn | apply re)); exact (R3 HO215.out BK220.out)) hb) (Kd.R_base ho0)) (Kd.R_base ho1)) (fun _ h_ => h_.1)); have n5_ := Aside0.mk (Kd.R_mono (Kd.R_told (Kd.R_told (Kd.R_old (by (with_reducible repeat (first | apply ra | apply rn | apply re)); exact (R3 HO218.out BK220.out)) hb) (Kd.R_base ho0)) (Kd.R_base ho1)) (fun _ h_ => h_.1)); have n6_ := Aside0.mk (Kd.R_lower (Kd.R_new' (Kd.R_new' (Kd.R_new' (Kd.R_new' (Kd.R_new' (Kd.R_new' ho0 (Kd.R_lt (by (with_reducible repeat (first | apply ra | apply rn | apply re)); exact (R3 HO201.out BK220.out)))) (Kd.R_lt (by (with_reducible repeat (first | apply ra | apply rn | apply re)); exact (R3 HO204.out BK220.out)))) (Kd.R_lt (by (with_reducible repeat (first | apply ra | apply rn | apply re)); exact (R3 HO208.out BK220.out)))) (Kd.R_lt (by (with_reducible repeat (first | apply ra | apply rn | apply re)); exact (R3 HO211.out BK220.out)))) (Kd.R_lt (by (with_reducible repeat (first | apply ra | apply rn | apply re)); exact (R3 HO215.out BK220.out)))) (Kd.R_lt (by (with_reducible repeat (first | apply ra | apply rn | apply re)); exact (R3 HO218.out BK220.out)))) (below_size (by repeat (first | (with_reducible first | exact HB.out | apply below_alloc | apply pw_below_drewN | apply below_drew1 | refine below_set ?_ (by first | exact GE195.out | exact GE196.out | exact GE220.out)) | exact HB.out)))); have n7_ := Aside0.mk (Kd.R_lower (Kd.R_new' (Kd.R_new' (Kd.R_new' (Kd.R_new' (Kd.R_new' (Kd.R_new' ho1 (Kd.R_lt (by (with_reducible repeat (first | apply ra | apply rn | apply re)); exact (R3 HO201.out BK220.out)))) (Kd.R_lt (by (with_reducible repeat (first | apply ra | apply rn | apply re)); exact (R3 HO204.out BK220.out)))) (Kd.R_lt (by (with_reducible repeat (first | apply ra | apply rn | apply re)); exact (R3 HO208.out BK220.out)))) (Kd.R_lt (by (with_reducible repeat (first | apply ra | apply rn | apply re)); exact (R3 HO211.out BK220.out)))) (Kd.R_lt (by (with_reducible repeat (first | apply ra | apply rn | apply re)); exact (R3 HO215.out BK220.out)))) (Kd.R_lt (by (with_reducible repeat (first | apply ra | apply rn | apply re)); exact (R3 HO218.out BK220.out)))) (below_size (by repeat (first | (with_reducible first | exact HB.out | apply below_alloc | apply pw_below_drewN | apply below_drew1 | refine below_set ?_ (by first | exact GE195.out | exact GE196.out | exact GE220.out)) | exact HB.out)))); have n8_ := Aside0.mk (blk_below (g := gb195) (o := .cells #[.slice A0_0 l0_0.length c0_0, .slice A0_1 l0_1.length c0_1, .int .i64 a0_2] 24 (0, 0)) (by (with_reducible repeat (first | refine blk_drewN ?_ _ | refine blk_drew ?_ | refine blk_alloc ?_ _)); refine blk_far ?_ NB195_220.out _; (with_reducible repeat (first | refine blk_drewN ?_ _ | refine blk_drew ?_ | refine blk_alloc ?_ _)); refine blk_far ?_ NB195_220.out _; (with_reducible repeat (first | refine blk_drewN ?_ _ | refine blk_drew ?_ | refine blk_alloc ?_ _)); refine blk_far ?_ NB195_220.out _; exact lK <| BK195.out) hb); have n9_ := Aside0.mk (blk_below (g := gb196) (o := .cells #[.slice A1_0 l1_0.length c1_0, .slice A1_1 l1_1.length c1_1, .int .i64 a1_2] 24 (0, 0)) (by (with_reducible repeat (first | refine blk_drewN ?_ _ | refine blk_drew ?_ | refine blk_alloc ?_ _)); refine blk_far ?_ NB196_220.out _; (with_reducible repeat (first | refine blk_drewN ?_ _ | refine blk_drew ?_ | refine blk_alloc ?_ _)); refine blk_far ?_ NB196_220.out _; (with_reducible repeat (first | refine blk_drewN ?_ _ | refine blk_drew ?_ | refine blk_alloc ?_ _)); refine blk_far ?_ NB196_220.out _; exact lK <| BK196.out) hb); have n10_ := Aside0.mk (blk_below (g := gb220) (o := .cells #[.slice Ao53 t213.length co53, .slice Ao55 t216.length co55, .int .i64 t219] 26 (0, 0)) (by (with_reducible repeat (first | refine blk_drewN ?_ _ | refine blk_drew ?_ | refine blk_alloc ?_ _)); refine blk_put (cs := #[.slice Ao53 t213.length co53, .slice Ao55 t216.length co55, .int .i64 0]) ?_ 2 _ rfl; (with_reducible repeat (first | refine blk_drewN ?_ _ | refine blk_drew ?_ | refine blk_alloc ?_ _)); refine blk_put (cs := #[.slice Ao53 t213.length co53, .slice none 0 0, .int .i64 0]) ?_ 1 _ rfl; (with_reducible repeat (first | refine blk_drewN ?_ _ | refine blk_drew ?_ | refine blk_alloc ?_ _)); refine blk_put (cs := #[.slice none 0 0, .slice none 0 0, .int .i64 0]) ?_ 0 _ rfl; exact lK <| BK220.out) hb); have n11_ := Aside0.mk (below_step (by repeat (first | (with_reducible first | exact HB.out | apply below_alloc | apply pw_below_drewN | apply below_drew1 | refine below_set ?_ (by first | exact GE195.out | exact GE196.out | exact GE220.out)) | exact HB.out)) hb); clear HO201; clear HO204; clear HO208; clear HO211; clear HO215; clear HO218; clear BK195; clear BK196; clear BK220; clear HB; have HO201 := n0_; have HO204 := n1_; have HO208 := n2_; have HO211 := n3_; have HO215 := n4_; have HO218 := n5_; have HO223 := n6_; have HO226 := n7_; have BK195 := n8_; have BK196 := n9_; have BK220 := n10_; have HB := n11_; clear n0_ n1_ n2_ n3_ n4_ n5_ n6_ n7_ n8_ n9_ n10_ n11_; (try clear hb); (try clear hb2); (try clear hk); (try clear hi); (try clear ho0); (try clear ho1)) | ((with_reducible refine gate_dst (N := 7) rfl ?_); refine box_event ?hg (N := 7) ?hd (cs := #[.slice none 0 0, .slice none 0 0, .int .i64 0]) (t := 26) ?hr ?_; (case hd => rfl); (case hg => rfl); (case hr => first | (go_simp; done) | (go_simp; rfl)); intro gb228 hg w61 hbox hb; have n0_ := Aside0.mk (Kd.R_below (by exact lR <| HO201.out) hb); have n1_ := Aside0.mk (Kd.R_below (by exact lR <| HO204.out) hb); have n2_ := Aside0.mk (Kd.R_below (by exact lR <| HO208.out) hb); have n3_ := Aside0.mk (Kd.R_below (by exact lR <| HO211.out) hb); have n4_ := Aside0.mk (Kd.R_below (by exact lR <| HO215.out) hb); have n5_ := Aside0.mk (Kd.R_below (by exact lR <| HO218.out) hb); have n6_ := Aside0.mk (Kd.R_below (by exact lR <| HO223.out) hb); have n7_ := Aside0.mk (Kd.R_below (by exact lR <| HO226.out) hb); have n8_ := Aside0.mk (blk_below (g := gb195) (o := .cells #[.slice A0_0 l0_0.length c0_0, .slice A0_1 l0_1.length c0_1, .int .i64 a0_2] 24 (0, 0)) (by exact lK <| BK195.out) hb); have n9_ := Aside0.mk (blk_below (g := gb196) (o := .cells #[.slice A1_0 l1_0.length c1_0, .slice A1_1 l1_1.length c1_1, .int .i64 a1_2] 24 (0, 0)) (by exact lK <| BK196.out) hb); have n10_ := Aside0.mk (blk_below (g := gb220) (o := .cells #[.slice Ao53 t213.length co53, .slice Ao55 t216.length co55, .int .i64 t219] 26 (0, 0)) (by exact lK <| BK220.out) hb); have n11_ := Aside0.mk (below_step (by repeat (first | (with_reducible first | exact HB.out | apply below_alloc | apply pw_below_drewN | apply below_drew1 | refine below_set ?_ (by first | exact GE195.out | exact GE196.out | exact GE220.out)) | exact HB.out)) hb); have n12_ := Aside0.mk (hbox); have n13_ := Aside0.mk ((by rw [hg]; exact (below_size (by repeat (first | (with_reducible first | exact HB.out | apply below_alloc | apply pw_below_drewN | apply below_drew1 | refine below_set ?_ (by first | exact GE195.out | exact GE196.out | exact GE220.out)) | exact HB.out))) : w.heap.size ≤ gb228)); have n14_ := Aside0.mk ((by rw [hg]; exact (below_size (by repeat (first | (with_reducible first | exact HB.out | apply below_alloc | apply pw_below_drewN | apply below_drew1 | refine below_set ?_ (by first | exact GE195.out | exact GE196.out | exact GE220.out)) | exact HB.out))) : w.heap.size ≤ gb228)); have n15_ := Aside0.mk ((neL hg (lK BK195.out) : gb195 ≠ gb228)); have n16_ := Aside0.mk ((neG hg (lK BK195.out) : gb228 ≠ gb195)); have n17_ := Aside0.mk ((neL hg (lK BK196.out) : gb196 ≠ gb228)); have n18_ := Aside0.mk ((neG hg (lK BK196.out) : gb228 ≠ gb196)); have n19_ := Aside0.mk ((neL hg (lK BK220.out) : gb220 ≠ gb228)); have n20_ := Aside0.mk ((neG hg (lK BK220.out) : gb228 ≠ gb220)); clear HO201; clear HO204; clear HO208; clear HO211; clear HO215; clear HO218; clear HO223; clear HO226; clear BK195; clear BK196; clear BK220; clear HB; have HO201 := n0_; have HO204 := n1_; have HO208 := n2_; have HO211 := n3_; have HO215 := n4_; have HO218 := n5_; have HO223 := n6_; have HO226 := n7_; have BK195 := n8_; have BK196 := n9_; have BK220 := n10_; have HB := n11_; have BK228 := n12_; have GW228 := n13_; have GE228 := n14_; have NB195_228 := n15_; have NB228_195 := n16_; have NB196_228 := n17_; have NB228_196 := n18_; have NB220_228 := n19_; have NB228_220 := n20_; clear n0_ n1_ n2_ n3_ n4_ n5_ n6_ n7_ n8_ n9_ n10_ n11_ n12_ n13_ n14_ n15_ n16_ n17_ n18_ n19_ n20_; clear hb hbox hg; obtain ⟨Ao62, co62, eo62⟩ := Kd.R_slice HO223.out; subst eo62; have hnb63 := NB228_195.out; have hnc63 := NB195_228.out; have hnb64 := NB228_196.out; have hnc64 := NB196_228.out; have hnb65 := NB228_220.out; have hnc65 := NB220_228.out; have hcz66_0 : w61.cell? ⟨gb228, 0, none⟩ = some (.slice none 0 0) := (blk_cell BK228.out 0).trans rfl; have hcz66_1 : w61.cell? ⟨gb228, 1, none⟩ = some (.slice none 0 0) := (blk_cell BK228.out 1).trans rfl; have hcz66_2 : w61.cell? ⟨gb228, 2, none⟩ = some (.int .i64 0) := (blk_cell BK228.out 2).trans rfl; have hfz66_0 := blk_frozen BK228.out 0; have hfz66_1 := blk_frozen BK228.out 1; have hfz66_2 := blk_frozen BK228.out 2; obtain ⟨Ao67, co67, eo67⟩ := Kd.R_slice HO226.out; subst eo67; have hnb68 := NB196_220.out; have hnc68 := NB220_196.out; have hcz69_0 : w61.cell? ⟨gb196, 0, none⟩ = some (.slice A1_0 l1_0.length c1_0) := (blk_cell BK196.out 0).trans rfl; have hcz69_1 : w61.cell? ⟨gb196, 1, none⟩ = some (.slice A1_1 l1_1.length c1_1) := (blk_cell BK196.out 1).trans rfl; have hcz69_2 : w61.cell? ⟨gb196, 2, none⟩ = some (.int .i64 a1_2) := (blk_cell BK196.out 2).trans rfl; have hfz69_0 := blk_frozen BK196.out 0; have hfz69_1 := blk_frozen BK196.out 1; have hfz69_2 := blk_frozen BK196.out 2) | ((with_reducible refine gate_callee (f := 10) rfl ?_); refine goesL_ (some 32) rfl rfl Try.func10 (by kernel_rfl) rfl #[.agg #[.slice A1_0 l1_0.length c1_0, .slice A1_1 l1_1.length c1_1, .int .i64 a1_2]] rfl (by (try simp only [List.map_toArray, List.map_cons, List.map_nil]); first | done | rfl | (simp only [List.length_drop, List.length_take]; rfl)) ?_; (with_reducible refine (laws_toFrmForm.calls k _ _ l1_0 _ _ l1_1 a1_2 t229 t232 t235 _ ?side1 ?side2 ?side3 ?side4 A23.out).mono ?_); (case side1 => exact Kd.C_below HR1_0.out (by repeat (first | (with_reducible first | exact HB.out | apply below_alloc | apply pw_below_drewN | apply below_drew1 | refine below_set ?_ (by first | exact GE195.out | exact GE196.out | exact GE220.out | exact GE228.out)) | exact HB.out))); (case side2 => exact HC1_0.out); (case side3 => exact Kd.C_below HR1_1.out (by repeat (first | (with_reducible first | exact HB.out | apply below_alloc | apply pw_below_drewN | apply below_drew1 | refine below_set ?_ (by first | exact GE195.out | exact GE196.out | exact GE220.out | exact GE228.out)) | exact HB.out))); (case side4 => exact HC1_1.out); rintro e w70 ⟨v230, v233, rfl, ho0, ho1, hb⟩; refine ⟨_, rfl, ?_⟩; have n0_ := Aside0.mk (Kd.R_mono (Kd.R_told (Kd.R_told (Kd.R_old (by (with_reducible repeat (first | apply ra | apply rn | apply re)); exact (R3 HO201.out BK228.out)) hb) (Kd.R_base ho0)) (Kd.R_base ho1)) (fun _ h_ => h_.1)); have n1_ := Aside0.mk (Kd.R_mono (Kd.R_told (Kd.R_told (Kd.R_old (by (with_reducible repeat (first | apply ra | apply rn | apply re)); exact (R3 HO204.out BK228.out)) hb) (Kd.R_base ho0)) (Kd.R_base ho1)) (fun _ h_ => h_.1)); have n2_ := Aside0.mk (Kd.R_mono (Kd.R_told (Kd.R_told (Kd.R_old (by (with_reducible repeat (first | apply ra | apply rn | apply re)); exact (R3 HO208.out BK228.out)) hb) (Kd.R_base ho0)) (Kd.R_base ho1)) (fun _ h_ => h_.1)); have n3_ := Aside0.mk (Kd.R_mono (Kd.R_told (Kd.R_told (Kd.R_old (by (with_reducible repeat (first | apply ra | apply rn | apply re)); exact (R3 HO211.out BK228.out)) hb) (Kd.R_base ho0)) (Kd.R_base ho1)) (fun _ h_ => h_.1)); have n4_ := Aside0.mk (Kd.R_mono (Kd.R_told (Kd.R_told (Kd.R_old (by (with_reducible repeat (first | apply ra | apply rn | apply re)); exact (R3 HO215.out BK228.out)) hb) (Kd.R_base ho0)) (Kd.R_base ho1)) (fun _ h_ => h_.1)); have n5_ := Aside0.mk (Kd.R_mono (Kd.R_told (Kd.R_told (Kd.R_old (by (with_reducible repeat (first | apply ra | apply rn | apply re)); exact (R3 HO218.out BK228.out)) hb) (Kd.R_base ho0)) (Kd.R_base ho1)) (fun _ h_ => h_.1)); have n6_ := Aside0.mk (Kd.R_mono (Kd.R_told (Kd.R_told (Kd.R_old (by (with_reducible repeat (first | apply ra | apply rn | apply re)); exact (R3 HO223.out BK228.out)) hb) (Kd.R_base ho0)) (Kd.R_base ho1)) (fun _ h_ => h_.1)); have n7_ := Aside0.mk (Kd.R_mono (Kd.R_told (Kd.R_told (Kd.R_old (by (with_reducible repeat (first | apply ra | apply rn | apply re)); exact (R3 HO226.out BK228.out)) hb) (Kd.R_base ho0)) (Kd.R_base ho1)) (fun _ h_ => h_.1)); have n8_ := Aside0.mk (Kd.R_lower (Kd.R_new' (Kd.R_new' (Kd.R_new' (Kd.R_new' (Kd.R_new' (Kd.R_new' (Kd.R_new' (Kd.R_new' ho0 (Kd.R_lt (by (with_reducible repeat (first | apply ra | apply rn | apply re)); exact (R3 HO201.out BK228.out)))) (Kd.R_lt (by (with_reducible repeat (first | apply ra | apply rn | apply re)); exact (R3 HO204.out BK228.out)))) (Kd.R_lt (by (with_reducible repeat (first | apply ra | apply rn | apply re)); exact (R3 HO208.out BK228.out)))) (Kd.R_lt (by (with_reducible repeat (first | apply ra | apply rn | apply re)); exact (R3 HO211.out BK228.out)))) (Kd.R_lt (by (with_reducible repeat (first | apply ra | apply rn | apply re)); exact (R3 HO215.out BK228.out)))) (Kd.R_lt (by (with_reducible repeat (first | apply ra | apply rn | apply re)); exact (R3 HO218.out BK228.out)))) (Kd.R_lt (by (with_reducible repeat (first | apply ra | apply rn | apply re)); exact (R3 HO223.out BK228.out)))) (Kd.R_lt (by (with_reducible repeat (first | apply ra | apply rn | apply re)); exact (R3 HO226.out BK228.out)))) (below_size (by repeat (first | (with_reducible first | exact HB.out | apply below_alloc | apply pw_below_drewN | apply below_drew1 | refine below_set ?_ (by first | exact GE195.out | exact GE196.out | exact GE220.out | exact GE228.out)) | exact HB.out)))); have n9_ := Aside0.mk (Kd.R_lower (Kd.R_new' (Kd.R_new' (Kd.R_new' (Kd.R_new' (Kd.R_new' (Kd.R_new' (Kd.R_new' (Kd.R_new' ho1 (Kd.R_lt (by (with_reducible repeat (first | apply ra | apply rn | apply re)); exact (R3 HO201.out BK228.out)))) (Kd.R_lt (by (with_reducible repeat (first | apply ra | apply rn | apply re)); exact (R3 HO204.out BK228.out)))) (Kd.R_lt (by (with_reducible repeat (first | apply ra | apply rn | apply re)); exact (R3 HO208.out BK228.out)))) (Kd.R_lt (by (with_reducible repeat (first | apply ra | apply rn | apply re)); exact (R3 HO211.out BK228.out)))) (Kd.R_lt (by (with_reducible repeat (first | apply ra | apply rn | apply re)); exact (R3 HO215.out BK228.out)))) (Kd.R_lt (by (with_reducible repeat (first | apply ra | apply rn | apply re)); exact (R3 HO218.out BK228.out)))) (Kd.R_lt (by (with_reducible repeat (first | apply ra | apply rn | apply re)); exact (R3 HO223.out BK228.out)))) (Kd.R_lt (by (with_reducible repeat (first | apply ra | apply rn | apply re)); exact (R3 HO226.out BK228.out)))) (below_size (by repeat (first | (with_reducible first | exact HB.out | apply below_alloc | apply pw_below_drewN | apply below_drew1 | refine below_set ?_ (by first | exact GE195.out | exact GE196.out | exact GE220.out | exact GE228.out)) | exact HB.out)))); have n10_ := Aside0.mk (blk_below (g := gb195) (o := .cells #[.slice A0_0 l0_0.length c0_0, .slice A0_1 l0_1.length c0_1, .int .i64 a0_2] 24 (0, 0)) (by (with_reducible repeat (first | refine blk_drewN ?_ _ | refine blk_drew ?_ | refine blk_alloc ?_ _)); refine blk_far ?_ NB195_228.out _; (with_reducible repeat (first | refine blk_drewN ?_ _ | refine blk_drew ?_ | refine blk_alloc ?_ _)); refine blk_far ?_ NB195_228.out _; (with_reducible repeat (first | refine blk_drewN ?_ _ | refine blk_drew ?_ | refine blk_alloc ?_ _)); refine blk_far ?_ NB195_228.out _; exact lK <| BK195.out) hb); have n11_ := Aside0.mk (blk_below (g := gb196) (o := .cells #[.slice A1_0 l1_0.length c1_0, .slice A1_1 l1_1.length c1_1, .int .i64 a1_2] 24 (0, 0)) (by (with_reducible repeat (first | refine blk_drewN ?_ _ | refine blk_drew ?_ | refine blk_alloc ?_ _)); refine blk_far ?_ NB196_228.out _; (with_reducible repeat (first | refine blk_drewN ?_ _ | refine blk_drew ?_ | refine blk_alloc ?_ _)); refine blk_far ?_ NB196_228.out _; (with_reducible repeat (first | refine blk_drewN ?_ _ | refine blk_drew ?_ | refine blk_alloc ?_ _)); refine blk_far ?_ NB196_228.out _; exact lK <| BK196.out) hb); have n12_ := Aside0.mk (blk_below (g := gb220) (o := .cells #[.slice Ao53 t213.length co53, .slice Ao55 t216.length co55, .int .i64 t219] 26 (0, 0)) (by (with_reducible repeat (first | refine blk_drewN ?_ _ | refine blk_drew ?_ | refine blk_alloc ?_ _)); refine blk_far ?_ NB220_228.out _; (with_reducible repeat (first | refine blk_drewN ?_ _ | refine blk_drew ?_ | refine blk_alloc ?_ _)); refine blk_far ?_ NB220_228.out _; (with_reducible repeat (first | refine blk_drewN ?_ _ | refine blk_drew ?_ | refine blk_alloc ?_ _)); refine blk_far ?_ NB220_228.out _; exact lK <| BK220.out) hb); have n13_ := Aside0.mk (blk_below (g := gb228) (o := .cells #[.slice Ao62 t221.length co62, .slice Ao67 t224.length co67, .int .i64 t227] 26 (0, 0)) (by (with_reducible repeat (first | refine blk_drewN ?_ _ | refine blk_drew ?_ | refine blk_alloc ?_ _)); refine blk_put (cs := #[.slice Ao62 t221.length co62, .slice Ao67 t224.length co67, .int .i64 0]) ?_ 2 _ rfl; (with_reducible repeat (first | refine blk_drewN ?_ _ | refine blk_drew ?_ | refine blk_alloc ?_ _)); refine blk_put (cs := #[.slice Ao62 t221.length co62, .slice none 0 0, .int .i64 0]) ?_ 1 _ rfl; (with_reducible repeat (first | refine blk_drewN ?_ _ | refine blk_drew ?_ | refine blk_alloc ?_ _)); refine blk_put (cs := #[.slice none 0 0, .slice none 0 0, .int .i64 0]) ?_ 0 _ rfl; exact lK <| BK228.out) hb); have n14_ := Aside0.mk (below_step (by repeat (first | (with_reducible first | exact HB.out | apply below_alloc | apply pw_below_drewN | apply below_drew1 | refine below_set ?_ (by first | exact GE195.out | exact GE196.out | exact GE220.out | exact GE228.out)) | exact HB.out)) hb); clear HO201; clear HO204; clear HO208; clear HO211; clear HO215; clear HO218; clear HO223; clear HO226; clear BK195; clear BK196; clear BK220; clear BK228; clear HB; have HO201 := n0_; have HO204 := n1_; have HO208 := n2_; have HO211 := n3_; have HO215 := n4_; have HO218 := n5_; have HO223 := n6_; have HO226 := n7_; have HO231 := n8_; have HO234 := n9_; have BK195 := n10_; have BK196 := n11_; have BK220 := n12_; have BK228 := n13_; have HB := n14_; clear n0_ n1_ n2_ n3_ n4_ n5_ n6_ n7_ n8_ n9_ n10_ n11_ n12_ n13_ n14_; (try clear hb); (try clear hb2); (try clear hk); (try clear hi); (try clear ho0); (try clear ho1)) | ((with_reducible refine gate_dst (N := 8) rfl ?_); refine box_event ?hg (N := 8) ?hd (cs := #[.slice none 0 0, .slice none 0 0, .int .i64 0]) (t := 26) ?hr ?_; (case hd => rfl); (case hg => rfl); (case hr => first | (go_simp; done) | (go_simp; rfl)); intro gb236 hg w71 hbox hb; have n0_ := Aside0.mk (Kd.R_below (by exact lR <| HO201.out) hb); have n1_ := Aside0.mk (Kd.R_below (by exact lR <| HO204.out) hb); have n2_ := Aside0.mk (Kd.R_below (by exact lR <| HO208.out) hb); have n3_ := Aside0.mk (Kd.R_below (by exact lR <| HO211.out) hb); have n4_ := Aside0.mk (Kd.R_below (by exact lR <| HO215.out) hb); have n5_ := Aside0.mk (Kd.R_below (by exact lR <| HO218.out) hb); have n6_ := Aside0.mk (Kd.R_below (by exact lR <| HO223.out) hb); have n7_ := Aside0.mk (Kd.R_below (by exact lR <| HO226.out) hb); have n8_ := Aside0.mk (Kd.R_below (by exact lR <| HO231.out) hb); have n9_ := Aside0.mk (Kd.R_below (by exact lR <| HO234.out) hb); have n10_ := Aside0.mk (blk_below (g := gb195) (o := .cells #[.slice A0_0 l0_0.length c0_0, .slice A0_1 l0_1.length c0_1, .int .i64 a0_2] 24 (0, 0)) (by exact lK <| BK195.out) hb); have n11_ := Aside0.mk (blk_below (g := gb196) (o := .cells #[.slice A1_0 l1_0.length c1_0, .slice A1_1 l1_1.length c1_1, .int .i64 a1_2] 24 (0, 0)) (by exact lK <| BK196.out) hb); have n12_ := Aside0.mk (blk_below (g := gb220) (o := .cells #[.slice Ao53 t213.length co53, .slice Ao55 t216.length co55, .int .i64 t219] 26 (0, 0)) (by exact lK <| BK220.out) hb); have n13_ := Aside0.mk (blk_below (g := gb228) (o := .cells #[.slice Ao62 t221.length co62, .slice Ao67 t224.length co67, .int .i64 t227] 26 (0, 0)) (by exact lK <| BK228.out) hb); have n14_ := Aside0.mk (below_step (by repeat (first | (with_reducible first | exact HB.out | apply below_alloc | apply pw_below_drewN | apply below_drew1 | refine below_set ?_ (by first | exact GE195.out | exact GE196.out | exact GE220.out | exact GE228.out)) | exact HB.out)) hb); have n15_ := Aside0.mk (hbox); have n16_ := Aside0.mk ((by rw [hg]; exact (below_size (by repeat (first | (with_reducible first | exact HB.out | apply below_alloc | apply pw_below_drewN | apply below_drew1 | refine below_set ?_ (by first | exact GE195.out | exact GE196.out | exact GE220.out | exact GE228.out)) | exact HB.out))) : w.heap.size ≤ gb236)); have n17_ := Aside0.mk ((by rw [hg]; exact (below_size (by repeat (first | (with_reducible first | exact HB.out | apply below_alloc | apply pw_below_drewN | apply below_drew1 | refine below_set ?_ (by first | exact GE195.out | exact GE196.out | exact GE220.out | exact GE228.out)) | exact HB.out))) : w.heap.size ≤ gb236)); have n18_ := Aside0.mk ((neL hg (lK BK195.out) : gb195 ≠ gb236)); have n19_ := Aside0.mk ((neG hg (lK BK195.out) : gb236 ≠ gb195)); have n20_ := Aside0.mk ((neL hg (lK BK196.out) : gb196 ≠ gb236)); have n21_ := Aside0.mk ((neG hg (lK BK196.out) : gb236 ≠ gb196)); have n22_ := Aside0.mk ((neL hg (lK BK220.out) : gb220 ≠ gb236)); have n23_ := Aside0.mk ((neG hg (lK BK220.out) : gb236 ≠ gb220)); have n24_ := Aside0.mk ((neL hg (lK BK228.out) : gb228 ≠ gb236)); have n25_ := Aside0.mk ((neG hg (lK BK228.out) : gb236 ≠ gb228)); clear HO201; clear HO204; clear HO208; clear HO211; clear HO215; clear HO218; clear HO223; clear HO226; clear HO231; clear HO234; clear BK195; clear BK196; clear BK220; clear BK228; clear HB; have HO201 := n0_; have HO204 := n1_; have HO208 := n2_; have HO211 := n3_; have HO215 := n4_; have HO218 := n5_; have HO223 := n6_; have HO226 := n7_; have HO231 := n8_; have HO234 := n9_; have BK195 := n10_; have BK196 := n11_; have BK220 := n12_; have BK228 := n13_; have HB := n14_; have BK236 := n15_; have GW236 := n16_; have GE236 := n17_; have NB195_236 := n18_; have NB236_195 := n19_; have NB196_236 := n20_; have NB236_196 := n21_; have NB220_236 := n22_; have NB236_220 := n23_; have NB228_236 := n24_; have NB236_228 := n25_; clear n0_ n1_ n2_ n3_ n4_ n5_ n6_ n7_ n8_ n9_ n10_ n11_ n12_ n13_ n14_ n15_ n16_ n17_ n18_ n19_ n20_ n21_ n22_ n23_ n24_ n25_; clear hb hbox hg; obtain ⟨Ao72, co72, eo72⟩ := Kd.R_slice HO231.out; subst eo72; have hnb73 := NB236_195.out; have hnc73 := NB195_236.out; have hnb74 := NB236_196.out; have hnc74 := NB196_236.out; have hnb75 := NB236_220.out; have hnc75 := NB220_236.out; have hnb76 := NB236_228.out; have hnc76 := NB228_236.out; have hcz77_0 : w71.cell? ⟨gb236, 0, none⟩ = some (.slice none 0 0) := (blk_cell BK236.out 0).trans rfl; have hcz77_1 : w71.cell? ⟨gb236, 1, none⟩ = some (.slice none 0 0) := (blk_cell BK236.out 1).trans rfl; have hcz77_2 : w71.cell? ⟨gb236, 2, none⟩ = some (.int .i64 0) := (blk_cell BK236.out 2).trans rfl; have hfz77_0 := blk_frozen BK236.out 0; have hfz77_1 := blk_frozen BK236.out 1; have hfz77_2 := blk_frozen BK236.out 2; obtain ⟨Ao78, co78, eo78⟩ := Kd.R_slice HO234.out; subst eo78; have hcz79_0 : w71.cell? ⟨gb228, 0, none⟩ = some (.slice Ao62 t221.length co62) := (blk_cell BK228.out 0).trans rfl; have hcz79_1 : w71.cell? ⟨gb228, 1, none⟩ = some (.slice Ao67 t224.length co67) := (blk_cell BK228.out 1).trans rfl; have hcz79_2 : w71.cell? ⟨gb228, 2, none⟩ = some (.int .i64 t227) := (blk_cell BK228.out 2).trans rfl; have hfz79_0 := blk_frozen BK228.out 0; have hfz79_1 := blk_frozen BK228.out 1; have hfz79_2 := blk_frozen BK228.out 2) | ((with_reducible refine gate_callee (f := 11) rfl ?_); refine goesL_ (some 35) rfl rfl Try.func11 (by kernel_rfl) rfl #[.agg #[.slice Ao62 t221.length co62, .slice Ao67 t224.length co67, .int .i64 t227], .agg #[.slice Ao72 t229.length co72, .slice Ao78 t232.length co78, .int .i64 t235]] rfl (by (try simp only [List.map_toArray, List.map_cons, List.map_nil]); first | done | rfl | (simp only [List.length_drop, List.length_take]; rfl)) ?_; (with_reducible refine (impl_FrmAdd.calls _ _ t221 _ _ t224 t227 _ _ t229 _ _ t232 t235 t237 t240 t243 _ ?side1 ?side2 ?side3 ?side4 ?side5 ?side6 ?side7 ?side8 A24.out).mono ?_); (case side1 => refine (Kd.R_reads' (e := 3) (base := w.heap.size) (ok := fun k_ => ((((((((some k_ ≠ (.slice Ao67 t224.length co67 : Value).ownBlock ∧ some k_ ≠ (v200 : Value).ownBlock) ∧ some k_ ≠ (v203 : Value).ownBlock) ∧ some k_ ≠ (v207 : Value).ownBlock) ∧ some k_ ≠ (v210 : Value).ownBlock) ∧ some k_ ≠ (.slice Ao53 t213.length co53 : Value).ownBlock) ∧ some k_ ≠ (.slice Ao55 t216.length co55 : Value).ownBlock) ∧ some k_ ≠ (.slice Ao72 t229.length co72 : Value).ownBlock) ∧ some k_ ≠ (.slice Ao78 t232.length co78 : Value).ownBlock)) (n := t221.length) (c := co62) ?_).2.2; exact (by (with_reducible repeat (first | apply ra | apply rn | apply re)); exact (R3 HO223.out BK236.out))); (case side2 => exact (Kd.R_reads' HO223.out).2.1); (case side3 => refine (Kd.R_reads' (e := 3) (base := w.heap.size) (ok := fun k_ => ((((((((some k_ ≠ (.slice Ao62 t221.length co62 : Value).ownBlock ∧ some k_ ≠ (v200 : Value).ownBlock) ∧ some k_ ≠ (v203 : Value).ownBlock) ∧ some k_ ≠ (v207 : Value).ownBlock) ∧ some k_ ≠ (v210 : Value).ownBlock) ∧ some k_ ≠ (.slice Ao53 t213.length co53 : Value).ownBlock) ∧ some k_ ≠ (.slice Ao55 t216.length co55 : Value).ownBlock) ∧ some k_ ≠ (.slice Ao72 t229.length co72 : Value).ownBlock) ∧ some k_ ≠ (.slice Ao78 t232.length co78 : Value).ownBlock)) (n := t224.length) (c := co67) ?_).2.2; exact (by (with_reducible repeat (first | apply ra | apply rn | apply re)); exact (R3 HO226.out BK236.out))); (case side4 => exact (Kd.R_reads' HO226.out).2.1); (case side5 => refine (Kd.R_reads' (e := 3) (base := w.heap.size) (ok := fun k_ => ((((((((some k_ ≠ (.slice Ao78 t232.length co78 : Value).ownBlock ∧ some k_ ≠ (v200 : Value).ownBlock) ∧ some k_ ≠ (v203 : Value).ownBlock) ∧ some k_ ≠ (v207 : Value).ownBlock) ∧ some k_ ≠ (v210 : Value).ownBlock) ∧ some k_ ≠ (.slice Ao53 t213.length co53 : Value).ownBlock) ∧ some k_ ≠ (.slice Ao55 t216.length co55 : Value).ownBlock) ∧ some k_ ≠ (.slice Ao62 t221.length co62 : Value).ownBlock) ∧ some k_ ≠ (.slice Ao67 t224.length co67 : Value).ownBlock)) (n := t229.length) (c := co72) ?_).2.2; exact (by (with_reducible repeat (first | apply ra | apply rn | apply re)); exact (R3 HO231.out BK236.out))); (case side6 => exact (Kd.R_reads' HO231.out).2.1); (case side7 => refine (Kd.R_reads' (e := 3) (base := w.heap.size) (ok := fun k_ => ((((((((some k_ ≠ (.slice Ao72 t229.length co72 : Value).ownBlock ∧ some k_ ≠ (v200 : Value).ownBlock) ∧ some k_ ≠ (v203 : Value).ownBlock) ∧ some k_ ≠ (v207 : Value).ownBlock) ∧ some k_ ≠ (v210 : Value).ownBlock) ∧ some k_ ≠ (.slice Ao53 t213.length co53 : Value).ownBlock) ∧ some k_ ≠ (.slice Ao55 t216.length co55 : Value).ownBlock) ∧ some k_ ≠ (.slice Ao62 t221.length co62 : Value).ownBlock) ∧ some k_ ≠ (.slice Ao67 t224.length co67 : Value).ownBlock)) (n := t232.length) (c := co78) ?_).2.2; exact (by (with_reducible repeat (first | apply ra | apply rn | apply re)); exact (R3 HO234.out BK236.out))); (case side8 => exact (Kd.R_reads' HO234.out).2.1); rintro e w80 ⟨v238, v241, rfl, ho0, ho1, hb⟩; refine ⟨_, rfl, ?_⟩; have n0_ := Aside0.mk (Kd.R_mono (Kd.R_told (Kd.R_told (Kd.R_old (by (with_reducible repeat (first | apply ra | apply rn | apply re)); exact (R3 HO201.out BK236.out)) hb) (Kd.R_base ho0)) (Kd.R_base ho1)) (fun _ h_ => h_.1)); have n1_ := Aside0.mk (Kd.R_mono (Kd.R_told (Kd.R_told (Kd.R_old (by (with_reducible repeat (first | apply ra | apply rn | apply re)); exact (R3 HO204.out BK236.out)) hb) (Kd.R_base ho0)) (Kd.R_base ho1)) (fun _ h_ => h_.1)); have n2_ := Aside0.mk (Kd.R_mono (Kd.R_told (Kd.R_told (Kd.R_old (by (with_reducible repeat (first | apply ra | apply rn | apply re)); exact (R3 HO208.out BK236.out)) hb) (Kd.R_base ho0)) (Kd.R_base ho1)) (fun _ h_ => h_.1)); have n3_ := Aside0.mk (Kd.R_mono (Kd.R_told (Kd.R_told (Kd.R_old (by (with_reducible repeat (first | apply ra | apply rn | apply re)); exact (R3 HO211.out BK236.out)) hb) (Kd.R_base ho0)) (Kd.R_base ho1)) (fun _ h_ => h_.1)); have n4_ := Aside0.mk (Kd.R_mono (Kd.R_told (Kd.R_told (Kd.R_old (by (with_reducible repeat (first | apply ra | apply rn | apply re)); exact (R3 HO215.out BK236.out)) hb) (Kd.R_base ho0)) (Kd.R_base ho1)) (fun _ h_ => h_.1)); have n5_ := Aside0.mk (Kd.R_mono (Kd.R_told (Kd.R_told (Kd.R_old (by (with_reducible repeat (first | apply ra | apply rn | apply re)); exact (R3 HO218.out BK236.out)) hb) (Kd.R_base ho0)) (Kd.R_base ho1)) (fun _ h_ => h_.1)); have n6_ := Aside0.mk (Kd.R_mono (Kd.R_told (Kd.R_told (Kd.R_old (by (with_reducible repeat (first | apply ra | apply rn | apply re)); exact (R3 HO223.out BK236.out)) hb) (Kd.R_base ho0)) (Kd.R_base ho1)) (fun _ h_ => h_.1)); have n7_ := Aside0.mk (Kd.R_mono (Kd.R_told (Kd.R_told (Kd.R_old (by (with_reducible repeat (first | apply ra | apply rn | apply re)); exact (R3 HO226.out BK236.out)) hb) (Kd.R_base ho0)) (Kd.R_base ho1)) (fun _ h_ => h_.1)); have n8_ := Aside0.mk (Kd.R_mono (Kd.R_told (Kd.R_told (Kd.R_old (by (with_reducible repeat (first | apply ra | apply rn | apply re)); exact (R3 HO231.out BK236.out)) hb) (Kd.R_base ho0)) (Kd.R_base ho1)) (fun _ h_ => h_.1)); have n9_ := Aside0.mk (Kd.R_mono (Kd.R_told (Kd.R_told (Kd.R_old (by (with_reducible repeat (first | apply ra | apply rn | apply re)); exact (R3 HO234.out BK236.out)) hb) (Kd.R_base ho0)) (Kd.R_base ho1)) (fun _ h_ => h_.1)); have n10_ := Aside0.mk (Kd.R_lower (Kd.R_new' (Kd.R_new' (Kd.R_new' (Kd.R_new' (Kd.R_new' (Kd.R_new' (Kd.R_new' (Kd.R_new' (Kd.R_new' (Kd.R_new' ho0 (Kd.R_lt (by (with_reducible repeat (first | apply ra | apply rn | apply re)); exact (R3 HO201.out BK236.out)))) (Kd.R_lt (by (with_reducible repeat (first | apply ra | apply rn | apply re)); exact (R3 HO204.out BK236.out)))) (Kd.R_lt (by (with_reducible repeat (first | apply ra | apply rn | apply re)); exact (R3 HO208.out BK236.out)))) (Kd.R_lt (by (with_reducible repeat (first | apply ra | apply rn | apply re)); exact (R3 HO211.out BK236.out)))) (Kd.R_lt (by (with_reducible repeat (first | apply ra | apply rn | apply re)); exact (R3 HO215.out BK236.out)))) (Kd.R_lt (by (with_reducible repeat (first | apply ra | apply rn | apply re)); exact (R3 HO218.out BK236.out)))) (Kd.R_lt (by (with_reducible repeat (first | apply ra | apply rn | apply re)); exact (R3 HO223.out BK236.out)))) (Kd.R_lt (by (with_reducible repeat (first | apply ra | apply rn | apply re)); exact (R3 HO226.out BK236.out)))) (Kd.R_lt (by (with_reducible repeat (first | apply ra | apply rn | apply re)); exact (R3 HO231.out BK236.out)))) (Kd.R_lt (by (with_reducible repeat (first | apply ra | apply rn | apply re)); exact (R3 HO234.out BK236.out)))) (below_size (by repeat (first | (with_reducible first | exact HB.out | apply below_alloc | apply pw_below_drewN | apply below_drew1 | refine below_set ?_ (by first | exact GE195.out | exact GE196.out | exact GE220.out | exact GE228.out | exact GE236.out)) | exact HB.out)))); have n11_ := Aside0.mk (Kd.R_lower (Kd.R_new' (Kd.R_new' (Kd.R_new' (Kd.R_new' (Kd.R_new' (Kd.R_new' (Kd.R_new' (Kd.R_new' (Kd.R_new' (Kd.R_new' ho1 (Kd.R_lt (by (with_reducible repeat (first | apply ra | apply rn | apply re)); exact (R3 HO201.out BK236.out)))) (Kd.R_lt (by (with_reducible repeat (first | apply ra | apply rn | apply re)); exact (R3 HO204.out BK236.out)))) (Kd.R_lt (by (with_reducible repeat (first | apply ra | apply rn | apply re)); exact (R3 HO208.out BK236.out)))) (Kd.R_lt (by (with_reducible repeat (first | apply ra | apply rn | apply re)); exact (R3 HO211.out BK236.out)))) (Kd.R_lt (by (with_reducible repeat (first | apply ra | apply rn | apply re)); exact (R3 HO215.out BK236.out)))) (Kd.R_lt (by (with_reducible repeat (first | apply ra | apply rn | apply re)); exact (R3 HO218.out BK236.out)))) (Kd.R_lt (by (with_reducible repeat (first | apply ra | apply rn | apply re)); exact (R3 HO223.out BK236.out)))) (Kd.R_lt (by (with_reducible repeat (first | apply ra | apply rn | apply re)); exact (R3 HO226.out BK236.out)))) (Kd.R_lt (by (with_reducible repeat (first | apply ra | apply rn | apply re)); exact (R3 HO231.out BK236.out)))) (Kd.R_lt (by (with_reducible repeat (first | apply ra | apply rn | apply re)); exact (R3 HO234.out BK236.out)))) (below_size (by repeat (first | (with_reducible first | exact HB.out | apply below_alloc | apply pw_below_drewN | apply below_drew1 | refine below_set ?_ (by first | exact GE195.out | exact GE196.out | exact GE220.out | exact GE228.out | exact GE236.out)) | exact HB.out)))); have n12_ := Aside0.mk (blk_below (g := gb195) (o := .cells #[.slice A0_0 l0_0.length c0_0, .slice A0_1 l0_1.length c0_1, .int .i64 a0_2] 24 (0, 0)) (by (with_reducible repeat (first | refine blk_drewN ?_ _ | refine blk_drew ?_ | refine blk_alloc ?_ _)); refine blk_far ?_ NB195_236.out _; (with_reducible repeat (first | refine blk_drewN ?_ _ | refine blk_drew ?_ | refine blk_alloc ?_ _)); refine blk_far ?_ NB195_236.out _; (with_reducible repeat (first | refine blk_drewN ?_ _ | refine blk_drew ?_ | refine blk_alloc ?_ _)); refine blk_far ?_ NB195_236.out _; exact lK <| BK195.out) hb); have n13_ := Aside0.mk (blk_below (g := gb196) (o := .cells #[.slice A1_0 l1_0.length c1_0, .slice A1_1 l1_1.length c1_1, .int .i64 a1_2] 24 (0, 0)) (by (with_reducible repeat (first | refine blk_drewN ?_ _ | refine blk_drew ?_ | refine blk_alloc ?_ _)); refine blk_far ?_ NB196_236.out _; (with_reducible repeat (first | refine blk_drewN ?_ _ | refine blk_drew ?_ | refine blk_alloc ?_ _)); refine blk_far ?_ NB196_236.out _; (with_reducible repeat (first | refine blk_drewN ?_ _ | refine blk_drew ?_ | refine blk_alloc ?_ _)); refine blk_far ?_ NB196_236.out _; exact lK <| BK196.out) hb); have n14_ := Aside0.mk (blk_below (g := gb220) (o := .cells #[.slice Ao53 t213.length co53, .slice Ao55 t216.length co55, .int .i64 t219] 26 (0, 0)) (by (with_reducible repeat (first | refine blk_drewN ?_ _ | refine blk_drew ?_ | refine blk_alloc ?_ _)); refine blk_far ?_ NB220_236.out _; (with_reducible repeat (first | refine blk_drewN ?_ _ | refine blk_drew ?_ | refine blk_alloc ?_ _)); refine blk_far ?_ NB220_236.out _; (with_reducible repeat (first | refine blk_drewN ?_ _ | refine blk_drew ?_ | refine blk_alloc ?_ _)); refine blk_far ?_ NB220_236.out _; exact lK <| BK220.out) hb); have n15_ := Aside0.mk (blk_below (g := gb228) (o := .cells #[.slice Ao62 t221.length co62, .slice Ao67 t224.length co67, .int .i64 t227] 26 (0, 0)) (by (with_reducible repeat (first | refine blk_drewN ?_ _ | refine blk_drew ?_ | refine blk_alloc ?_ _)); refine blk_far ?_ NB228_236.out _; (with_reducible repeat (first | refine blk_drewN ?_ _ | refine blk_drew ?_ | refine blk_alloc ?_ _)); refine blk_far ?_ NB228_236.out _; (with_reducible repeat (first | refine blk_drewN ?_ _ | refine blk_drew ?_ | refine blk_alloc ?_ _)); refine blk_far ?_ NB228_236.out _; exact lK <| BK228.out) hb); have n16_ := Aside0.mk (blk_below (g := gb236) (o := .cells #[.slice Ao72 t229.length co72, .slice Ao78 t232.length co78, .int .i64 t235] 26 (0, 0)) (by (with_reducible repeat (first | refine blk_drewN ?_ _ | refine blk_drew ?_ | refine blk_alloc ?_ _)); refine blk_put (cs := #[.slice Ao72 t229.length co72, .slice Ao78 t232.length co78, .int .i64 0]) ?_ 2 _ rfl; (with_reducible repeat (first | refine blk_drewN ?_ _ | refine blk_drew ?_ | refine blk_alloc ?_ _)); refine blk_put (cs := #[.slice Ao72 t229.length co72, .slice none 0 0, .int .i64 0]) ?_ 1 _ rfl; (with_reducible repeat (first | refine blk_drewN ?_ _ | refine blk_drew ?_ | refine blk_alloc ?_ _)); refine blk_put (cs := #[.slice none 0 0, .slice none 0 0, .int .i64 0]) ?_ 0 _ rfl; exact lK <| BK236.out) hb); have n17_ := Aside0.mk (below_step (by repeat (first | (with_reducible first | exact HB.out | apply below_alloc | apply pw_below_drewN | apply below_drew1 | refine below_set ?_ (by first | exact GE195.out | exact GE196.out | exact GE220.out | exact GE228.out | exact GE236.out)) | exact HB.out)) hb); clear HO201; clear HO204; clear HO208; clear HO211; clear HO215; clear HO218; clear HO223; clear HO226; clear HO231; clear HO234; clear BK195; clear BK196; clear BK220; clear BK228; clear BK236; clear HB; have HO201 := n0_; have HO204 := n1_; have HO208 := n2_; have HO211 := n3_; have HO215 := n4_; have HO218 := n5_; have HO223 := n6_; have HO226 := n7_; have HO231 := n8_; have HO234 := n9_; have HO239 := n10_; have HO242 := n11_; have BK195 := n12_; have BK196 := n13_; have BK220 := n14_; have BK228 := n15_; have BK236 := n16_; have HB := n17_; clear n0_ n1_ n2_ n3_ n4_ n5_ n6_ n7_ n8_ n9_ n10_ n11_ n12_ n13_ n14_ n15_ n16_ n17_; (try clear hb); (try clear hb2); (try clear hk); (try clear hi); (try clear ho0); (try clear ho1)) | ((with_reducible refine gate_dst (N := 9) rfl ?_); refine box_event ?hg (N := 9) ?hd (cs := #[.slice none 0 0, .slice none 0 0, .int .i64 0]) (t := 26) ?hr ?_; (case hd => rfl); (case hg => rfl); (case hr => first | (go_simp; done) | (go_simp; rfl)); intro gb244 hg w81 hbox hb; have n0_ := Aside0.mk (Kd.R_below (by exact lR <| HO201.out) hb); have n1_ := Aside0.mk (Kd.R_below (by exact lR <| HO204.out) hb); have n2_ := Aside0.mk (Kd.R_below (by exact lR <| HO208.out) hb); have n3_ := Aside0.mk (Kd.R_below (by exact lR <| HO211.out) hb); have n4_ := Aside0.mk (Kd.R_below (by exact lR <| HO215.out) hb); have n5_ := Aside0.mk (Kd.R_below (by exact lR <| HO218.out) hb); have n6_ := Aside0.mk (Kd.R_below (by exact lR <| HO223.out) hb); have n7_ := Aside0.mk (Kd.R_below (by exact lR <| HO226.out) hb); have n8_ := Aside0.mk (Kd.R_below (by exact lR <| HO231.out) hb); have n9_ := Aside0.mk (Kd.R_below (by exact lR <| HO234.out) hb); have n10_ := Aside0.mk (Kd.R_below (by exact lR <| HO239.out) hb); have n11_ := Aside0.mk (Kd.R_below (by exact lR <| HO242.out) hb); have n12_ := Aside0.mk (blk_below (g := gb195) (o := .cells #[.slice A0_0 l0_0.length c0_0, .slice A0_1 l0_1.length c0_1, .int .i64 a0_2] 24 (0, 0)) (by exact lK <| BK195.out) hb); have n13_ := Aside0.mk (blk_below (g := gb196) (o := .cells #[.slice A1_0 l1_0.length c1_0, .slice A1_1 l1_1.length c1_1, .int .i64 a1_2] 24 (0, 0)) (by exact lK <| BK196.out) hb); have n14_ := Aside0.mk (blk_below (g := gb220) (o := .cells #[.slice Ao53 t213.length co53, .slice Ao55 t216.length co55, .int .i64 t219] 26 (0, 0)) (by exact lK <| BK220.out) hb); have n15_ := Aside0.mk (blk_below (g := gb228) (o := .cells #[.slice Ao62 t221.length co62, .slice Ao67 t224.length co67, .int .i64 t227] 26 (0, 0)) (by exact lK <| BK228.out) hb); have n16_ := Aside0.mk (blk_below (g := gb236) (o := .cells #[.slice Ao72 t229.length co72, .slice Ao78 t232.length co78, .int .i64 t235] 26 (0, 0)) (by exact lK <| BK236.out) hb); have n17_ := Aside0.mk (below_step (by repeat (first | (with_reducible first | exact HB.out | apply below_alloc | apply pw_below_drewN | apply below_drew1 | refine below_set ?_ (by first | exact GE195.out | exact GE196.out | exact GE220.out | exact GE228.out | exact GE236.out)) | exact HB.out)) hb); have n18_ := Aside0.mk (hbox); have n19_ := Aside0.mk ((by rw [hg]; exact (below_size (by repeat (first | (with_reducible first | exact HB.out | apply below_alloc | apply pw_below_drewN | apply below_drew1 | refine below_set ?_ (by first | exact GE195.out | exact GE196.out | exact GE220.out | exact GE228.out | exact GE236.out)) | exact HB.out))) : w.heap.size ≤ gb244)); have n20_ := Aside0.mk ((by rw [hg]; exact (below_size (by repeat (first | (with_reducible first | exact HB.out | apply below_alloc | apply pw_below_drewN | apply below_drew1 | refine below_set ?_ (by first | exact GE195.out | exact GE196.out | exact GE220.out | exact GE228.out | exact GE236.out)) | exact HB.out))) : w.heap.size ≤ gb244)); have n21_ := Aside0.mk ((neL hg (lK BK195.out) : gb195 ≠ gb244)); have n22_ := Aside0.mk ((neG hg (lK BK195.out) : gb244 ≠ gb195)); have n23_ := Aside0.mk ((neL hg (lK BK196.out) : gb196 ≠ gb244)); have n24_ := Aside0.mk ((neG hg (lK BK196.out) : gb244 ≠ gb196)); have n25_ := Aside0.mk ((neL hg (lK BK220.out) : gb220 ≠ gb244)); have n26_ := Aside0.mk ((neG hg (lK BK220.out) : gb244 ≠ gb220)); have n27_ := Aside0.mk ((neL hg (lK BK228.out) : gb228 ≠ gb244)); have n28_ := Aside0.mk ((neG hg (lK BK228.out) : gb244 ≠ gb228)); have n29_ := Aside0.mk ((neL hg (lK BK236.out) : gb236 ≠ gb244)); have n30_ := Aside0.mk ((neG hg (lK BK236.out) : gb244 ≠ gb236)); clear HO201; clear HO204; clear HO208; clear HO211; clear HO215; clear HO218; clear HO223; clear HO226; clear HO231; clear HO234; clear HO239; clear HO242; clear BK195; clear BK196; clear BK220; clear BK228; clear BK236; clear HB; have HO201 := n0_; have HO204 := n1_; have HO208 := n2_; have HO211 := n3_; have HO215 := n4_; have HO218 := n5_; have HO223 := n6_; have HO226 := n7_; have HO231 := n8_; have HO234 := n9_; have HO239 := n10_; have HO242 := n11_; have BK195 := n12_; have BK196 := n13_; have BK220 := n14_; have BK228 := n15_; have BK236 := n16_; have HB := n17_; have BK244 := n18_; have GW244 := n19_; have GE244 := n20_; have NB195_244 := n21_; have NB244_195 := n22_; have NB196_244 := n23_; have NB244_196 := n24_; have NB220_244 := n25_; have NB244_220 := n26_; have NB228_244 := n27_; have NB244_228 := n28_; have NB236_244 := n29_; have NB244_236 := n30_; clear n0_ n1_ n2_ n3_ n4_ n5_ n6_ n7_ n8_ n9_ n10_ n11_ n12_ n13_ n14_ n15_ n16_ n17_ n18_ n19_ n20_ n21_ n22_ n23_ n24_ n25_ n26_ n27_ n28_ n29_ n30_; clear hb hbox hg; obtain ⟨Ao82, co82, eo82⟩ := Kd.R_slice HO239.out; subst eo82; have hnb83 := NB244_195.out; have hnc83 := NB195_244.out; have hnb84 := NB244_196.out; have hnc84 := NB196_244.out; have hnb85 := NB244_220.out; have hnc85 := NB220_244.out; have hnb86 := NB244_228.out; have hnc86 := NB228_244.out; have hnb87 := NB244_236.out; have hnc87 := NB236_244.out; have hcz88_0 : w81.cell? ⟨gb244, 0, none⟩ = some (.slice none 0 0) := (blk_cell BK244.out 0).trans rfl; have hcz88_1 : w81.cell? ⟨gb244, 1, none⟩ = some (.slice none 0 0) := (blk_cell BK244.out 1).trans rfl; have hcz88_2 : w81.cell? ⟨gb244, 2, none⟩ = some (.int .i64 0) := (blk_cell BK244.out 2).trans rfl; have hfz88_0 := blk_frozen BK244.out 0; have hfz88_1 := blk_frozen BK244.out 1; have hfz88_2 := blk_frozen BK244.out 2; obtain ⟨Ao89, co89, eo89⟩ := Kd.R_slice HO242.out; subst eo89; have hcz90_0 : w81.cell? ⟨gb220, 0, none⟩ = some (.slice Ao53 t213.length co53) := (blk_cell BK220.out 0).trans rfl; have hcz90_1 : w81.cell? ⟨gb220, 1, none⟩ = some (.slice Ao55 t216.length co55) := (blk_cell BK220.out 1).trans rfl; have hcz90_2 : w81.cell? ⟨gb220, 2, none⟩ = some (.int .i64 t219) := (blk_cell BK220.out 2).trans rfl; have hfz90_0 := blk_frozen BK220.out 0; have hfz90_1 := blk_frozen BK220.out 1; have hfz90_2 := blk_frozen BK220.out 2) | ((with_reducible refine gate_callee (f := 12) rfl ?_); refine goesL_ (some 38) rfl rfl Try.func12 (by kernel_rfl) rfl #[.agg #[.slice Ao82 t237.length co82, .slice Ao89 t240.length co89, .int .i64 t243], .agg #[.slice Ao53 t213.length co53, .slice Ao55 t216.length co55, .int .i64 t219]] rfl (by (try simp only [List.map_toArray, List.map_cons, List.map_nil]); first | done | rfl | (simp only [List.length_drop, List.length_take]; rfl)) ?_; (with_reducible refine (laws_eqFrmForm.calls k _ _ t237 _ _ t240 t243 _ _ t213 _ _ t216 t219 true _ ?side1 ?side2 ?side3 ?side4 ?side5 ?side6 ?side7 ?side8 A25.out).mono ?_); (case side1 => refine (Kd.R_reads' (e := 3) (base := w.heap.size) (ok := fun k_ => ((((((((((some k_ ≠ (.slice Ao89 t240.length co89 : Value).ownBlock ∧ some k_ ≠ (v200 : Value).ownBlock) ∧ some k_ ≠ (v203 : Value).ownBlock) ∧ some k_ ≠ (v207 : Value).ownBlock) ∧ some k_ ≠ (v210 : Value).ownBlock) ∧ some k_ ≠ (.slice Ao53 t213.length co53 : Value).ownBlock) ∧ some k_ ≠ (.slice Ao55 t216.length co55 : Value).ownBlock) ∧ some k_ ≠ (.slice Ao62 t221.length co62 : Value).ownBlock) ∧ some k_ ≠ (.slice Ao67 t224.length co67 : Value).ownBlock) ∧ some k_ ≠ (.slice Ao72 t229.length co72 : Value).ownBlock) ∧ some k_ ≠ (.slice Ao78 t232.length co78 : Value).ownBlock)) (n := t237.length) (c := co82) ?_).2.2; exact (by (with_reducible repeat (first | apply ra | apply rn | apply re)); exact (R3 HO239.out BK244.out))); (case side2 => exact (Kd.R_reads' HO239.out).2.1); (case side3 => refine (Kd.R_reads' (e := 3) (base := w.heap.size) (ok := fun k_ => ((((((((((some k_ ≠ (.slice Ao82 t237.length co82 : Value).ownBlock ∧ some k_ ≠ (v200 : Value).ownBlock) ∧ some k_ ≠ (v203 : Value).ownBlock) ∧ some k_ ≠ (v207 : Value).ownBlock) ∧ some k_ ≠ (v210 : Value).ownBlock) ∧ some k_ ≠ (.slice Ao53 t213.length co53 : Value).ownBlock) ∧ some k_ ≠ (.slice Ao55 t216.length co55 : Value).ownBlock) ∧ some k_ ≠ (.slice Ao62 t221.length co62 : Value).ownBlock) ∧ some k_ ≠ (.slice Ao67 t224.length co67 : Value).ownBlock) ∧ some k_ ≠ (.slice Ao72 t229.length co72 : Value).ownBlock) ∧ some k_ ≠ (.slice Ao78 t232.length co78 : Value).ownBlock)) (n := t240.length) (c := co89) ?_).2.2; exact (by (with_reducible repeat (first | apply ra | apply rn | apply re)); exact (R3 HO242.out BK244.out))); (case side4 => exact (Kd.R_reads' HO242.out).2.1); (case side5 => refine (Kd.R_reads' (e := 3) (base := w.heap.size) (ok := fun k_ => (((((((some k_ ≠ (v200 : Value).ownBlock ∧ (some k_ ≠ (v203 : Value).ownBlock ∧ (some k_ ≠ (v207 : Value).ownBlock ∧ (some k_ ≠ (v210 : Value).ownBlock ∧ some k_ ≠ (.slice Ao55 t216.length co55 : Value).ownBlock)))) ∧ some k_ ≠ (.slice Ao62 t221.length co62 : Value).ownBlock) ∧ some k_ ≠ (.slice Ao67 t224.length co67 : Value).ownBlock) ∧ some k_ ≠ (.slice Ao72 t229.length co72 : Value).ownBlock) ∧ some k_ ≠ (.slice Ao78 t232.length co78 : Value).ownBlock) ∧ some k_ ≠ (.slice Ao82 t237.length co82 : Value).ownBlock) ∧ some k_ ≠ (.slice Ao89 t240.length co89 : Value).ownBlock)) (n := t213.length) (c := co53) ?_).2.2; exact (by (with_reducible repeat (first | apply ra | apply rn | apply re)); exact (R3 HO215.out BK244.out))); (case side6 => exact (Kd.R_reads' HO215.out).2.1); (case side7 => refine (Kd.R_reads' (e := 3) (base := w.heap.size) (ok := fun k_ => (((((((some k_ ≠ (v200 : Value).ownBlock ∧ (some k_ ≠ (v203 : Value).ownBlock ∧ (some k_ ≠ (v207 : Value).ownBlock ∧ (some k_ ≠ (v210 : Value).ownBlock ∧ some k_ ≠ (.slice Ao53 t213.length co53 : Value).ownBlock)))) ∧ some k_ ≠ (.slice Ao62 t221.length co62 : Value).ownBlock) ∧ some k_ ≠ (.slice Ao67 t224.length co67 : Value).ownBlock) ∧ some k_ ≠ (.slice Ao72 t229.length co72 : Value).ownBlock) ∧ some k_ ≠ (.slice Ao78 t232.length co78 : Value).ownBlock) ∧ some k_ ≠ (.slice Ao82 t237.length co82 : Value).ownBlock) ∧ some k_ ≠ (.slice Ao89 t240.length co89 : Value).ownBlock)) (n := t216.length) (c := co55) ?_).2.2; exact (by (with_reducible repeat (first | apply ra | apply rn | apply re)); exact (R3 HO218.out BK244.out))); (case side8 => exact (Kd.R_reads' HO218.out).2.1); rintro e w91 ⟨rfl, hb⟩; refine ⟨_, rfl, ?_⟩; have n0_ := Aside0.mk (Kd.R_below (by (with_reducible repeat (first | apply ra | apply rn | apply re)); exact (R3 HO201.out BK244.out)) hb); have n1_ := Aside0.mk (Kd.R_below (by (with_reducible repeat (first | apply ra | apply rn | apply re)); exact (R3 HO204.out BK244.out)) hb); have n2_ := Aside0.mk (Kd.R_below (by (with_reducible repeat (first | apply ra | apply rn | apply re)); exact (R3 HO208.out BK244.out)) hb); have n3_ := Aside0.mk (Kd.R_below (by (with_reducible repeat (first | apply ra | apply rn | apply re)); exact (R3 HO211.out BK244.out)) hb); have n4_ := Aside0.mk (Kd.R_below (by (with_reducible repeat (first | apply ra | apply rn | apply re)); exact (R3 HO215.out BK244.out)) hb); have n5_ := Aside0.mk (Kd.R_below (by (with_reducible repeat (first | apply ra | apply rn | apply re)); exact (R3 HO218.out BK244.out)) hb); have n6_ := Aside0.mk (Kd.R_below (by (with_reducible repeat (first | apply ra | apply rn | apply re)); exact (R3 HO223.out BK244.out)) hb); have n7_ := Aside0.mk (Kd.R_below (by (with_reducible repeat (first | apply ra | apply rn | apply re)); exact (R3 HO226.out BK244.out)) hb); have n8_ := Aside0.mk (Kd.R_below (by (with_reducible repeat (first | apply ra | apply rn | apply re)); exact (R3 HO231.out BK244.out)) hb); have n9_ := Aside0.mk (Kd.R_below (by (with_reducible repeat (first | apply ra | apply rn | apply re)); exact (R3 HO234.out BK244.out)) hb); have n10_ := Aside0.mk (Kd.R_below (by (with_reducible repeat (first | apply ra | apply rn | apply re)); exact (R3 HO239.out BK244.out)) hb); have n11_ := Aside0.mk (Kd.R_below (by (with_reducible repeat (first | apply ra | apply rn | apply re)); exact (R3 HO242.out BK244.out)) hb); have n12_ := Aside0.mk (blk_below (g := gb195) (o := .cells #[.slice A0_0 l0_0.length c0_0, .slice A0_1 l0_1.length c0_1, .int .i64 a0_2] 24 (0, 0)) (by (with_reducible repeat (first | refine blk_drewN ?_ _ | refine blk_drew ?_ | refine blk_alloc ?_ _)); refine blk_far ?_ NB195_244.out _; (with_reducible repeat (first | refine blk_drewN ?_ _ | refine blk_drew ?_ | refine blk_alloc ?_ _)); refine blk_far ?_ NB195_244.out _; (with_reducible repeat (first | refine blk_drewN ?_ _ | refine blk_drew ?_ | refine blk_alloc ?_ _)); refine blk_far ?_ NB195_244.out _; exact lK <| BK195.out) hb); have n13_ := Aside0.mk (blk_below (g := gb196) (o := .cells #[.slice A1_0 l1_0.length c1_0, .slice A1_1 l1_1.length c1_1, .int .i64 a1_2] 24 (0, 0)) (by (with_reducible repeat (first | refine blk_drewN ?_ _ | refine blk_drew ?_ | refine blk_alloc ?_ _)); refine blk_far ?_ NB196_244.out _; (with_reducible repeat (first | refine blk_drewN ?_ _ | refine blk_drew ?_ | refine blk_alloc ?_ _)); refine blk_far ?_ NB196_244.out _; (with_reducible repeat (first | refine blk_drewN ?_ _ | refine blk_drew ?_ | refine blk_alloc ?_ _)); refine blk_far ?_ NB196_244.out _; exact lK <| BK196.out) hb); have n14_ := Aside0.mk (blk_below (g := gb220) (o := .cells #[.slice Ao53 t213.length co53, .slice Ao55 t216.length co55, .int .i64 t219] 26 (0, 0)) (by (with_reducible repeat (first | refine blk_drewN ?_ _ | refine blk_drew ?_ | refine blk_alloc ?_ _)); refine blk_far ?_ NB220_244.out _; (with_reducible repeat (first | refine blk_drewN ?_ _ | refine blk_drew ?_ | refine blk_alloc ?_ _)); refine blk_far ?_ NB220_244.out _; (with_reducible repeat (first | refine blk_drewN ?_ _ | refine blk_drew ?_ | refine blk_alloc ?_ _)); refine blk_far ?_ NB220_244.out _; exact lK <| BK220.out) hb); have n15_ := Aside0.mk (blk_below (g := gb228) (o := .cells #[.slice Ao62 t221.length co62, .slice Ao67 t224.length co67, .int .i64 t227] 26 (0, 0)) (by (with_reducible repeat (first | refine blk_drewN ?_ _ | refine blk_drew ?_ | refine blk_alloc ?_ _)); refine blk_far ?_ NB228_244.out _; (with_reducible repeat (first | refine blk_drewN ?_ _ | refine blk_drew ?_ | refine blk_alloc ?_ _)); refine blk_far ?_ NB228_244.out _; (with_reducible repeat (first | refine blk_drewN ?_ _ | refine blk_drew ?_ | refine blk_alloc ?_ _)); refine blk_far ?_ NB228_244.out _; exact lK <| BK228.out) hb); have n16_ := Aside0.mk (blk_below (g := gb236) (o := .cells #[.slice Ao72 t229.length co72, .slice Ao78 t232.length co78, .int .i64 t235] 26 (0, 0)) (by (with_reducible repeat (first | refine blk_drewN ?_ _ | refine blk_drew ?_ | refine blk_alloc ?_ _)); refine blk_far ?_ NB236_244.out _; (with_reducible repeat (first | refine blk_drewN ?_ _ | refine blk_drew ?_ | refine blk_alloc ?_ _)); refine blk_far ?_ NB236_244.out _; (with_reducible repeat (first | refine blk_drewN ?_ _ | refine blk_drew ?_ | refine blk_alloc ?_ _)); refine blk_far ?_ NB236_244.out _; exact lK <| BK236.out) hb); have n17_ := Aside0.mk (blk_below (g := gb244) (o := .cells #[.slice Ao82 t237.length co82, .slice Ao89 t240.length co89, .int .i64 t243] 26 (0, 0)) (by (with_reducible repeat (first | refine blk_drewN ?_ _ | refine blk_drew ?_ | refine blk_alloc ?_ _)); refine blk_put (cs := #[.slice Ao82 t237.length co82, .slice Ao89 t240.length co89, .int .i64 0]) ?_ 2 _ rfl; (with_reducible repeat (first | refine blk_drewN ?_ _ | refine blk_drew ?_ | refine blk_alloc ?_ _)); refine blk_put (cs := #[.slice Ao82 t237.length co82, .slice none 0 0, .int .i64 0]) ?_ 1 _ rfl; (with_reducible repeat (first | refine blk_drewN ?_ _ | refine blk_drew ?_ | refine blk_alloc ?_ _)); refine blk_put (cs := #[.slice none 0 0, .slice none 0 0, .int .i64 0]) ?_ 0 _ rfl; exact lK <| BK244.out) hb); have n18_ := Aside0.mk (below_step (by repeat (first | (with_reducible first | exact HB.out | apply below_alloc | apply pw_below_drewN | apply below_drew1 | refine below_set ?_ (by first | exact GE195.out | exact GE196.out | exact GE220.out | exact GE228.out | exact GE236.out | exact GE244.out)) | exact HB.out)) hb); clear HO201; clear HO204; clear HO208; clear HO211; clear HO215; clear HO218; clear HO223; clear HO226; clear HO231; clear HO234; clear HO239; clear HO242; clear BK195; clear BK196; clear BK220; clear BK228; clear BK236; clear BK244; clear HB; have HO201 := n0_; have HO204 := n1_; have HO208 := n2_; have HO211 := n3_; have HO215 := n4_; have HO218 := n5_; have HO223 := n6_; have HO226 := n7_; have HO231 := n8_; have HO234 := n9_; have HO239 := n10_; have HO242 := n11_; have BK195 := n12_; have BK196 := n13_; have BK220 := n14_; have BK228 := n15_; have BK236 := n16_; have BK244 := n17_; have HB := n18_; clear n0_ n1_ n2_ n3_ n4_ n5_ n6_ n7_ n8_ n9_ n10_ n11_ n12_ n13_ n14_ n15_ n16_ n17_ n18_; (try clear hb); (try clear hb2); (try clear hk); (try clear hi)))
            have n0_ := Aside0.mk (Kd.R_drew HO201.out)
            have n1_ := Aside0.mk (Kd.R_drew HO204.out)
            have n2_ := Aside0.mk (Kd.R_drew HO208.out)
            have n3_ := Aside0.mk (Kd.R_drew HO211.out)
            have n4_ := Aside0.mk (Kd.R_drew HO215.out)
            have n5_ := Aside0.mk (Kd.R_drew HO218.out)
            have n6_ := Aside0.mk (Kd.R_drew HO223.out)
            have n7_ := Aside0.mk (Kd.R_drew HO226.out)
            have n8_ := Aside0.mk (Kd.R_drew HO231.out)
            have n9_ := Aside0.mk (Kd.R_drew HO234.out)
            have n10_ := Aside0.mk (Kd.R_drew HO239.out)
            have n11_ := Aside0.mk (Kd.R_drew HO242.out)
            have n12_ := Aside0.mk (blk_drew BK195.out)
            have n13_ := Aside0.mk (blk_drew BK196.out)
            have n14_ := Aside0.mk (blk_drew BK220.out)
            have n15_ := Aside0.mk (blk_drew BK228.out)
            have n16_ := Aside0.mk (blk_drew BK236.out)
            have n17_ := Aside0.mk (blk_drew BK244.out)
            have n18_ := Aside0.mk (below_drew1 HB.out)
            clear HO201
            clear HO204
            clear HO208
            clear HO211
            clear HO215
            clear HO218
            clear HO223
            clear HO226
            clear HO231
            clear HO234
            clear HO239
            clear HO242
            clear BK195
            clear BK196
            clear BK220
            clear BK228
            clear BK236
            clear BK244
            clear HB
            have HO201 := n0_
            have HO204 := n1_
            have HO208 := n2_
            have HO211 := n3_
            have HO215 := n4_
            have HO218 := n5_
            have HO223 := n6_
            have HO226 := n7_
            have HO231 := n8_
            have HO234 := n9_
            have HO239 := n10_
            have HO242 := n11_
            have BK195 := n12_
            have BK196 := n13_
            have BK220 := n14_
            have BK228 := n15_
            have BK236 := n16_
            have BK244 := n17_
            have HB := n18_
            clear n0_ n1_ n2_ n3_ n4_ n5_ n6_ n7_ n8_ n9_ n10_ n11_ n12_ n13_ n14_ n15_ n16_ n17_ n18_
            refine start_ (n := 5) (S := fun w' => w'.cell? ⟨gb228, 0, none⟩ = some (.slice Ao62 t221.length co62) ∧ w'.cell? ⟨gb228, 1, none⟩ = some (.slice Ao67 t224.length co67) ∧ w'.cell? ⟨gb228, 2, none⟩ = some (.int .i64 t227) ∧ w'.cell? ⟨gb195, 0, none⟩ = some (.slice A0_0 l0_0.length c0_0) ∧ w'.cell? ⟨gb195, 1, none⟩ = some (.slice A0_1 l0_1.length c0_1) ∧ w'.cell? ⟨gb195, 2, none⟩ = some (.int .i64 a0_2)) (ds := []) #[false, false, false, false, false] (by kernel_rfl) rfl rfl ⟨(blk_cell BK228.out 0).trans rfl, (blk_cell BK228.out 1).trans rfl, (blk_cell BK228.out 2).trans rfl, (blk_cell BK195.out 0).trans rfl, (blk_cell BK195.out 1).trans rfl, (blk_cell BK195.out 2).trans rfl⟩ (fun hHeld => ?_)
            generalize w91.drew = w92 at HO201 HO204 HO208 HO211 HO215 HO218 HO223 HO226 HO231 HO234 HO239 HO242 BK195 BK196 BK220 BK228 BK236 BK244 HB hHeld ⊢
            refine take_ (i := 0) (N := some 40) (v := ?_) (a' := ?_) #[true, false, false, false, false] rfl rfl (by kernel_rfl) (fun _ _ _ h => h) (Or.inl ⟨by rfl, ?_⟩) hHeld ?_ ?_
            rotate_left
            · rintro w' ⟨s0, s1, s2, s3, s4, s5⟩
              go_simp
              with_reducible rfl
            rotate_left
            · simp only [Act.put, List.setIfInBounds_toArray, List.set_cons_zero, List.set_cons_succ, i64_w, i32_w]
              rfl
            refine take_ (i := 1) (N := some 41) (v := ?_) (a' := ?_) #[true, true, false, false, false] rfl rfl (by kernel_rfl) (fun _ _ _ h => h) (Or.inl ⟨by rfl, ?_⟩) hHeld ?_ ?_
            rotate_left
            · rintro w' ⟨s0, s1, s2, s3, s4, s5⟩
              go_simp
              with_reducible rfl
            rotate_left
            · simp only [Act.put, List.setIfInBounds_toArray, List.set_cons_zero, List.set_cons_succ, i64_w, i32_w]
              rfl
            refine one_ (i := 2) (N := some 42) #[true, true, true, false, false] rfl rfl (by kernel_rfl) (by decide) (fun K hK => ?_)
            refine goes_ Try.func10 (by kernel_rfl) rfl #[.agg #[.slice A0_0 l0_0.length c0_0, .slice A0_1 l0_1.length c0_1, .int .i64 a0_2]] (by rfl) rfl rfl (by (try simp only [List.map_toArray, List.map_cons, List.map_nil]); first | done | rfl | (simp only [List.length_drop, List.length_take]; rfl)) ?_
            with_reducible refine (laws_toFrmForm.calls k _ _ l0_0 _ _ l0_1 a0_2 t246 t249 t252 _ ?side1 ?side2 ?side3 ?side4 A27.out).mono ?_
            (case side1 => exact lC <| (Kd.C_below HR0_0.out HB.out))
            (case side2 => exact HC0_0.out)
            (case side3 => exact lC <| (Kd.C_below HR0_1.out HB.out))
            (case side4 => exact HC0_1.out)
            rintro e w93 ⟨v247, v250, rfl, ho0, ho1, hb⟩
            refine ⟨_, rfl, ?_⟩
            have n0_ := Aside0.mk (Kd.R_mono (Kd.R_told (Kd.R_told (Kd.R_old (by exact lR <| HO201.out) hb) (Kd.R_base ho0)) (Kd.R_base ho1)) (fun _ h_ => h_.1))
            have n1_ := Aside0.mk (Kd.R_mono (Kd.R_told (Kd.R_told (Kd.R_old (by exact lR <| HO204.out) hb) (Kd.R_base ho0)) (Kd.R_base ho1)) (fun _ h_ => h_.1))
            have n2_ := Aside0.mk (Kd.R_mono (Kd.R_told (Kd.R_told (Kd.R_old (by exact lR <| HO208.out) hb) (Kd.R_base ho0)) (Kd.R_base ho1)) (fun _ h_ => h_.1))
            have n3_ := Aside0.mk (Kd.R_mono (Kd.R_told (Kd.R_told (Kd.R_old (by exact lR <| HO211.out) hb) (Kd.R_base ho0)) (Kd.R_base ho1)) (fun _ h_ => h_.1))
            have n4_ := Aside0.mk (Kd.R_mono (Kd.R_told (Kd.R_told (Kd.R_old (by exact lR <| HO215.out) hb) (Kd.R_base ho0)) (Kd.R_base ho1)) (fun _ h_ => h_.1))
            have n5_ := Aside0.mk (Kd.R_mono (Kd.R_told (Kd.R_told (Kd.R_old (by exact lR <| HO218.out) hb) (Kd.R_base ho0)) (Kd.R_base ho1)) (fun _ h_ => h_.1))
            have n6_ := Aside0.mk (Kd.R_mono (Kd.R_told (Kd.R_told (Kd.R_old (by exact lR <| HO223.out) hb) (Kd.R_base ho0)) (Kd.R_base ho1)) (fun _ h_ => h_.1))
            have n7_ := Aside0.mk (Kd.R_mono (Kd.R_told (Kd.R_told (Kd.R_old (by exact lR <| HO226.out) hb) (Kd.R_base ho0)) (Kd.R_base ho1)) (fun _ h_ => h_.1))
            have n8_ := Aside0.mk (Kd.R_mono (Kd.R_told (Kd.R_told (Kd.R_old (by exact lR <| HO231.out) hb) (Kd.R_base ho0)) (Kd.R_base ho1)) (fun _ h_ => h_.1))
            have n9_ := Aside0.mk (Kd.R_mono (Kd.R_told (Kd.R_told (Kd.R_old (by exact lR <| HO234.out) hb) (Kd.R_base ho0)) (Kd.R_base ho1)) (fun _ h_ => h_.1))
            have n10_ := Aside0.mk (Kd.R_mono (Kd.R_told (Kd.R_told (Kd.R_old (by exact lR <| HO239.out) hb) (Kd.R_base ho0)) (Kd.R_base ho1)) (fun _ h_ => h_.1))
            have n11_ := Aside0.mk (Kd.R_mono (Kd.R_told (Kd.R_told (Kd.R_old (by exact lR <| HO242.out) hb) (Kd.R_base ho0)) (Kd.R_base ho1)) (fun _ h_ => h_.1))
            have n12_ := Aside0.mk (Kd.R_lower (Kd.R_new' (Kd.R_new' (Kd.R_new' (Kd.R_new' (Kd.R_new' (Kd.R_new' (Kd.R_new' (Kd.R_new' (Kd.R_new' (Kd.R_new' (Kd.R_new' (Kd.R_new' ho0 (Kd.R_lt (by exact lR <| HO201.out))) (Kd.R_lt (by exact lR <| HO204.out))) (Kd.R_lt (by exact lR <| HO208.out))) (Kd.R_lt (by exact lR <| HO211.out))) (Kd.R_lt (by exact lR <| HO215.out))) (Kd.R_lt (by exact lR <| HO218.out))) (Kd.R_lt (by exact lR <| HO223.out))) (Kd.R_lt (by exact lR <| HO226.out))) (Kd.R_lt (by exact lR <| HO231.out))) (Kd.R_lt (by exact lR <| HO234.out))) (Kd.R_lt (by exact lR <| HO239.out))) (Kd.R_lt (by exact lR <| HO242.out))) (below_size (by repeat (first | (with_reducible first | exact HB.out | apply below_alloc | apply pw_below_drewN | apply below_drew1 | refine below_set ?_ (by first | exact GE195.out | exact GE196.out | exact GE220.out | exact GE228.out | exact GE236.out | exact GE244.out)) | exact HB.out))))
            have n13_ := Aside0.mk (Kd.R_lower (Kd.R_new' (Kd.R_new' (Kd.R_new' (Kd.R_new' (Kd.R_new' (Kd.R_new' (Kd.R_new' (Kd.R_new' (Kd.R_new' (Kd.R_new' (Kd.R_new' (Kd.R_new' ho1 (Kd.R_lt (by exact lR <| HO201.out))) (Kd.R_lt (by exact lR <| HO204.out))) (Kd.R_lt (by exact lR <| HO208.out))) (Kd.R_lt (by exact lR <| HO211.out))) (Kd.R_lt (by exact lR <| HO215.out))) (Kd.R_lt (by exact lR <| HO218.out))) (Kd.R_lt (by exact lR <| HO223.out))) (Kd.R_lt (by exact lR <| HO226.out))) (Kd.R_lt (by exact lR <| HO231.out))) (Kd.R_lt (by exact lR <| HO234.out))) (Kd.R_lt (by exact lR <| HO239.out))) (Kd.R_lt (by exact lR <| HO242.out))) (below_size (by repeat (first | (with_reducible first | exact HB.out | apply below_alloc | apply pw_below_drewN | apply below_drew1 | refine below_set ?_ (by first | exact GE195.out | exact GE196.out | exact GE220.out | exact GE228.out | exact GE236.out | exact GE244.out)) | exact HB.out))))
            have n14_ := Aside0.mk (blk_below (g := gb195) (o := .cells #[.slice A0_0 l0_0.length c0_0, .slice A0_1 l0_1.length c0_1, .int .i64 a0_2] 24 (0, 0)) (by exact lK <| BK195.out) hb)
            have n15_ := Aside0.mk (blk_below (g := gb196) (o := .cells #[.slice A1_0 l1_0.length c1_0, .slice A1_1 l1_1.length c1_1, .int .i64 a1_2] 24 (0, 0)) (by exact lK <| BK196.out) hb)
            have n16_ := Aside0.mk (blk_below (g := gb220) (o := .cells #[.slice Ao53 t213.length co53, .slice Ao55 t216.length co55, .int .i64 t219] 26 (0, 0)) (by exact lK <| BK220.out) hb)
            have n17_ := Aside0.mk (blk_below (g := gb228) (o := .cells #[.slice Ao62 t221.length co62, .slice Ao67 t224.length co67, .int .i64 t227] 26 (0, 0)) (by exact lK <| BK228.out) hb)
            have n18_ := Aside0.mk (blk_below (g := gb236) (o := .cells #[.slice Ao72 t229.length co72, .slice Ao78 t232.length co78, .int .i64 t235] 26 (0, 0)) (by exact lK <| BK236.out) hb)
            have n19_ := Aside0.mk (blk_below (g := gb244) (o := .cells #[.slice Ao82 t237.length co82, .slice Ao89 t240.length co89, .int .i64 t243] 26 (0, 0)) (by exact lK <| BK244.out) hb)
            have n20_ := Aside0.mk (below_step (by repeat (first | (with_reducible first | exact HB.out | apply below_alloc | apply pw_below_drewN | apply below_drew1 | refine below_set ?_ (by first | exact GE195.out | exact GE196.out | exact GE220.out | exact GE228.out | exact GE236.out | exact GE244.out)) | exact HB.out)) hb)
            clear HO201
            clear HO204
            clear HO208
            clear HO211
            clear HO215
            clear HO218
            clear HO223
            clear HO226
            clear HO231
            clear HO234
            clear HO239
            clear HO242
            clear BK195
            clear BK196
            clear BK220
            clear BK228
            clear BK236
            clear BK244
            clear HB
            have HO201 := n0_
            have HO204 := n1_
            have HO208 := n2_
            have HO211 := n3_
            have HO215 := n4_
            have HO218 := n5_
            have HO223 := n6_
            have HO226 := n7_
            have HO231 := n8_
            have HO234 := n9_
            have HO239 := n10_
            have HO242 := n11_
            have HO248 := n12_
            have HO251 := n13_
            have BK195 := n14_
            have BK196 := n15_
            have BK220 := n16_
            have BK228 := n17_
            have BK236 := n18_
            have BK244 := n19_
            have HB := n20_
            clear n0_ n1_ n2_ n3_ n4_ n5_ n6_ n7_ n8_ n9_ n10_ n11_ n12_ n13_ n14_ n15_ n16_ n17_ n18_ n19_ n20_
            (try clear hb)
            (try clear hb2)
            (try clear hk)
            (try clear hi)
            (try clear ho0)
            (try clear ho1)
            obtain ⟨Ao94, co94, eo94⟩ := Kd.R_slice HO248.out
            (first | subst eo94 | (injection eo94 with f1_ f2_ f3_; have f4_ := f1_.symm; have f5_ := f3_.symm; clear f1_ f2_ f3_; subst f4_; subst f5_))
            obtain ⟨Ao95, co95, eo95⟩ := Kd.R_slice HO251.out
            (first | subst eo95 | (injection eo95 with f1_ f2_ f3_; have f4_ := f1_.symm; have f5_ := f3_.symm; clear f1_ f2_ f3_; subst f4_; subst f5_))
            refine hK.out _ _ ⟨(blk_cell BK228.out 0).trans rfl, (blk_cell BK228.out 1).trans rfl, (blk_cell BK228.out 2).trans rfl, (blk_cell BK195.out 0).trans rfl, (blk_cell BK195.out 1).trans rfl, (blk_cell BK195.out 2).trans rfl⟩ (fun hHeld => ?_)
            clear hK K
            refine norm_ (a' := ?_) ?_ ?_
            rotate_left
            · show Act.put _ (some 42) _ = _
              simp only [Act.put, List.setIfInBounds_toArray, List.set_cons_zero, List.set_cons_succ, i64_w, i32_w]
              rfl
            refine one_ (i := 3) (N := some 43) #[true, true, true, true, false] rfl rfl (by kernel_rfl) (by decide) (fun K hK => ?_)
            refine goes_ Try.func12 (by kernel_rfl) rfl #[.agg #[.slice Ao62 t221.length co62, .slice Ao67 t224.length co67, .int .i64 t227], .agg #[.slice Ao94 t246.length co94, .slice Ao95 t249.length co95, .int .i64 t252]] (by rfl) rfl rfl (by (try simp only [List.map_toArray, List.map_cons, List.map_nil]); first | done | rfl | (simp only [List.length_drop, List.length_take]; rfl)) ?_
            with_reducible refine (laws_eqFrmForm.calls k _ _ t221 _ _ t224 t227 _ _ t246 _ _ t249 t252 true _ ?side1 ?side2 ?side3 ?side4 ?side5 ?side6 ?side7 ?side8 A28.out).mono ?_
            (case side1 => exact lC <| (Kd.R_reads' HO223.out).2.2)
            (case side2 => exact (Kd.R_reads' HO223.out).2.1)
            (case side3 => exact lC <| (Kd.R_reads' HO226.out).2.2)
            (case side4 => exact (Kd.R_reads' HO226.out).2.1)
            (case side5 => exact lC <| (Kd.R_reads' HO248.out).2.2)
            (case side6 => exact (Kd.R_reads' HO248.out).2.1)
            (case side7 => exact lC <| (Kd.R_reads' HO251.out).2.2)
            (case side8 => exact (Kd.R_reads' HO251.out).2.1)
            rintro e w96 ⟨rfl, hb⟩
            refine ⟨_, rfl, ?_⟩
            have n0_ := Aside0.mk (Kd.R_below (by exact lR <| HO201.out) hb)
            have n1_ := Aside0.mk (Kd.R_below (by exact lR <| HO204.out) hb)
            have n2_ := Aside0.mk (Kd.R_below (by exact lR <| HO208.out) hb)
            have n3_ := Aside0.mk (Kd.R_below (by exact lR <| HO211.out) hb)
            have n4_ := Aside0.mk (Kd.R_below (by exact lR <| HO215.out) hb)
            have n5_ := Aside0.mk (Kd.R_below (by exact lR <| HO218.out) hb)
            have n6_ := Aside0.mk (Kd.R_below (by exact lR <| HO223.out) hb)
            have n7_ := Aside0.mk (Kd.R_below (by exact lR <| HO226.out) hb)
            have n8_ := Aside0.mk (Kd.R_below (by exact lR <| HO231.out) hb)
            have n9_ := Aside0.mk (Kd.R_below (by exact lR <| HO234.out) hb)
            have n10_ := Aside0.mk (Kd.R_below (by exact lR <| HO239.out) hb)
            have n11_ := Aside0.mk (Kd.R_below (by exact lR <| HO242.out) hb)
            have n12_ := Aside0.mk (Kd.R_below (by exact lR <| HO248.out) hb)
            have n13_ := Aside0.mk (Kd.R_below (by exact lR <| HO251.out) hb)
            have n14_ := Aside0.mk (blk_below (g := gb195) (o := .cells #[.slice A0_0 l0_0.length c0_0, .slice A0_1 l0_1.length c0_1, .int .i64 a0_2] 24 (0, 0)) (by exact lK <| BK195.out) hb)
            have n15_ := Aside0.mk (blk_below (g := gb196) (o := .cells #[.slice A1_0 l1_0.length c1_0, .slice A1_1 l1_1.length c1_1, .int .i64 a1_2] 24 (0, 0)) (by exact lK <| BK196.out) hb)
            have n16_ := Aside0.mk (blk_below (g := gb220) (o := .cells #[.slice Ao53 t213.length co53, .slice Ao55 t216.length co55, .int .i64 t219] 26 (0, 0)) (by exact lK <| BK220.out) hb)
            have n17_ := Aside0.mk (blk_below (g := gb228) (o := .cells #[.slice Ao62 t221.length co62, .slice Ao67 t224.length co67, .int .i64 t227] 26 (0, 0)) (by exact lK <| BK228.out) hb)
            have n18_ := Aside0.mk (blk_below (g := gb236) (o := .cells #[.slice Ao72 t229.length co72, .slice Ao78 t232.length co78, .int .i64 t235] 26 (0, 0)) (by exact lK <| BK236.out) hb)
            have n19_ := Aside0.mk (blk_below (g := gb244) (o := .cells #[.slice Ao82 t237.length co82, .slice Ao89 t240.length co89, .int .i64 t243] 26 (0, 0)) (by exact lK <| BK244.out) hb)
            have n20_ := Aside0.mk (below_step (by repeat (first | (with_reducible first | exact HB.out | apply below_alloc | apply pw_below_drewN | apply below_drew1 | refine below_set ?_ (by first | exact GE195.out | exact GE196.out | exact GE220.out | exact GE228.out | exact GE236.out | exact GE244.out)) | exact HB.out)) hb)
            clear HO201
            clear HO204
            clear HO208
            clear HO211
            clear HO215
            clear HO218
            clear HO223
            clear HO226
            clear HO231
            clear HO234
            clear HO239
            clear HO242
            clear HO248
            clear HO251
            clear BK195
            clear BK196
            clear BK220
            clear BK228
            clear BK236
            clear BK244
            clear HB
            have HO201 := n0_
            have HO204 := n1_
            have HO208 := n2_
            have HO211 := n3_
            have HO215 := n4_
            have HO218 := n5_
            have HO223 := n6_
            have HO226 := n7_
            have HO231 := n8_
            have HO234 := n9_
            have HO239 := n10_
            have HO242 := n11_
            have HO248 := n12_
            have HO251 := n13_
            have BK195 := n14_
            have BK196 := n15_
            have BK220 := n16_
            have BK228 := n17_
            have BK236 := n18_
            have BK244 := n19_
            have HB := n20_
            clear n0_ n1_ n2_ n3_ n4_ n5_ n6_ n7_ n8_ n9_ n10_ n11_ n12_ n13_ n14_ n15_ n16_ n17_ n18_ n19_ n20_
            (try clear hb)
            (try clear hb2)
            (try clear hk)
            (try clear hi)
            refine hK.out _ _ ⟨(blk_cell BK228.out 0).trans rfl, (blk_cell BK228.out 1).trans rfl, (blk_cell BK228.out 2).trans rfl, (blk_cell BK195.out 0).trans rfl, (blk_cell BK195.out 1).trans rfl, (blk_cell BK195.out 2).trans rfl⟩ (fun hHeld => ?_)
            clear hK K
            refine norm_ (a' := ?_) ?_ ?_
            rotate_left
            · show Act.put _ (some 43) _ = _
              simp only [Act.put, List.setIfInBounds_toArray, List.set_cons_zero, List.set_cons_succ, i64_w, i32_w]
              rfl
            refine pure_ (i := 4) (N := some 44) (v := ?_) (a' := ?_) #[true, true, true, true, true] rfl rfl (by kernel_rfl) (fun _ _ _ h => h) (Or.inl ⟨by rfl, ?_⟩) ?_ ?_
            rotate_left
            · intro w'
              go_simp
              with_reducible rfl
            rotate_left
            · simp only [Act.put, List.setIfInBounds_toArray, List.set_cons_zero, List.set_cons_succ, i64_w, i32_w]
              rfl
            refine done_ (by kernel_rfl) ?_
            try go_wp2
            have n0_ := Aside0.mk (Kd.R_drew HO201.out)
            have n1_ := Aside0.mk (Kd.R_drew HO204.out)
            have n2_ := Aside0.mk (Kd.R_drew HO208.out)
            have n3_ := Aside0.mk (Kd.R_drew HO211.out)
            have n4_ := Aside0.mk (Kd.R_drew HO215.out)
            have n5_ := Aside0.mk (Kd.R_drew HO218.out)
            have n6_ := Aside0.mk (Kd.R_drew HO223.out)
            have n7_ := Aside0.mk (Kd.R_drew HO226.out)
            have n8_ := Aside0.mk (Kd.R_drew HO231.out)
            have n9_ := Aside0.mk (Kd.R_drew HO234.out)
            have n10_ := Aside0.mk (Kd.R_drew HO239.out)
            have n11_ := Aside0.mk (Kd.R_drew HO242.out)
            have n12_ := Aside0.mk (Kd.R_drew HO248.out)
            have n13_ := Aside0.mk (Kd.R_drew HO251.out)
            have n14_ := Aside0.mk (blk_drew BK195.out)
            have n15_ := Aside0.mk (blk_drew BK196.out)
            have n16_ := Aside0.mk (blk_drew BK220.out)
            have n17_ := Aside0.mk (blk_drew BK228.out)
            have n18_ := Aside0.mk (blk_drew BK236.out)
            have n19_ := Aside0.mk (blk_drew BK244.out)
            have n20_ := Aside0.mk (below_drew1 HB.out)
            clear HO201
            clear HO204
            clear HO208
            clear HO211
            clear HO215
            clear HO218
            clear HO223
            clear HO226
            clear HO231
            clear HO234
            clear HO239
            clear HO242
            clear HO248
            clear HO251
            clear BK195
            clear BK196
            clear BK220
            clear BK228
            clear BK236
            clear BK244
            clear HB
            have HO201 := n0_
            have HO204 := n1_
            have HO208 := n2_
            have HO211 := n3_
            have HO215 := n4_
            have HO218 := n5_
            have HO223 := n6_
            have HO226 := n7_
            have HO231 := n8_
            have HO234 := n9_
            have HO239 := n10_
            have HO242 := n11_
            have HO248 := n12_
            have HO251 := n13_
            have BK195 := n14_
            have BK196 := n15_
            have BK220 := n16_
            have BK228 := n17_
            have BK236 := n18_
            have BK244 := n19_
            have HB := n20_
            clear n0_ n1_ n2_ n3_ n4_ n5_ n6_ n7_ n8_ n9_ n10_ n11_ n12_ n13_ n14_ n15_ n16_ n17_ n18_ n19_ n20_
            refine start_ (n := 5) (S := fun w' => w'.cell? ⟨gb236, 0, none⟩ = some (.slice Ao72 t229.length co72) ∧ w'.cell? ⟨gb236, 1, none⟩ = some (.slice Ao78 t232.length co78) ∧ w'.cell? ⟨gb236, 2, none⟩ = some (.int .i64 t235) ∧ w'.cell? ⟨gb196, 0, none⟩ = some (.slice A1_0 l1_0.length c1_0) ∧ w'.cell? ⟨gb196, 1, none⟩ = some (.slice A1_1 l1_1.length c1_1) ∧ w'.cell? ⟨gb196, 2, none⟩ = some (.int .i64 a1_2)) (ds := []) #[false, false, false, false, false] (by kernel_rfl) rfl rfl ⟨(blk_cell BK236.out 0).trans rfl, (blk_cell BK236.out 1).trans rfl, (blk_cell BK236.out 2).trans rfl, (blk_cell BK196.out 0).trans rfl, (blk_cell BK196.out 1).trans rfl, (blk_cell BK196.out 2).trans rfl⟩ (fun hHeld => ?_)
            generalize w96.drew = w97 at HO201 HO204 HO208 HO211 HO215 HO218 HO223 HO226 HO231 HO234 HO239 HO242 HO248 HO251 BK195 BK196 BK220 BK228 BK236 BK244 HB hHeld ⊢
            refine take_ (i := 0) (N := some 45) (v := ?_) (a' := ?_) #[true, false, false, false, false] rfl rfl (by kernel_rfl) (fun _ _ _ h => h) (Or.inl ⟨by rfl, ?_⟩) hHeld ?_ ?_
            rotate_left
            · rintro w' ⟨s0, s1, s2, s3, s4, s5⟩
              go_simp
              with_reducible rfl
            rotate_left
            · simp only [Act.put, List.setIfInBounds_toArray, List.set_cons_zero, List.set_cons_succ, i64_w, i32_w]
              rfl
            refine take_ (i := 1) (N := some 46) (v := ?_) (a' := ?_) #[true, true, false, false, false] rfl rfl (by kernel_rfl) (fun _ _ _ h => h) (Or.inl ⟨by rfl, ?_⟩) hHeld ?_ ?_
            rotate_left
            · rintro w' ⟨s0, s1, s2, s3, s4, s5⟩
              go_simp
              with_reducible rfl
            rotate_left
            · simp only [Act.put, List.setIfInBounds_toArray, List.set_cons_zero, List.set_cons_succ, i64_w, i32_w]
              rfl
            refine one_ (i := 2) (N := some 47) #[true, true, true, false, false] rfl rfl (by kernel_rfl) (by decide) (fun K hK => ?_)
            refine goes_ Try.func10 (by kernel_rfl) rfl #[.agg #[.slice A1_0 l1_0.length c1_0, .slice A1_1 l1_1.length c1_1, .int .i64 a1_2]] (by rfl) rfl rfl (by (try simp only [List.map_toArray, List.map_cons, List.map_nil]); first | done | rfl | (simp only [List.length_drop, List.length_take]; rfl)) ?_
            with_reducible refine (laws_toFrmForm.calls k _ _ l1_0 _ _ l1_1 a1_2 t254 t257 t260 _ ?side1 ?side2 ?side3 ?side4 A30.out).mono ?_
            (case side1 => exact lC <| (Kd.C_below HR1_0.out HB.out))
            (case side2 => exact HC1_0.out)
            (case side3 => exact lC <| (Kd.C_below HR1_1.out HB.out))
            (case side4 => exact HC1_1.out)
            rintro e w98 ⟨v255, v258, rfl, ho0, ho1, hb⟩
            refine ⟨_, rfl, ?_⟩
            have n0_ := Aside0.mk (Kd.R_mono (Kd.R_told (Kd.R_told (Kd.R_old (by exact lR <| HO201.out) hb) (Kd.R_base ho0)) (Kd.R_base ho1)) (fun _ h_ => h_.1))
            have n1_ := Aside0.mk (Kd.R_mono (Kd.R_told (Kd.R_told (Kd.R_old (by exact lR <| HO204.out) hb) (Kd.R_base ho0)) (Kd.R_base ho1)) (fun _ h_ => h_.1))
            have n2_ := Aside0.mk (Kd.R_mono (Kd.R_told (Kd.R_told (Kd.R_old (by exact lR <| HO208.out) hb) (Kd.R_base ho0)) (Kd.R_base ho1)) (fun _ h_ => h_.1))
            have n3_ := Aside0.mk (Kd.R_mono (Kd.R_told (Kd.R_told (Kd.R_old (by exact lR <| HO211.out) hb) (Kd.R_base ho0)) (Kd.R_base ho1)) (fun _ h_ => h_.1))
            have n4_ := Aside0.mk (Kd.R_mono (Kd.R_told (Kd.R_told (Kd.R_old (by exact lR <| HO215.out) hb) (Kd.R_base ho0)) (Kd.R_base ho1)) (fun _ h_ => h_.1))
            have n5_ := Aside0.mk (Kd.R_mono (Kd.R_told (Kd.R_told (Kd.R_old (by exact lR <| HO218.out) hb) (Kd.R_base ho0)) (Kd.R_base ho1)) (fun _ h_ => h_.1))
            have n6_ := Aside0.mk (Kd.R_mono (Kd.R_told (Kd.R_told (Kd.R_old (by exact lR <| HO223.out) hb) (Kd.R_base ho0)) (Kd.R_base ho1)) (fun _ h_ => h_.1))
            have n7_ := Aside0.mk (Kd.R_mono (Kd.R_told (Kd.R_told (Kd.R_old (by exact lR <| HO226.out) hb) (Kd.R_base ho0)) (Kd.R_base ho1)) (fun _ h_ => h_.1))
            have n8_ := Aside0.mk (Kd.R_mono (Kd.R_told (Kd.R_told (Kd.R_old (by exact lR <| HO231.out) hb) (Kd.R_base ho0)) (Kd.R_base ho1)) (fun _ h_ => h_.1))
            have n9_ := Aside0.mk (Kd.R_mono (Kd.R_told (Kd.R_told (Kd.R_old (by exact lR <| HO234.out) hb) (Kd.R_base ho0)) (Kd.R_base ho1)) (fun _ h_ => h_.1))
            have n10_ := Aside0.mk (Kd.R_mono (Kd.R_told (Kd.R_told (Kd.R_old (by exact lR <| HO239.out) hb) (Kd.R_base ho0)) (Kd.R_base ho1)) (fun _ h_ => h_.1))
            have n11_ := Aside0.mk (Kd.R_mono (Kd.R_told (Kd.R_told (Kd.R_old (by exact lR <| HO242.out) hb) (Kd.R_base ho0)) (Kd.R_base ho1)) (fun _ h_ => h_.1))
            have n12_ := Aside0.mk (Kd.R_mono (Kd.R_told (Kd.R_told (Kd.R_old (by exact lR <| HO248.out) hb) (Kd.R_base ho0)) (Kd.R_base ho1)) (fun _ h_ => h_.1))
            have n13_ := Aside0.mk (Kd.R_mono (Kd.R_told (Kd.R_told (Kd.R_old (by exact lR <| HO251.out) hb) (Kd.R_base ho0)) (Kd.R_base ho1)) (fun _ h_ => h_.1))
            have n14_ := Aside0.mk (Kd.R_lower (Kd.R_new' (Kd.R_new' (Kd.R_new' (Kd.R_new' (Kd.R_new' (Kd.R_new' (Kd.R_new' (Kd.R_new' (Kd.R_new' (Kd.R_new' (Kd.R_new' (Kd.R_new' (Kd.R_new' (Kd.R_new' ho0 (Kd.R_lt (by exact lR <| HO201.out))) (Kd.R_lt (by exact lR <| HO204.out))) (Kd.R_lt (by exact lR <| HO208.out))) (Kd.R_lt (by exact lR <| HO211.out))) (Kd.R_lt (by exact lR <| HO215.out))) (Kd.R_lt (by exact lR <| HO218.out))) (Kd.R_lt (by exact lR <| HO223.out))) (Kd.R_lt (by exact lR <| HO226.out))) (Kd.R_lt (by exact lR <| HO231.out))) (Kd.R_lt (by exact lR <| HO234.out))) (Kd.R_lt (by exact lR <| HO239.out))) (Kd.R_lt (by exact lR <| HO242.out))) (Kd.R_lt (by exact lR <| HO248.out))) (Kd.R_lt (by exact lR <| HO251.out))) (below_size (by repeat (first | (with_reducible first | exact HB.out | apply below_alloc | apply pw_below_drewN | apply below_drew1 | refine below_set ?_ (by first | exact GE195.out | exact GE196.out | exact GE220.out | exact GE228.out | exact GE236.out | exact GE244.out)) | exact HB.out))))
            have n15_ := Aside0.mk (Kd.R_lower (Kd.R_new' (Kd.R_new' (Kd.R_new' (Kd.R_new' (Kd.R_new' (Kd.R_new' (Kd.R_new' (Kd.R_new' (Kd.R_new' (Kd.R_new' (Kd.R_new' (Kd.R_new' (Kd.R_new' (Kd.R_new' ho1 (Kd.R_lt (by exact lR <| HO201.out))) (Kd.R_lt (by exact lR <| HO204.out))) (Kd.R_lt (by exact lR <| HO208.out))) (Kd.R_lt (by exact lR <| HO211.out))) (Kd.R_lt (by exact lR <| HO215.out))) (Kd.R_lt (by exact lR <| HO218.out))) (Kd.R_lt (by exact lR <| HO223.out))) (Kd.R_lt (by exact lR <| HO226.out))) (Kd.R_lt (by exact lR <| HO231.out))) (Kd.R_lt (by exact lR <| HO234.out))) (Kd.R_lt (by exact lR <| HO239.out))) (Kd.R_lt (by exact lR <| HO242.out))) (Kd.R_lt (by exact lR <| HO248.out))) (Kd.R_lt (by exact lR <| HO251.out))) (below_size (by repeat (first | (with_reducible first | exact HB.out | apply below_alloc | apply pw_below_drewN | apply below_drew1 | refine below_set ?_ (by first | exact GE195.out | exact GE196.out | exact GE220.out | exact GE228.out | exact GE236.out | exact GE244.out)) | exact HB.out))))
            have n16_ := Aside0.mk (blk_below (g := gb195) (o := .cells #[.slice A0_0 l0_0.length c0_0, .slice A0_1 l0_1.length c0_1, .int .i64 a0_2] 24 (0, 0)) (by exact lK <| BK195.out) hb)
            have n17_ := Aside0.mk (blk_below (g := gb196) (o := .cells #[.slice A1_0 l1_0.length c1_0, .slice A1_1 l1_1.length c1_1, .int .i64 a1_2] 24 (0, 0)) (by exact lK <| BK196.out) hb)
            have n18_ := Aside0.mk (blk_below (g := gb220) (o := .cells #[.slice Ao53 t213.length co53, .slice Ao55 t216.length co55, .int .i64 t219] 26 (0, 0)) (by exact lK <| BK220.out) hb)
            have n19_ := Aside0.mk (blk_below (g := gb228) (o := .cells #[.slice Ao62 t221.length co62, .slice Ao67 t224.length co67, .int .i64 t227] 26 (0, 0)) (by exact lK <| BK228.out) hb)
            have n20_ := Aside0.mk (blk_below (g := gb236) (o := .cells #[.slice Ao72 t229.length co72, .slice Ao78 t232.length co78, .int .i64 t235] 26 (0, 0)) (by exact lK <| BK236.out) hb)
            have n21_ := Aside0.mk (blk_below (g := gb244) (o := .cells #[.slice Ao82 t237.length co82, .slice Ao89 t240.length co89, .int .i64 t243] 26 (0, 0)) (by exact lK <| BK244.out) hb)
            have n22_ := Aside0.mk (below_step (by repeat (first | (with_reducible first | exact HB.out | apply below_alloc | apply pw_below_drewN | apply below_drew1 | refine below_set ?_ (by first | exact GE195.out | exact GE196.out | exact GE220.out | exact GE228.out | exact GE236.out | exact GE244.out)) | exact HB.out)) hb)
            clear HO201
            clear HO204
            clear HO208
            clear HO211
            clear HO215
            clear HO218
            clear HO223
            clear HO226
            clear HO231
            clear HO234
            clear HO239
            clear HO242
            clear HO248
            clear HO251
            clear BK195
            clear BK196
            clear BK220
            clear BK228
            clear BK236
            clear BK244
            clear HB
            have HO201 := n0_
            have HO204 := n1_
            have HO208 := n2_
            have HO211 := n3_
            have HO215 := n4_
            have HO218 := n5_
            have HO223 := n6_
            have HO226 := n7_
            have HO231 := n8_
            have HO234 := n9_
            have HO239 := n10_
            have HO242 := n11_
            have HO248 := n12_
            have HO251 := n13_
            have HO256 := n14_
            have HO259 := n15_
            have BK195 := n16_
            have BK196 := n17_
            have BK220 := n18_
            have BK228 := n19_
            have BK236 := n20_
            have BK244 := n21_
            have HB := n22_
            clear n0_ n1_ n2_ n3_ n4_ n5_ n6_ n7_ n8_ n9_ n10_ n11_ n12_ n13_ n14_ n15_ n16_ n17_ n18_ n19_ n20_ n21_ n22_
            (try clear hb)
            (try clear hb2)
            (try clear hk)
            (try clear hi)
            (try clear ho0)
            (try clear ho1)
            obtain ⟨Ao99, co99, eo99⟩ := Kd.R_slice HO256.out
            (first | subst eo99 | (injection eo99 with f1_ f2_ f3_; have f4_ := f1_.symm; have f5_ := f3_.symm; clear f1_ f2_ f3_; subst f4_; subst f5_))
            obtain ⟨Ao100, co100, eo100⟩ := Kd.R_slice HO259.out
            (first | subst eo100 | (injection eo100 with f1_ f2_ f3_; have f4_ := f1_.symm; have f5_ := f3_.symm; clear f1_ f2_ f3_; subst f4_; subst f5_))
            refine hK.out _ _ ⟨(blk_cell BK236.out 0).trans rfl, (blk_cell BK236.out 1).trans rfl, (blk_cell BK236.out 2).trans rfl, (blk_cell BK196.out 0).trans rfl, (blk_cell BK196.out 1).trans rfl, (blk_cell BK196.out 2).trans rfl⟩ (fun hHeld => ?_)
            clear hK K
            refine norm_ (a' := ?_) ?_ ?_
            rotate_left
            · show Act.put _ (some 47) _ = _
              simp only [Act.put, List.setIfInBounds_toArray, List.set_cons_zero, List.set_cons_succ, i64_w, i32_w]
              rfl
            refine one_ (i := 3) (N := some 48) #[true, true, true, true, false] rfl rfl (by kernel_rfl) (by decide) (fun K hK => ?_)
            refine goes_ Try.func12 (by kernel_rfl) rfl #[.agg #[.slice Ao72 t229.length co72, .slice Ao78 t232.length co78, .int .i64 t235], .agg #[.slice Ao99 t254.length co99, .slice Ao100 t257.length co100, .int .i64 t260]] (by rfl) rfl rfl (by (try simp only [List.map_toArray, List.map_cons, List.map_nil]); first | done | rfl | (simp only [List.length_drop, List.length_take]; rfl)) ?_
            with_reducible refine (laws_eqFrmForm.calls k _ _ t229 _ _ t232 t235 _ _ t254 _ _ t257 t260 true _ ?side1 ?side2 ?side3 ?side4 ?side5 ?side6 ?side7 ?side8 A31.out).mono ?_
            (case side1 => exact lC <| (Kd.R_reads' HO231.out).2.2)
            (case side2 => exact (Kd.R_reads' HO231.out).2.1)
            (case side3 => exact lC <| (Kd.R_reads' HO234.out).2.2)
            (case side4 => exact (Kd.R_reads' HO234.out).2.1)
            (case side5 => exact lC <| (Kd.R_reads' HO256.out).2.2)
            (case side6 => exact (Kd.R_reads' HO256.out).2.1)
            (case side7 => exact lC <| (Kd.R_reads' HO259.out).2.2)
            (case side8 => exact (Kd.R_reads' HO259.out).2.1)
            rintro e w101 ⟨rfl, hb⟩
            refine ⟨_, rfl, ?_⟩
            have n0_ := Aside0.mk (Kd.R_below (by exact lR <| HO201.out) hb)
            have n1_ := Aside0.mk (Kd.R_below (by exact lR <| HO204.out) hb)
            have n2_ := Aside0.mk (Kd.R_below (by exact lR <| HO208.out) hb)
            have n3_ := Aside0.mk (Kd.R_below (by exact lR <| HO211.out) hb)
            have n4_ := Aside0.mk (Kd.R_below (by exact lR <| HO215.out) hb)
            have n5_ := Aside0.mk (Kd.R_below (by exact lR <| HO218.out) hb)
            have n6_ := Aside0.mk (Kd.R_below (by exact lR <| HO223.out) hb)
            have n7_ := Aside0.mk (Kd.R_below (by exact lR <| HO226.out) hb)
            have n8_ := Aside0.mk (Kd.R_below (by exact lR <| HO231.out) hb)
            have n9_ := Aside0.mk (Kd.R_below (by exact lR <| HO234.out) hb)
            have n10_ := Aside0.mk (Kd.R_below (by exact lR <| HO239.out) hb)
            have n11_ := Aside0.mk (Kd.R_below (by exact lR <| HO242.out) hb)
            have n12_ := Aside0.mk (Kd.R_below (by exact lR <| HO248.out) hb)
            have n13_ := Aside0.mk (Kd.R_below (by exact lR <| HO251.out) hb)
            have n14_ := Aside0.mk (Kd.R_below (by exact lR <| HO256.out) hb)
            have n15_ := Aside0.mk (Kd.R_below (by exact lR <| HO259.out) hb)
            have n16_ := Aside0.mk (blk_below (g := gb195) (o := .cells #[.slice A0_0 l0_0.length c0_0, .slice A0_1 l0_1.length c0_1, .int .i64 a0_2] 24 (0, 0)) (by exact lK <| BK195.out) hb)
            have n17_ := Aside0.mk (blk_below (g := gb196) (o := .cells #[.slice A1_0 l1_0.length c1_0, .slice A1_1 l1_1.length c1_1, .int .i64 a1_2] 24 (0, 0)) (by exact lK <| BK196.out) hb)
            have n18_ := Aside0.mk (blk_below (g := gb220) (o := .cells #[.slice Ao53 t213.length co53, .slice Ao55 t216.length co55, .int .i64 t219] 26 (0, 0)) (by exact lK <| BK220.out) hb)
            have n19_ := Aside0.mk (blk_below (g := gb228) (o := .cells #[.slice Ao62 t221.length co62, .slice Ao67 t224.length co67, .int .i64 t227] 26 (0, 0)) (by exact lK <| BK228.out) hb)
            have n20_ := Aside0.mk (blk_below (g := gb236) (o := .cells #[.slice Ao72 t229.length co72, .slice Ao78 t232.length co78, .int .i64 t235] 26 (0, 0)) (by exact lK <| BK236.out) hb)
            have n21_ := Aside0.mk (blk_below (g := gb244) (o := .cells #[.slice Ao82 t237.length co82, .slice Ao89 t240.length co89, .int .i64 t243] 26 (0, 0)) (by exact lK <| BK244.out) hb)
            have n22_ := Aside0.mk (below_step (by repeat (first | (with_reducible first | exact HB.out | apply below_alloc | apply pw_below_drewN | apply below_drew1 | refine below_set ?_ (by first | exact GE195.out | exact GE196.out | exact GE220.out | exact GE228.out | exact GE236.out | exact GE244.out)) | exact HB.out)) hb)
            clear HO201
            clear HO204
            clear HO208
            clear HO211
            clear HO215
            clear HO218
            clear HO223
            clear HO226
            clear HO231
            clear HO234
            clear HO239
            clear HO242
            clear HO248
            clear HO251
            clear HO256
            clear HO259
            clear BK195
            clear BK196
            clear BK220
            clear BK228
            clear BK236
            clear BK244
            clear HB
            have HO201 := n0_
            have HO204 := n1_
            have HO208 := n2_
            have HO211 := n3_
            have HO215 := n4_
            have HO218 := n5_
            have HO223 := n6_
            have HO226 := n7_
            have HO231 := n8_
            have HO234 := n9_
            have HO239 := n10_
            have HO242 := n11_
            have HO248 := n12_
            have HO251 := n13_
            have HO256 := n14_
            have HO259 := n15_
            have BK195 := n16_
            have BK196 := n17_
            have BK220 := n18_
            have BK228 := n19_
            have BK236 := n20_
            have BK244 := n21_
            have HB := n22_
            clear n0_ n1_ n2_ n3_ n4_ n5_ n6_ n7_ n8_ n9_ n10_ n11_ n12_ n13_ n14_ n15_ n16_ n17_ n18_ n19_ n20_ n21_ n22_
            (try clear hb)
            (try clear hb2)
            (try clear hk)
            (try clear hi)
            refine hK.out _ _ ⟨(blk_cell BK236.out 0).trans rfl, (blk_cell BK236.out 1).trans rfl, (blk_cell BK236.out 2).trans rfl, (blk_cell BK196.out 0).trans rfl, (blk_cell BK196.out 1).trans rfl, (blk_cell BK196.out 2).trans rfl⟩ (fun hHeld => ?_)
            clear hK K
            refine norm_ (a' := ?_) ?_ ?_
            rotate_left
            · show Act.put _ (some 48) _ = _
              simp only [Act.put, List.setIfInBounds_toArray, List.set_cons_zero, List.set_cons_succ, i64_w, i32_w]
              rfl
            refine pure_ (i := 4) (N := some 49) (v := ?_) (a' := ?_) #[true, true, true, true, true] rfl rfl (by kernel_rfl) (fun _ _ _ h => h) (Or.inl ⟨by rfl, ?_⟩) ?_ ?_
            rotate_left
            · intro w'
              go_simp
              with_reducible rfl
            rotate_left
            · simp only [Act.put, List.setIfInBounds_toArray, List.set_cons_zero, List.set_cons_succ, i64_w, i32_w]
              rfl
            refine done_ (by kernel_rfl) ?_
            have hcz102_0 : w101.cell? ⟨gb228, 0, none⟩ = some (.slice Ao62 t221.length co62) := (blk_cell BK228.out 0).trans rfl
            have hcz102_1 : w101.cell? ⟨gb228, 1, none⟩ = some (.slice Ao67 t224.length co67) := (blk_cell BK228.out 1).trans rfl
            have hcz102_2 : w101.cell? ⟨gb228, 2, none⟩ = some (.int .i64 t227) := (blk_cell BK228.out 2).trans rfl
            have hfz102_0 := blk_frozen BK228.out 0
            have hfz102_1 := blk_frozen BK228.out 1
            have hfz102_2 := blk_frozen BK228.out 2
            go_upto_region 21 with (first | ((with_reducible refine gate_callee (f := 13) rfl ?_); refine goesL_ (some 52) rfl rfl Try.func13 (by kernel_rfl) rfl #[.agg #[.slice Ao62 t221.length co62, .slice Ao67 t224.length co67, .int .i64 t227], .int .i64 1] rfl (by (try simp only [List.map_toArray, List.map_cons, List.map_nil]); first | done | rfl | (simp only [List.length_drop, List.length_take]; rfl)) ?_; (with_reducible refine (laws_markFrmForm.calls k (fun k_ => some k_ = (.slice Ao62 t221.length co62 : Value).ownBlock) (.slice Ao62 t221.length co62) t221 (fun k_ => some k_ = (.slice Ao67 t224.length co67 : Value).ownBlock) (.slice Ao67 t224.length co67) t224 t227 1 t262 t263 t264 w _ ?side1 ?side2 ?side3 ?side4 ?side5 A33.out).mono ?_); (case side1 => repeat (first | (with_reducible first | exact HB.out | apply below_alloc | apply pw_below_drewN | apply below_drew1 | refine below_set ?_ (by first | exact GE195.out | exact GE196.out | exact GE220.out | exact GE228.out | exact GE236.out | exact GE244.out)) | exact HB.out)); (case side2 => exact Kd.R_tight rfl HO223.out); (case side3 => exact fun k_ e_ => (HO223.out.1 k_ e_.symm).1.1.1.1.1.1.1.1.1.1.1.1.1.1); (case side4 => exact Kd.R_tight rfl HO226.out); (case side5 => exact fun k_ e_ => (HO226.out.1 k_ e_.symm).1.1.1.1.1.1.1.1.1.1.1.1.1.1); rintro e w103 ⟨rfl, hy0, hy1, hb, hkp⟩; refine ⟨_, rfl, ?_⟩; have n0_ := Aside0.mk (blk_kept (by exact lK <| BK195.out) hkp (fun hs_ => Or.elim hs_ (fun e_ => (fun e_ => (Kd.R_ne HO223.out BK195.out (by decide)) e_) e_) (fun e_ => (fun e_ => (Kd.R_ne HO226.out BK195.out (by decide)) e_) e_))); have n1_ := Aside0.mk (blk_kept (by exact lK <| BK196.out) hkp (fun hs_ => Or.elim hs_ (fun e_ => (fun e_ => (Kd.R_ne HO223.out BK196.out (by decide)) e_) e_) (fun e_ => (fun e_ => (Kd.R_ne HO226.out BK196.out (by decide)) e_) e_))); have n2_ := Aside0.mk (Kd.R_mono (ok' := fun k_ => some k_ ≠ (v203 : Value).ownBlock ∧ some k_ ≠ (v207 : Value).ownBlock ∧ some k_ ≠ (v210 : Value).ownBlock ∧ some k_ ≠ (.slice Ao53 t213.length co53 : Value).ownBlock ∧ some k_ ≠ (.slice Ao55 t216.length co55 : Value).ownBlock ∧ some k_ ≠ (.slice Ao62 t221.length co62 : Value).ownBlock ∧ some k_ ≠ (.slice Ao67 t224.length co67 : Value).ownBlock ∧ some k_ ≠ (.slice Ao72 t229.length co72 : Value).ownBlock ∧ some k_ ≠ (.slice Ao78 t232.length co78 : Value).ownBlock ∧ some k_ ≠ (.slice Ao82 t237.length co82 : Value).ownBlock ∧ some k_ ≠ (.slice Ao89 t240.length co89 : Value).ownBlock ∧ some k_ ≠ (.slice Ao94 t246.length co94 : Value).ownBlock ∧ some k_ ≠ (.slice Ao95 t249.length co95 : Value).ownBlock ∧ some k_ ≠ (.slice Ao99 t254.length co99 : Value).ownBlock ∧ some k_ ≠ (.slice Ao100 t257.length co100 : Value).ownBlock) (Kd.R_keptB (HO201.out) hkp (fun k_ hk_ hs_ => Or.elim hs_ (fun e_ => (hk_.1.1.1.1.1.1.1.1.1.2) e_) (fun e_ => (hk_.1.1.1.1.1.1.1.1.2) e_))) (fun k_ hk_ => ⟨hk_.1.1.1.1.1.1.1.1.1.1.1.1, hk_.1.1.1.1.1.1.1.1.1.1.1.2.1, hk_.1.1.1.1.1.1.1.1.1.1.1.2.2.1, hk_.1.1.1.1.1.1.1.1.1.1.1.2.2.2.1, hk_.1.1.1.1.1.1.1.1.1.1.1.2.2.2.2, hk_.1.1.1.1.1.1.1.1.1.1.2, hk_.1.1.1.1.1.1.1.1.1.2, hk_.1.1.1.1.1.1.1.1.2, hk_.1.1.1.1.1.1.1.2, hk_.1.1.1.1.1.1.2, hk_.1.1.1.1.1.2, hk_.1.1.1.1.2, hk_.1.1.1.2, hk_.1.1.2, hk_.1.2⟩)); have n3_ := Aside0.mk (Kd.R_mono (ok' := fun k_ => some k_ ≠ (v200 : Value).ownBlock ∧ some k_ ≠ (v207 : Value).ownBlock ∧ some k_ ≠ (v210 : Value).ownBlock ∧ some k_ ≠ (.slice Ao53 t213.length co53 : Value).ownBlock ∧ some k_ ≠ (.slice Ao55 t216.length co55 : Value).ownBlock ∧ some k_ ≠ (.slice Ao62 t221.length co62 : Value).ownBlock ∧ some k_ ≠ (.slice Ao67 t224.length co67 : Value).ownBlock ∧ some k_ ≠ (.slice Ao72 t229.length co72 : Value).ownBlock ∧ some k_ ≠ (.slice Ao78 t232.length co78 : Value).ownBlock ∧ some k_ ≠ (.slice Ao82 t237.length co82 : Value).ownBlock ∧ some k_ ≠ (.slice Ao89 t240.length co89 : Value).ownBlock ∧ some k_ ≠ (.slice Ao94 t246.length co94 : Value).ownBlock ∧ some k_ ≠ (.slice Ao95 t249.length co95 : Value).ownBlock ∧ some k_ ≠ (.slice Ao99 t254.length co99 : Value).ownBlock ∧ some k_ ≠ (.slice Ao100 t257.length co100 : Value).ownBlock) (Kd.R_keptB (HO204.out) hkp (fun k_ hk_ hs_ => Or.elim hs_ (fun e_ => (hk_.1.1.1.1.1.1.1.1.1.2) e_) (fun e_ => (hk_.1.1.1.1.1.1.1.1.2) e_))) (fun k_ hk_ => ⟨hk_.1.1.1.1.1.1.1.1.1.1.1.1, hk_.1.1.1.1.1.1.1.1.1.1.1.2.1, hk_.1.1.1.1.1.1.1.1.1.1.1.2.2.1, hk_.1.1.1.1.1.1.1.1.1.1.1.2.2.2.1, hk_.1.1.1.1.1.1.1.1.1.1.1.2.2.2.2, hk_.1.1.1.1.1.1.1.1.1.1.2, hk_.1.1.1.1.1.1.1.1.1.2, hk_.1.1.1.1.1.1.1.1.2, hk_.1.1.1.1.1.1.1.2, hk_.1.1.1.1.1.1.2, hk_.1.1.1.1.1.2, hk_.1.1.1.1.2, hk_.1.1.1.2, hk_.1.1.2, hk_.1.2⟩)); have n4_ := Aside0.mk (Kd.R_mono (ok' := fun k_ => some k_ ≠ (v200 : Value).ownBlock ∧ some k_ ≠ (v203 : Value).ownBlock ∧ some k_ ≠ (v210 : Value).ownBlock ∧ some k_ ≠ (.slice Ao53 t213.length co53 : Value).ownBlock ∧ some k_ ≠ (.slice Ao55 t216.length co55 : Value).ownBlock ∧ some k_ ≠ (.slice Ao62 t221.length co62 : Value).ownBlock ∧ some k_ ≠ (.slice Ao67 t224.length co67 : Value).ownBlock ∧ some k_ ≠ (.slice Ao72 t229.length co72 : Value).ownBlock ∧ some k_ ≠ (.slice Ao78 t232.length co78 : Value).ownBlock ∧ some k_ ≠ (.slice Ao82 t237.length co82 : Value).ownBlock ∧ some k_ ≠ (.slice Ao89 t240.length co89 : Value).ownBlock ∧ some k_ ≠ (.slice Ao94 t246.length co94 : Value).ownBlock ∧ some k_ ≠ (.slice Ao95 t249.length co95 : Value).ownBlock ∧ some k_ ≠ (.slice Ao99 t254.length co99 : Value).ownBlock ∧ some k_ ≠ (.slice Ao100 t257.length co100 : Value).ownBlock) (Kd.R_keptB (HO208.out) hkp (fun k_ hk_ hs_ => Or.elim hs_ (fun e_ => (hk_.1.1.1.1.1.1.1.1.1.2) e_) (fun e_ => (hk_.1.1.1.1.1.1.1.1.2) e_))) (fun k_ hk_ => ⟨hk_.1.1.1.1.1.1.1.1.1.1.1.1, hk_.1.1.1.1.1.1.1.1.1.1.1.2.1, hk_.1.1.1.1.1.1.1.1.1.1.1.2.2.1, hk_.1.1.1.1.1.1.1.1.1.1.1.2.2.2.1, hk_.1.1.1.1.1.1.1.1.1.1.1.2.2.2.2, hk_.1.1.1.1.1.1.1.1.1.1.2, hk_.1.1.1.1.1.1.1.1.1.2, hk_.1.1.1.1.1.1.1.1.2, hk_.1.1.1.1.1.1.1.2, hk_.1.1.1.1.1.1.2, hk_.1.1.1.1.1.2, hk_.1.1.1.1.2, hk_.1.1.1.2, hk_.1.1.2, hk_.1.2⟩)); have n5_ := Aside0.mk (Kd.R_mono (ok' := fun k_ => some k_ ≠ (v200 : Value).ownBlock ∧ some k_ ≠ (v203 : Value).ownBlock ∧ some k_ ≠ (v207 : Value).ownBlock ∧ some k_ ≠ (.slice Ao53 t213.length co53 : Value).ownBlock ∧ some k_ ≠ (.slice Ao55 t216.length co55 : Value).ownBlock ∧ some k_ ≠ (.slice Ao62 t221.length co62 : Value).ownBlock ∧ some k_ ≠ (.slice Ao67 t224.length co67 : Value).ownBlock ∧ some k_ ≠ (.slice Ao72 t229.length co72 : Value).ownBlock ∧ some k_ ≠ (.slice Ao78 t232.length co78 : Value).ownBlock ∧ some k_ ≠ (.slice Ao82 t237.length co82 : Value).ownBlock ∧ some k_ ≠ (.slice Ao89 t240.length co89 : Value).ownBlock ∧ some k_ ≠ (.slice Ao94 t246.length co94 : Value).ownBlock ∧ some k_ ≠ (.slice Ao95 t249.length co95 : Value).ownBlock ∧ some k_ ≠ (.slice Ao99 t254.length co99 : Value).ownBlock ∧ some k_ ≠ (.slice Ao100 t257.length co100 : Value).ownBlock) (Kd.R_keptB (HO211.out) hkp (fun k_ hk_ hs_ => Or.elim hs_ (fun e_ => (hk_.1.1.1.1.1.1.1.1.1.2) e_) (fun e_ => (hk_.1.1.1.1.1.1.1.1.2) e_))) (fun k_ hk_ => ⟨hk_.1.1.1.1.1.1.1.1.1.1.1.1, hk_.1.1.1.1.1.1.1.1.1.1.1.2.1, hk_.1.1.1.1.1.1.1.1.1.1.1.2.2.1, hk_.1.1.1.1.1.1.1.1.1.1.1.2.2.2.1, hk_.1.1.1.1.1.1.1.1.1.1.1.2.2.2.2, hk_.1.1.1.1.1.1.1.1.1.1.2, hk_.1.1.1.1.1.1.1.1.1.2, hk_.1.1.1.1.1.1.1.1.2, hk_.1.1.1.1.1.1.1.2, hk_.1.1.1.1.1.1.2, hk_.1.1.1.1.1.2, hk_.1.1.1.1.2, hk_.1.1.1.2, hk_.1.1.2, hk_.1.2⟩)); have n6_ := Aside0.mk (Kd.R_mono (ok' := fun k_ => some k_ ≠ (v200 : Value).ownBlock ∧ some k_ ≠ (v203 : Value).ownBlock ∧ some k_ ≠ (v207 : Value).ownBlock ∧ some k_ ≠ (v210 : Value).ownBlock ∧ some k_ ≠ (.slice Ao55 t216.length co55 : Value).ownBlock ∧ some k_ ≠ (.slice Ao62 t221.length co62 : Value).ownBlock ∧ some k_ ≠ (.slice Ao67 t224.length co67 : Value).ownBlock ∧ some k_ ≠ (.slice Ao72 t229.length co72 : Value).ownBlock ∧ some k_ ≠ (.slice Ao78 t232.length co78 : Value).ownBlock ∧ some k_ ≠ (.slice Ao82 t237.length co82 : Value).ownBlock ∧ some k_ ≠ (.slice Ao89 t240.length co89 : Value).ownBlock ∧ some k_ ≠ (.slice Ao94 t246.length co94 : Value).ownBlock ∧ some k_ ≠ (.slice Ao95 t249.length co95 : Value).ownBlock ∧ some k_ ≠ (.slice Ao99 t254.length co99 : Value).ownBlock ∧ some k_ ≠ (.slice Ao100 t257.length co100 : Value).ownBlock) (Kd.R_keptB (HO215.out) hkp (fun k_ hk_ hs_ => Or.elim hs_ (fun e_ => (hk_.1.1.1.1.1.1.1.1.1.2) e_) (fun e_ => (hk_.1.1.1.1.1.1.1.1.2) e_))) (fun k_ hk_ => ⟨hk_.1.1.1.1.1.1.1.1.1.1.1.1, hk_.1.1.1.1.1.1.1.1.1.1.1.2.1, hk_.1.1.1.1.1.1.1.1.1.1.1.2.2.1, hk_.1.1.1.1.1.1.1.1.1.1.1.2.2.2.1, hk_.1.1.1.1.1.1.1.1.1.1.1.2.2.2.2, hk_.1.1.1.1.1.1.1.1.1.1.2, hk_.1.1.1.1.1.1.1.1.1.2, hk_.1.1.1.1.1.1.1.1.2, hk_.1.1.1.1.1.1.1.2, hk_.1.1.1.1.1.1.2, hk_.1.1.1.1.1.2, hk_.1.1.1.1.2, hk_.1.1.1.2, hk_.1.1.2, hk_.1.2⟩)); have n7_ := Aside0.mk (Kd.R_mono (ok' := fun k_ => some k_ ≠ (v200 : Value).ownBlock ∧ some k_ ≠ (v203 : Value).ownBlock ∧ some k_ ≠ (v207 : Value).ownBlock ∧ some k_ ≠ (v210 : Value).ownBlock ∧ some k_ ≠ (.slice Ao53 t213.length co53 : Value).ownBlock ∧ some k_ ≠ (.slice Ao62 t221.length co62 : Value).ownBlock ∧ some k_ ≠ (.slice Ao67 t224.length co67 : Value).ownBlock ∧ some k_ ≠ (.slice Ao72 t229.length co72 : Value).ownBlock ∧ some k_ ≠ (.slice Ao78 t232.length co78 : Value).ownBlock ∧ some k_ ≠ (.slice Ao82 t237.length co82 : Value).ownBlock ∧ some k_ ≠ (.slice Ao89 t240.length co89 : Value).ownBlock ∧ some k_ ≠ (.slice Ao94 t246.length co94 : Value).ownBlock ∧ some k_ ≠ (.slice Ao95 t249.length co95 : Value).ownBlock ∧ some k_ ≠ (.slice Ao99 t254.length co99 : Value).ownBlock ∧ some k_ ≠ (.slice Ao100 t257.length co100 : Value).ownBlock) (Kd.R_keptB (HO218.out) hkp (fun k_ hk_ hs_ => Or.elim hs_ (fun e_ => (hk_.1.1.1.1.1.1.1.1.1.2) e_) (fun e_ => (hk_.1.1.1.1.1.1.1.1.2) e_))) (fun k_ hk_ => ⟨hk_.1.1.1.1.1.1.1.1.1.1.1.1, hk_.1.1.1.1.1.1.1.1.1.1.1.2.1, hk_.1.1.1.1.1.1.1.1.1.1.1.2.2.1, hk_.1.1.1.1.1.1.1.1.1.1.1.2.2.2.1, hk_.1.1.1.1.1.1.1.1.1.1.1.2.2.2.2, hk_.1.1.1.1.1.1.1.1.1.1.2, hk_.1.1.1.1.1.1.1.1.1.2, hk_.1.1.1.1.1.1.1.1.2, hk_.1.1.1.1.1.1.1.2, hk_.1.1.1.1.1.1.2, hk_.1.1.1.1.1.2, hk_.1.1.1.1.2, hk_.1.1.1.2, hk_.1.1.2, hk_.1.2⟩)); have n8_ := Aside0.mk (blk_kept (by exact lK <| BK220.out) hkp (fun hs_ => Or.elim hs_ (fun e_ => (fun e_ => (Kd.R_ne HO223.out BK220.out (by decide)) e_) e_) (fun e_ => (fun e_ => (Kd.R_ne HO226.out BK220.out (by decide)) e_) e_))); have n9_ := Aside0.mk (Kd.R_reok rfl hy0 (fun k_ e_ => HO223.out.1 k_ e_)); have n10_ := Aside0.mk (Kd.R_reok rfl hy1 (fun k_ e_ => HO226.out.1 k_ e_)); have n11_ := Aside0.mk (blk_kept (by exact lK <| BK228.out) hkp (fun hs_ => Or.elim hs_ (fun e_ => (fun e_ => (Kd.R_ne HO223.out BK228.out (by decide)) e_) e_) (fun e_ => (fun e_ => (Kd.R_ne HO226.out BK228.out (by decide)) e_) e_))); have n12_ := Aside0.mk (Kd.R_mono (ok' := fun k_ => some k_ ≠ (v200 : Value).ownBlock ∧ some k_ ≠ (v203 : Value).ownBlock ∧ some k_ ≠ (v207 : Value).ownBlock ∧ some k_ ≠ (v210 : Value).ownBlock ∧ some k_ ≠ (.slice Ao53 t213.length co53 : Value).ownBlock ∧ some k_ ≠ (.slice Ao55 t216.length co55 : Value).ownBlock ∧ some k_ ≠ (.slice Ao62 t221.length co62 : Value).ownBlock ∧ some k_ ≠ (.slice Ao67 t224.length co67 : Value).ownBlock ∧ some k_ ≠ (.slice Ao78 t232.length co78 : Value).ownBlock ∧ some k_ ≠ (.slice Ao82 t237.length co82 : Value).ownBlock ∧ some k_ ≠ (.slice Ao89 t240.length co89 : Value).ownBlock ∧ some k_ ≠ (.slice Ao94 t246.length co94 : Value).ownBlock ∧ some k_ ≠ (.slice Ao95 t249.length co95 : Value).ownBlock ∧ some k_ ≠ (.slice Ao99 t254.length co99 : Value).ownBlock ∧ some k_ ≠ (.slice Ao100 t257.length co100 : Value).ownBlock) (Kd.R_keptB (HO231.out) hkp (fun k_ hk_ hs_ => Or.elim hs_ (fun e_ => (hk_.1.1.1.1.1.1.1.2) e_) (fun e_ => (hk_.1.1.1.1.1.1.2) e_))) (fun k_ hk_ => ⟨hk_.1.1.1.1.1.1.1.1.1.1.1.1.1.1.2, hk_.1.1.1.1.1.1.1.1.1.1.1.1.1.2, hk_.1.1.1.1.1.1.1.1.1.1.1.1.2, hk_.1.1.1.1.1.1.1.1.1.1.1.2, hk_.1.1.1.1.1.1.1.1.1.1.2, hk_.1.1.1.1.1.1.1.1.1.2, hk_.1.1.1.1.1.1.1.1.2, hk_.1.1.1.1.1.1.1.2, hk_.1.1.1.1.1.1.1.1.1.1.1.1.1.1.1, hk_.1.1.1.1.1.1.2, hk_.1.1.1.1.1.2, hk_.1.1.1.1.2, hk_.1.1.1.2, hk_.1.1.2, hk_.1.2⟩)); have n13_ := Aside0.mk (Kd.R_mono (ok' := fun k_ => some k_ ≠ (v200 : Value).ownBlock ∧ some k_ ≠ (v203 : Value).ownBlock ∧ some k_ ≠ (v207 : Value).ownBlock ∧ some k_ ≠ (v210 : Value).ownBlock ∧ some k_ ≠ (.slice Ao53 t213.length co53 : Value).ownBlock ∧ some k_ ≠ (.slice Ao55 t216.length co55 : Value).ownBlock ∧ some k_ ≠ (.slice Ao62 t221.length co62 : Value).ownBlock ∧ some k_ ≠ (.slice Ao67 t224.length co67 : Value).ownBlock ∧ some k_ ≠ (.slice Ao72 t229.length co72 : Value).ownBlock ∧ some k_ ≠ (.slice Ao82 t237.length co82 : Value).ownBlock ∧ some k_ ≠ (.slice Ao89 t240.length co89 : Value).ownBlock ∧ some k_ ≠ (.slice Ao94 t246.length co94 : Value).ownBlock ∧ some k_ ≠ (.slice Ao95 t249.length co95 : Value).ownBlock ∧ some k_ ≠ (.slice Ao99 t254.length co99 : Value).ownBlock ∧ some k_ ≠ (.slice Ao100 t257.length co100 : Value).ownBlock) (Kd.R_keptB (HO234.out) hkp (fun k_ hk_ hs_ => Or.elim hs_ (fun e_ => (hk_.1.1.1.1.1.1.1.2) e_) (fun e_ => (hk_.1.1.1.1.1.1.2) e_))) (fun k_ hk_ => ⟨hk_.1.1.1.1.1.1.1.1.1.1.1.1.1.1.2, hk_.1.1.1.1.1.1.1.1.1.1.1.1.1.2, hk_.1.1.1.1.1.1.1.1.1.1.1.1.2, hk_.1.1.1.1.1.1.1.1.1.1.1.2, hk_.1.1.1.1.1.1.1.1.1.1.2, hk_.1.1.1.1.1.1.1.1.1.2, hk_.1.1.1.1.1.1.1.1.2, hk_.1.1.1.1.1.1.1.2, hk_.1.1.1.1.1.1.1.1.1.1.1.1.1.1.1, hk_.1.1.1.1.1.1.2, hk_.1.1.1.1.1.2, hk_.1.1.1.1.2, hk_.1.1.1.2, hk_.1.1.2, hk_.1.2⟩)); have n14_ := Aside0.mk (blk_kept (by exact lK <| BK236.out) hkp (fun hs_ => Or.elim hs_ (fun e_ => (fun e_ => (Kd.R_ne HO223.out BK236.out (by decide)) e_) e_) (fun e_ => (fun e_ => (Kd.R_ne HO226.out BK236.out (by decide)) e_) e_))); have n15_ := Aside0.mk (Kd.R_mono (ok' := fun k_ => some k_ ≠ (v200 : Value).ownBlock ∧ some k_ ≠ (v203 : Value).ownBlock ∧ some k_ ≠ (v207 : Value).ownBlock ∧ some k_ ≠ (v210 : Value).ownBlock ∧ some k_ ≠ (.slice Ao53 t213.length co53 : Value).ownBlock ∧ some k_ ≠ (.slice Ao55 t216.length co55 : Value).ownBlock ∧ some k_ ≠ (.slice Ao62 t221.length co62 : Value).ownBlock ∧ some k_ ≠ (.slice Ao67 t224.length co67 : Value).ownBlock ∧ some k_ ≠ (.slice Ao72 t229.length co72 : Value).ownBlock ∧ some k_ ≠ (.slice Ao78 t232.length co78 : Value).ownBlock ∧ some k_ ≠ (.slice Ao89 t240.length co89 : Value).ownBlock ∧ some k_ ≠ (.slice Ao94 t246.length co94 : Value).ownBlock ∧ some k_ ≠ (.slice Ao95 t249.length co95 : Value).ownBlock ∧ some k_ ≠ (.slice Ao99 t254.length co99 : Value).ownBlock ∧ some k_ ≠ (.slice Ao100 t257.length co100 : Value).ownBlock) (Kd.R_keptB (HO239.out) hkp (fun k_ hk_ hs_ => Or.elim hs_ (fun e_ => (hk_.1.1.1.1.1.1.1.2) e_) (fun e_ => (hk_.1.1.1.1.1.1.2) e_))) (fun k_ hk_ => ⟨hk_.1.1.1.1.1.1.1.1.1.1.1.1.1.1.2, hk_.1.1.1.1.1.1.1.1.1.1.1.1.1.2, hk_.1.1.1.1.1.1.1.1.1.1.1.1.2, hk_.1.1.1.1.1.1.1.1.1.1.1.2, hk_.1.1.1.1.1.1.1.1.1.1.2, hk_.1.1.1.1.1.1.1.1.1.2, hk_.1.1.1.1.1.1.1.1.2, hk_.1.1.1.1.1.1.1.2, hk_.1.1.1.1.1.1.2, hk_.1.1.1.1.1.2, hk_.1.1.1.1.1.1.1.1.1.1.1.1.1.1.1, hk_.1.1.1.1.2, hk_.1.1.1.2, hk_.1.1.2, hk_.1.2⟩)); have n16_ := Aside0.mk (Kd.R_mono (ok' := fun k_ => some k_ ≠ (v200 : Value).ownBlock ∧ some k_ ≠ (v203 : Value).ownBlock ∧ some k_ ≠ (v207 : Value).ownBlock ∧ some k_ ≠ (v210 : Value).ownBlock ∧ some k_ ≠ (.slice Ao53 t213.length co53 : Value).ownBlock ∧ some k_ ≠ (.slice Ao55 t216.length co55 : Value).ownBlock ∧ some k_ ≠ (.slice Ao62 t221.length co62 : Value).ownBlock ∧ some k_ ≠ (.slice Ao67 t224.length co67 : Value).ownBlock ∧ some k_ ≠ (.slice Ao72 t229.length co72 : Value).ownBlock ∧ some k_ ≠ (.slice Ao78 t232.length co78 : Value).ownBlock ∧ some k_ ≠ (.slice Ao82 t237.length co82 : Value).ownBlock ∧ some k_ ≠ (.slice Ao94 t246.length co94 : Value).ownBlock ∧ some k_ ≠ (.slice Ao95 t249.length co95 : Value).ownBlock ∧ some k_ ≠ (.slice Ao99 t254.length co99 : Value).ownBlock ∧ some k_ ≠ (.slice Ao100 t257.length co100 : Value).ownBlock) (Kd.R_keptB (HO242.out) hkp (fun k_ hk_ hs_ => Or.elim hs_ (fun e_ => (hk_.1.1.1.1.1.1.1.2) e_) (fun e_ => (hk_.1.1.1.1.1.1.2) e_))) (fun k_ hk_ => ⟨hk_.1.1.1.1.1.1.1.1.1.1.1.1.1.1.2, hk_.1.1.1.1.1.1.1.1.1.1.1.1.1.2, hk_.1.1.1.1.1.1.1.1.1.1.1.1.2, hk_.1.1.1.1.1.1.1.1.1.1.1.2, hk_.1.1.1.1.1.1.1.1.1.1.2, hk_.1.1.1.1.1.1.1.1.1.2, hk_.1.1.1.1.1.1.1.1.2, hk_.1.1.1.1.1.1.1.2, hk_.1.1.1.1.1.1.2, hk_.1.1.1.1.1.2, hk_.1.1.1.1.1.1.1.1.1.1.1.1.1.1.1, hk_.1.1.1.1.2, hk_.1.1.1.2, hk_.1.1.2, hk_.1.2⟩)); have n17_ := Aside0.mk (blk_kept (by exact lK <| BK244.out) hkp (fun hs_ => Or.elim hs_ (fun e_ => (fun e_ => (Kd.R_ne HO223.out BK244.out (by decide)) e_) e_) (fun e_ => (fun e_ => (Kd.R_ne HO226.out BK244.out (by decide)) e_) e_))); have n18_ := Aside0.mk (Kd.R_mono (ok' := fun k_ => some k_ ≠ (v200 : Value).ownBlock ∧ some k_ ≠ (v203 : Value).ownBlock ∧ some k_ ≠ (v207 : Value).ownBlock ∧ some k_ ≠ (v210 : Value).ownBlock ∧ some k_ ≠ (.slice Ao53 t213.length co53 : Value).ownBlock ∧ some k_ ≠ (.slice Ao55 t216.length co55 : Value).ownBlock ∧ some k_ ≠ (.slice Ao62 t221.length co62 : Value).ownBlock ∧ some k_ ≠ (.slice Ao67 t224.length co67 : Value).ownBlock ∧ some k_ ≠ (.slice Ao72 t229.length co72 : Value).ownBlock ∧ some k_ ≠ (.slice Ao78 t232.length co78 : Value).ownBlock ∧ some k_ ≠ (.slice Ao82 t237.length co82 : Value).ownBlock ∧ some k_ ≠ (.slice Ao89 t240.length co89 : Value).ownBlock ∧ some k_ ≠ (.slice Ao95 t249.length co95 : Value).ownBlock ∧ some k_ ≠ (.slice Ao99 t254.length co99 : Value).ownBlock ∧ some k_ ≠ (.slice Ao100 t257.length co100 : Value).ownBlock) (Kd.R_keptB (HO248.out) hkp (fun k_ hk_ hs_ => Or.elim hs_ (fun e_ => (hk_.1.1.1.1.1.1.1.2) e_) (fun e_ => (hk_.1.1.1.1.1.1.2) e_))) (fun k_ hk_ => ⟨hk_.1.1.1.1.1.1.1.1.1.1.1.1.1.1.2, hk_.1.1.1.1.1.1.1.1.1.1.1.1.1.2, hk_.1.1.1.1.1.1.1.1.1.1.1.1.2, hk_.1.1.1.1.1.1.1.1.1.1.1.2, hk_.1.1.1.1.1.1.1.1.1.1.2, hk_.1.1.1.1.1.1.1.1.1.2, hk_.1.1.1.1.1.1.1.1.2, hk_.1.1.1.1.1.1.1.2, hk_.1.1.1.1.1.1.2, hk_.1.1.1.1.1.2, hk_.1.1.1.1.2, hk_.1.1.1.2, hk_.1.1.1.1.1.1.1.1.1.1.1.1.1.1.1, hk_.1.1.2, hk_.1.2⟩)); have n19_ := Aside0.mk (Kd.R_mono (ok' := fun k_ => some k_ ≠ (v200 : Value).ownBlock ∧ some k_ ≠ (v203 : Value).ownBlock ∧ some k_ ≠ (v207 : Value).ownBlock ∧ some k_ ≠ (v210 : Value).ownBlock ∧ some k_ ≠ (.slice Ao53 t213.length co53 : Value).ownBlock ∧ some k_ ≠ (.slice Ao55 t216.length co55 : Value).ownBlock ∧ some k_ ≠ (.slice Ao62 t221.length co62 : Value).ownBlock ∧ some k_ ≠ (.slice Ao67 t224.length co67 : Value).ownBlock ∧ some k_ ≠ (.slice Ao72 t229.length co72 : Value).ownBlock ∧ some k_ ≠ (.slice Ao78 t232.length co78 : Value).ownBlock ∧ some k_ ≠ (.slice Ao82 t237.length co82 : Value).ownBlock ∧ some k_ ≠ (.slice Ao89 t240.length co89 : Value).ownBlock ∧ some k_ ≠ (.slice Ao94 t246.length co94 : Value).ownBlock ∧ some k_ ≠ (.slice Ao99 t254.length co99 : Value).ownBlock ∧ some k_ ≠ (.slice Ao100 t257.length co100 : Value).ownBlock) (Kd.R_keptB (HO251.out) hkp (fun k_ hk_ hs_ => Or.elim hs_ (fun e_ => (hk_.1.1.1.1.1.1.1.2) e_) (fun e_ => (hk_.1.1.1.1.1.1.2) e_))) (fun k_ hk_ => ⟨hk_.1.1.1.1.1.1.1.1.1.1.1.1.1.1.2, hk_.1.1.1.1.1.1.1.1.1.1.1.1.1.2, hk_.1.1.1.1.1.1.1.1.1.1.1.1.2, hk_.1.1.1.1.1.1.1.1.1.1.1.2, hk_.1.1.1.1.1.1.1.1.1.1.2, hk_.1.1.1.1.1.1.1.1.1.2, hk_.1.1.1.1.1.1.1.1.2, hk_.1.1.1.1.1.1.1.2, hk_.1.1.1.1.1.1.2, hk_.1.1.1.1.1.2, hk_.1.1.1.1.2, hk_.1.1.1.2, hk_.1.1.1.1.1.1.1.1.1.1.1.1.1.1.1, hk_.1.1.2, hk_.1.2⟩)); have n20_ := Aside0.mk (Kd.R_mono (ok' := fun k_ => some k_ ≠ (v200 : Value).ownBlock ∧ some k_ ≠ (v203 : Value).ownBlock ∧ some k_ ≠ (v207 : Value).ownBlock ∧ some k_ ≠ (v210 : Value).ownBlock ∧ some k_ ≠ (.slice Ao53 t213.length co53 : Value).ownBlock ∧ some k_ ≠ (.slice Ao55 t216.length co55 : Value).ownBlock ∧ some k_ ≠ (.slice Ao62 t221.length co62 : Value).ownBlock ∧ some k_ ≠ (.slice Ao67 t224.length co67 : Value).ownBlock ∧ some k_ ≠ (.slice Ao72 t229.length co72 : Value).ownBlock ∧ some k_ ≠ (.slice Ao78 t232.length co78 : Value).ownBlock ∧ some k_ ≠ (.slice Ao82 t237.length co82 : Value).ownBlock ∧ some k_ ≠ (.slice Ao89 t240.length co89 : Value).ownBlock ∧ some k_ ≠ (.slice Ao94 t246.length co94 : Value).ownBlock ∧ some k_ ≠ (.slice Ao95 t249.length co95 : Value).ownBlock ∧ some k_ ≠ (.slice Ao100 t257.length co100 : Value).ownBlock) (Kd.R_keptB (HO256.out) hkp (fun k_ hk_ hs_ => Or.elim hs_ (fun e_ => (hk_.1.1.1.1.1.1.1.2) e_) (fun e_ => (hk_.1.1.1.1.1.1.2) e_))) (fun k_ hk_ => ⟨hk_.1.1.1.1.1.1.1.1.1.1.1.1.1.1.2, hk_.1.1.1.1.1.1.1.1.1.1.1.1.1.2, hk_.1.1.1.1.1.1.1.1.1.1.1.1.2, hk_.1.1.1.1.1.1.1.1.1.1.1.2, hk_.1.1.1.1.1.1.1.1.1.1.2, hk_.1.1.1.1.1.1.1.1.1.2, hk_.1.1.1.1.1.1.1.1.2, hk_.1.1.1.1.1.1.1.2, hk_.1.1.1.1.1.1.2, hk_.1.1.1.1.1.2, hk_.1.1.1.1.2, hk_.1.1.1.2, hk_.1.1.2, hk_.1.2, hk_.1.1.1.1.1.1.1.1.1.1.1.1.1.1.1⟩)); have n21_ := Aside0.mk (Kd.R_mono (ok' := fun k_ => some k_ ≠ (v200 : Value).ownBlock ∧ some k_ ≠ (v203 : Value).ownBlock ∧ some k_ ≠ (v207 : Value).ownBlock ∧ some k_ ≠ (v210 : Value).ownBlock ∧ some k_ ≠ (.slice Ao53 t213.length co53 : Value).ownBlock ∧ some k_ ≠ (.slice Ao55 t216.length co55 : Value).ownBlock ∧ some k_ ≠ (.slice Ao62 t221.length co62 : Value).ownBlock ∧ some k_ ≠ (.slice Ao67 t224.length co67 : Value).ownBlock ∧ some k_ ≠ (.slice Ao72 t229.length co72 : Value).ownBlock ∧ some k_ ≠ (.slice Ao78 t232.length co78 : Value).ownBlock ∧ some k_ ≠ (.slice Ao82 t237.length co82 : Value).ownBlock ∧ some k_ ≠ (.slice Ao89 t240.length co89 : Value).ownBlock ∧ some k_ ≠ (.slice Ao94 t246.length co94 : Value).ownBlock ∧ some k_ ≠ (.slice Ao95 t249.length co95 : Value).ownBlock ∧ some k_ ≠ (.slice Ao99 t254.length co99 : Value).ownBlock) (Kd.R_keptB (HO259.out) hkp (fun k_ hk_ hs_ => Or.elim hs_ (fun e_ => (hk_.1.1.1.1.1.1.1.2) e_) (fun e_ => (hk_.1.1.1.1.1.1.2) e_))) (fun k_ hk_ => ⟨hk_.1.1.1.1.1.1.1.1.1.1.1.1.1.1.2, hk_.1.1.1.1.1.1.1.1.1.1.1.1.1.2, hk_.1.1.1.1.1.1.1.1.1.1.1.1.2, hk_.1.1.1.1.1.1.1.1.1.1.1.2, hk_.1.1.1.1.1.1.1.1.1.1.2, hk_.1.1.1.1.1.1.1.1.1.2, hk_.1.1.1.1.1.1.1.1.2, hk_.1.1.1.1.1.1.1.2, hk_.1.1.1.1.1.1.2, hk_.1.1.1.1.1.2, hk_.1.1.1.1.2, hk_.1.1.1.2, hk_.1.1.2, hk_.1.2, hk_.1.1.1.1.1.1.1.1.1.1.1.1.1.1.1⟩)); have n22_ := Aside0.mk (hb); clear BK195; clear BK196; clear HO201; clear HO204; clear HO208; clear HO211; clear HO215; clear HO218; clear BK220; clear HO223; clear HO226; clear BK228; clear HO231; clear HO234; clear BK236; clear HO239; clear HO242; clear BK244; clear HO248; clear HO251; clear HO256; clear HO259; clear HB; have BK195 := n0_; have BK196 := n1_; have HO201 := n2_; have HO204 := n3_; have HO208 := n4_; have HO211 := n5_; have HO215 := n6_; have HO218 := n7_; have BK220 := n8_; have HO223 := n9_; have HO226 := n10_; have BK228 := n11_; have HO231 := n12_; have HO234 := n13_; have BK236 := n14_; have HO239 := n15_; have HO242 := n16_; have BK244 := n17_; have HO248 := n18_; have HO251 := n19_; have HO256 := n20_; have HO259 := n21_; have HB := n22_; clear n0_ n1_ n2_ n3_ n4_ n5_ n6_ n7_ n8_ n9_ n10_ n11_ n12_ n13_ n14_ n15_ n16_ n17_ n18_ n19_ n20_ n21_ n22_; (try clear hb); (try clear hkp); (try clear hy0); (try clear hy1); have hcz104_0 : w103.cell? ⟨gb236, 0, none⟩ = some (.slice Ao72 t229.length co72) := (blk_cell BK236.out 0).trans rfl; have hcz104_1 : w103.cell? ⟨gb236, 1, none⟩ = some (.slice Ao78 t232.length co78) := (blk_cell BK236.out 1).trans rfl; have hcz104_2 : w103.cell? ⟨gb236, 2, none⟩ = some (.int .i64 t235) := (blk_cell BK236.out 2).trans rfl; have hfz104_0 := blk_frozen BK236.out 0; have hfz104_1 := blk_frozen BK236.out 1; have hfz104_2 := blk_frozen BK236.out 2) | ((with_reducible refine gate_callee (f := 13) rfl ?_); refine goesL_ (some 55) rfl rfl Try.func13 (by kernel_rfl) rfl #[.agg #[.slice Ao72 t229.length co72, .slice Ao78 t232.length co78, .int .i64 t235], .int .i64 t262] rfl (by (try simp only [List.map_toArray, List.map_cons, List.map_nil]); first | done | rfl | (simp only [List.length_drop, List.length_take]; rfl)) ?_; (with_reducible refine (laws_markFrmForm.calls k (fun k_ => some k_ = (.slice Ao72 t229.length co72 : Value).ownBlock) (.slice Ao72 t229.length co72) t229 (fun k_ => some k_ = (.slice Ao78 t232.length co78 : Value).ownBlock) (.slice Ao78 t232.length co78) t232 t235 t262 t265 t266 t267 w _ ?side1 ?side2 ?side3 ?side4 ?side5 A34.out).mono ?_); (case side1 => repeat (first | (with_reducible first | exact HB.out | apply below_alloc | apply pw_below_drewN | apply below_drew1 | refine below_set ?_ (by first | exact GE195.out | exact GE196.out | exact GE220.out | exact GE228.out | exact GE236.out | exact GE244.out)) | exact HB.out)); (case side2 => exact Kd.R_tight rfl HO231.out); (case side3 => exact fun k_ e_ => (HO231.out.1 k_ e_.symm).2.2.2.2.2.2.2.2.1); (case side4 => exact Kd.R_tight rfl HO234.out); (case side5 => exact fun k_ e_ => (HO234.out.1 k_ e_.symm).2.2.2.2.2.2.2.2.1); rintro e w105 ⟨rfl, hy0, hy1, hb, hkp⟩; refine ⟨_, rfl, ?_⟩; have n0_ := Aside0.mk (blk_kept (by exact lK <| BK195.out) hkp (fun hs_ => Or.elim hs_ (fun e_ => (fun e_ => (Kd.R_ne HO231.out BK195.out (by decide)) e_) e_) (fun e_ => (fun e_ => (Kd.R_ne HO234.out BK195.out (by decide)) e_) e_))); have n1_ := Aside0.mk (blk_kept (by exact lK <| BK196.out) hkp (fun hs_ => Or.elim hs_ (fun e_ => (fun e_ => (Kd.R_ne HO231.out BK196.out (by decide)) e_) e_) (fun e_ => (fun e_ => (Kd.R_ne HO234.out BK196.out (by decide)) e_) e_))); have n2_ := Aside0.mk (Kd.R_mono (ok' := fun k_ => some k_ ≠ (v203 : Value).ownBlock ∧ some k_ ≠ (v207 : Value).ownBlock ∧ some k_ ≠ (v210 : Value).ownBlock ∧ some k_ ≠ (.slice Ao53 t213.length co53 : Value).ownBlock ∧ some k_ ≠ (.slice Ao55 t216.length co55 : Value).ownBlock ∧ some k_ ≠ (.slice Ao62 t221.length co62 : Value).ownBlock ∧ some k_ ≠ (.slice Ao67 t224.length co67 : Value).ownBlock ∧ some k_ ≠ (.slice Ao72 t229.length co72 : Value).ownBlock ∧ some k_ ≠ (.slice Ao78 t232.length co78 : Value).ownBlock ∧ some k_ ≠ (.slice Ao82 t237.length co82 : Value).ownBlock ∧ some k_ ≠ (.slice Ao89 t240.length co89 : Value).ownBlock ∧ some k_ ≠ (.slice Ao94 t246.length co94 : Value).ownBlock ∧ some k_ ≠ (.slice Ao95 t249.length co95 : Value).ownBlock ∧ some k_ ≠ (.slice Ao99 t254.length co99 : Value).ownBlock ∧ some k_ ≠ (.slice Ao100 t257.length co100 : Value).ownBlock) (Kd.R_keptB (HO201.out) hkp (fun k_ hk_ hs_ => Or.elim hs_ (fun e_ => (hk_.2.2.2.2.2.2.2.1) e_) (fun e_ => (hk_.2.2.2.2.2.2.2.2.1) e_))) (fun k_ hk_ => ⟨hk_.1.1, hk_.1.2.1, hk_.1.2.2.1, hk_.1.2.2.2.1, hk_.1.2.2.2.2.1, hk_.1.2.2.2.2.2.1, hk_.1.2.2.2.2.2.2.1, hk_.1.2.2.2.2.2.2.2.1, hk_.1.2.2.2.2.2.2.2.2.1, hk_.1.2.2.2.2.2.2.2.2.2.1, hk_.1.2.2.2.2.2.2.2.2.2.2.1, hk_.1.2.2.2.2.2.2.2.2.2.2.2.1, hk_.1.2.2.2.2.2.2.2.2.2.2.2.2.1, hk_.1.2.2.2.2.2.2.2.2.2.2.2.2.2.1, hk_.1.2.2.2.2.2.2.2.2.2.2.2.2.2.2⟩)); have n3_ := Aside0.mk (Kd.R_mono (ok' := fun k_ => some k_ ≠ (v200 : Value).ownBlock ∧ some k_ ≠ (v207 : Value).ownBlock ∧ some k_ ≠ (v210 : Value).ownBlock ∧ some k_ ≠ (.slice Ao53 t213.length co53 : Value).ownBlock ∧ some k_ ≠ (.slice Ao55 t216.length co55 : Value).ownBlock ∧ some k_ ≠ (.slice Ao62 t221.length co62 : Value).ownBlock ∧ some k_ ≠ (.slice Ao67 t224.length co67 : Value).ownBlock ∧ some k_ ≠ (.slice Ao72 t229.length co72 : Value).ownBlock ∧ some k_ ≠ (.slice Ao78 t232.length co78 : Value).ownBlock ∧ some k_ ≠ (.slice Ao82 t237.length co82 : Value).ownBlock ∧ some k_ ≠ (.slice Ao89 t240.length co89 : Value).ownBlock ∧ some k_ ≠ (.slice Ao94 t246.length co94 : Value).ownBlock ∧ some k_ ≠ (.slice Ao95 t249.length co95 : Value).ownBlock ∧ some k_ ≠ (.slice Ao99 t254.length co99 : Value).ownBlock ∧ some k_ ≠ (.slice Ao100 t257.length co100 : Value).ownBlock) (Kd.R_keptB (HO204.out) hkp (fun k_ hk_ hs_ => Or.elim hs_ (fun e_ => (hk_.2.2.2.2.2.2.2.1) e_) (fun e_ => (hk_.2.2.2.2.2.2.2.2.1) e_))) (fun k_ hk_ => ⟨hk_.1.1, hk_.1.2.1, hk_.1.2.2.1, hk_.1.2.2.2.1, hk_.1.2.2.2.2.1, hk_.1.2.2.2.2.2.1, hk_.1.2.2.2.2.2.2.1, hk_.1.2.2.2.2.2.2.2.1, hk_.1.2.2.2.2.2.2.2.2.1, hk_.1.2.2.2.2.2.2.2.2.2.1, hk_.1.2.2.2.2.2.2.2.2.2.2.1, hk_.1.2.2.2.2.2.2.2.2.2.2.2.1, hk_.1.2.2.2.2.2.2.2.2.2.2.2.2.1, hk_.1.2.2.2.2.2.2.2.2.2.2.2.2.2.1, hk_.1.2.2.2.2.2.2.2.2.2.2.2.2.2.2⟩)); have n4_ := Aside0.mk (Kd.R_mono (ok' := fun k_ => some k_ ≠ (v200 : Value).ownBlock ∧ some k_ ≠ (v203 : Value).ownBlock ∧ some k_ ≠ (v210 : Value).ownBlock ∧ some k_ ≠ (.slice Ao53 t213.length co53 : Value).ownBlock ∧ some k_ ≠ (.slice Ao55 t216.length co55 : Value).ownBlock ∧ some k_ ≠ (.slice Ao62 t221.length co62 : Value).ownBlock ∧ some k_ ≠ (.slice Ao67 t224.length co67 : Value).ownBlock ∧ some k_ ≠ (.slice Ao72 t229.length co72 : Value).ownBlock ∧ some k_ ≠ (.slice Ao78 t232.length co78 : Value).ownBlock ∧ some k_ ≠ (.slice Ao82 t237.length co82 : Value).ownBlock ∧ some k_ ≠ (.slice Ao89 t240.length co89 : Value).ownBlock ∧ some k_ ≠ (.slice Ao94 t246.length co94 : Value).ownBlock ∧ some k_ ≠ (.slice Ao95 t249.length co95 : Value).ownBlock ∧ some k_ ≠ (.slice Ao99 t254.length co99 : Value).ownBlock ∧ some k_ ≠ (.slice Ao100 t257.length co100 : Value).ownBlock) (Kd.R_keptB (HO208.out) hkp (fun k_ hk_ hs_ => Or.elim hs_ (fun e_ => (hk_.2.2.2.2.2.2.2.1) e_) (fun e_ => (hk_.2.2.2.2.2.2.2.2.1) e_))) (fun k_ hk_ => ⟨hk_.1.1, hk_.1.2.1, hk_.1.2.2.1, hk_.1.2.2.2.1, hk_.1.2.2.2.2.1, hk_.1.2.2.2.2.2.1, hk_.1.2.2.2.2.2.2.1, hk_.1.2.2.2.2.2.2.2.1, hk_.1.2.2.2.2.2.2.2.2.1, hk_.1.2.2.2.2.2.2.2.2.2.1, hk_.1.2.2.2.2.2.2.2.2.2.2.1, hk_.1.2.2.2.2.2.2.2.2.2.2.2.1, hk_.1.2.2.2.2.2.2.2.2.2.2.2.2.1, hk_.1.2.2.2.2.2.2.2.2.2.2.2.2.2.1, hk_.1.2.2.2.2.2.2.2.2.2.2.2.2.2.2⟩)); have n5_ := Aside0.mk (Kd.R_mono (ok' := fun k_ => some k_ ≠ (v200 : Value).ownBlock ∧ some k_ ≠ (v203 : Value).ownBlock ∧ some k_ ≠ (v207 : Value).ownBlock ∧ some k_ ≠ (.slice Ao53 t213.length co53 : Value).ownBlock ∧ some k_ ≠ (.slice Ao55 t216.length co55 : Value).ownBlock ∧ some k_ ≠ (.slice Ao62 t221.length co62 : Value).ownBlock ∧ some k_ ≠ (.slice Ao67 t224.length co67 : Value).ownBlock ∧ some k_ ≠ (.slice Ao72 t229.length co72 : Value).ownBlock ∧ some k_ ≠ (.slice Ao78 t232.length co78 : Value).ownBlock ∧ some k_ ≠ (.slice Ao82 t237.length co82 : Value).ownBlock ∧ some k_ ≠ (.slice Ao89 t240.length co89 : Value).ownBlock ∧ some k_ ≠ (.slice Ao94 t246.length co94 : Value).ownBlock ∧ some k_ ≠ (.slice Ao95 t249.length co95 : Value).ownBlock ∧ some k_ ≠ (.slice Ao99 t254.length co99 : Value).ownBlock ∧ some k_ ≠ (.slice Ao100 t257.length co100 : Value).ownBlock) (Kd.R_keptB (HO211.out) hkp (fun k_ hk_ hs_ => Or.elim hs_ (fun e_ => (hk_.2.2.2.2.2.2.2.1) e_) (fun e_ => (hk_.2.2.2.2.2.2.2.2.1) e_))) (fun k_ hk_ => ⟨hk_.1.1, hk_.1.2.1, hk_.1.2.2.1, hk_.1.2.2.2.1, hk_.1.2.2.2.2.1, hk_.1.2.2.2.2.2.1, hk_.1.2.2.2.2.2.2.1, hk_.1.2.2.2.2.2.2.2.1, hk_.1.2.2.2.2.2.2.2.2.1, hk_.1.2.2.2.2.2.2.2.2.2.1, hk_.1.2.2.2.2.2.2.2.2.2.2.1, hk_.1.2.2.2.2.2.2.2.2.2.2.2.1, hk_.1.2.2.2.2.2.2.2.2.2.2.2.2.1, hk_.1.2.2.2.2.2.2.2.2.2.2.2.2.2.1, hk_.1.2.2.2.2.2.2.2.2.2.2.2.2.2.2⟩)); have n6_ := Aside0.mk (Kd.R_mono (ok' := fun k_ => some k_ ≠ (v200 : Value).ownBlock ∧ some k_ ≠ (v203 : Value).ownBlock ∧ some k_ ≠ (v207 : Value).ownBlock ∧ some k_ ≠ (v210 : Value).ownBlock ∧ some k_ ≠ (.slice Ao55 t216.length co55 : Value).ownBlock ∧ some k_ ≠ (.slice Ao62 t221.length co62 : Value).ownBlock ∧ some k_ ≠ (.slice Ao67 t224.length co67 : Value).ownBlock ∧ some k_ ≠ (.slice Ao72 t229.length co72 : Value).ownBlock ∧ some k_ ≠ (.slice Ao78 t232.length co78 : Value).ownBlock ∧ some k_ ≠ (.slice Ao82 t237.length co82 : Value).ownBlock ∧ some k_ ≠ (.slice Ao89 t240.length co89 : Value).ownBlock ∧ some k_ ≠ (.slice Ao94 t246.length co94 : Value).ownBlock ∧ some k_ ≠ (.slice Ao95 t249.length co95 : Value).ownBlock ∧ some k_ ≠ (.slice Ao99 t254.length co99 : Value).ownBlock ∧ some k_ ≠ (.slice Ao100 t257.length co100 : Value).ownBlock) (Kd.R_keptB (HO215.out) hkp (fun k_ hk_ hs_ => Or.elim hs_ (fun e_ => (hk_.2.2.2.2.2.2.2.1) e_) (fun e_ => (hk_.2.2.2.2.2.2.2.2.1) e_))) (fun k_ hk_ => ⟨hk_.1.1, hk_.1.2.1, hk_.1.2.2.1, hk_.1.2.2.2.1, hk_.1.2.2.2.2.1, hk_.1.2.2.2.2.2.1, hk_.1.2.2.2.2.2.2.1, hk_.1.2.2.2.2.2.2.2.1, hk_.1.2.2.2.2.2.2.2.2.1, hk_.1.2.2.2.2.2.2.2.2.2.1, hk_.1.2.2.2.2.2.2.2.2.2.2.1, hk_.1.2.2.2.2.2.2.2.2.2.2.2.1, hk_.1.2.2.2.2.2.2.2.2.2.2.2.2.1, hk_.1.2.2.2.2.2.2.2.2.2.2.2.2.2.1, hk_.1.2.2.2.2.2.2.2.2.2.2.2.2.2.2⟩)); have n7_ := Aside0.mk (Kd.R_mono (ok' := fun k_ => some k_ ≠ (v200 : Value).ownBlock ∧ some k_ ≠ (v203 : Value).ownBlock ∧ some k_ ≠ (v207 : Value).ownBlock ∧ some k_ ≠ (v210 : Value).ownBlock ∧ some k_ ≠ (.slice Ao53 t213.length co53 : Value).ownBlock ∧ some k_ ≠ (.slice Ao62 t221.length co62 : Value).ownBlock ∧ some k_ ≠ (.slice Ao67 t224.length co67 : Value).ownBlock ∧ some k_ ≠ (.slice Ao72 t229.length co72 : Value).ownBlock ∧ some k_ ≠ (.slice Ao78 t232.length co78 : Value).ownBlock ∧ some k_ ≠ (.slice Ao82 t237.length co82 : Value).ownBlock ∧ some k_ ≠ (.slice Ao89 t240.length co89 : Value).ownBlock ∧ some k_ ≠ (.slice Ao94 t246.length co94 : Value).ownBlock ∧ some k_ ≠ (.slice Ao95 t249.length co95 : Value).ownBlock ∧ some k_ ≠ (.slice Ao99 t254.length co99 : Value).ownBlock ∧ some k_ ≠ (.slice Ao100 t257.length co100 : Value).ownBlock) (Kd.R_keptB (HO218.out) hkp (fun k_ hk_ hs_ => Or.elim hs_ (fun e_ => (hk_.2.2.2.2.2.2.2.1) e_) (fun e_ => (hk_.2.2.2.2.2.2.2.2.1) e_))) (fun k_ hk_ => ⟨hk_.1.1, hk_.1.2.1, hk_.1.2.2.1, hk_.1.2.2.2.1, hk_.1.2.2.2.2.1, hk_.1.2.2.2.2.2.1, hk_.1.2.2.2.2.2.2.1, hk_.1.2.2.2.2.2.2.2.1, hk_.1.2.2.2.2.2.2.2.2.1, hk_.1.2.2.2.2.2.2.2.2.2.1, hk_.1.2.2.2.2.2.2.2.2.2.2.1, hk_.1.2.2.2.2.2.2.2.2.2.2.2.1, hk_.1.2.2.2.2.2.2.2.2.2.2.2.2.1, hk_.1.2.2.2.2.2.2.2.2.2.2.2.2.2.1, hk_.1.2.2.2.2.2.2.2.2.2.2.2.2.2.2⟩)); have n8_ := Aside0.mk (blk_kept (by exact lK <| BK220.out) hkp (fun hs_ => Or.elim hs_ (fun e_ => (fun e_ => (Kd.R_ne HO231.out BK220.out (by decide)) e_) e_) (fun e_ => (fun e_ => (Kd.R_ne HO234.out BK220.out (by decide)) e_) e_))); have n9_ := Aside0.mk (Kd.R_mono (ok' := fun k_ => some k_ ≠ (v200 : Value).ownBlock ∧ some k_ ≠ (v203 : Value).ownBlock ∧ some k_ ≠ (v207 : Value).ownBlock ∧ some k_ ≠ (v210 : Value).ownBlock ∧ some k_ ≠ (.slice Ao53 t213.length co53 : Value).ownBlock ∧ some k_ ≠ (.slice Ao55 t216.length co55 : Value).ownBlock ∧ some k_ ≠ (.slice Ao67 t224.length co67 : Value).ownBlock ∧ some k_ ≠ (.slice Ao72 t229.length co72 : Value).ownBlock ∧ some k_ ≠ (.slice Ao78 t232.length co78 : Value).ownBlock ∧ some k_ ≠ (.slice Ao82 t237.length co82 : Value).ownBlock ∧ some k_ ≠ (.slice Ao89 t240.length co89 : Value).ownBlock ∧ some k_ ≠ (.slice Ao94 t246.length co94 : Value).ownBlock ∧ some k_ ≠ (.slice Ao95 t249.length co95 : Value).ownBlock ∧ some k_ ≠ (.slice Ao99 t254.length co99 : Value).ownBlock ∧ some k_ ≠ (.slice Ao100 t257.length co100 : Value).ownBlock) (Kd.R_keptB (HO223.out) hkp (fun k_ hk_ hs_ => Or.elim hs_ (fun e_ => (hk_.1.1.1.1.1.1.1.2) e_) (fun e_ => (hk_.1.1.1.1.1.1.2) e_))) (fun k_ hk_ => ⟨hk_.1.1.1.1.1.1.1.1.1.1.1.1.1.1.2, hk_.1.1.1.1.1.1.1.1.1.1.1.1.1.2, hk_.1.1.1.1.1.1.1.1.1.1.1.1.2, hk_.1.1.1.1.1.1.1.1.1.1.1.2, hk_.1.1.1.1.1.1.1.1.1.1.2, hk_.1.1.1.1.1.1.1.1.1.2, hk_.1.1.1.1.1.1.1.1.1.1.1.1.1.1.1, hk_.1.1.1.1.1.1.1.1.2, hk_.1.1.1.1.1.1.1.2, hk_.1.1.1.1.1.1.2, hk_.1.1.1.1.1.2, hk_.1.1.1.1.2, hk_.1.1.1.2, hk_.1.1.2, hk_.1.2⟩)); have n10_ := Aside0.mk (Kd.R_mono (ok' := fun k_ => some k_ ≠ (v200 : Value).ownBlock ∧ some k_ ≠ (v203 : Value).ownBlock ∧ some k_ ≠ (v207 : Value).ownBlock ∧ some k_ ≠ (v210 : Value).ownBlock ∧ some k_ ≠ (.slice Ao53 t213.length co53 : Value).ownBlock ∧ some k_ ≠ (.slice Ao55 t216.length co55 : Value).ownBlock ∧ some k_ ≠ (.slice Ao62 t221.length co62 : Value).ownBlock ∧ some k_ ≠ (.slice Ao72 t229.length co72 : Value).ownBlock ∧ some k_ ≠ (.slice Ao78 t232.length co78 : Value).ownBlock ∧ some k_ ≠ (.slice Ao82 t237.length co82 : Value).ownBlock ∧ some k_ ≠ (.slice Ao89 t240.length co89 : Value).ownBlock ∧ some k_ ≠ (.slice Ao94 t246.length co94 : Value).ownBlock ∧ some k_ ≠ (.slice Ao95 t249.length co95 : Value).ownBlock ∧ some k_ ≠ (.slice Ao99 t254.length co99 : Value).ownBlock ∧ some k_ ≠ (.slice Ao100 t257.length co100 : Value).ownBlock) (Kd.R_keptB (HO226.out) hkp (fun k_ hk_ hs_ => Or.elim hs_ (fun e_ => (hk_.1.1.1.1.1.1.1.2) e_) (fun e_ => (hk_.1.1.1.1.1.1.2) e_))) (fun k_ hk_ => ⟨hk_.1.1.1.1.1.1.1.1.1.1.1.1.1.1.2, hk_.1.1.1.1.1.1.1.1.1.1.1.1.1.2, hk_.1.1.1.1.1.1.1.1.1.1.1.1.2, hk_.1.1.1.1.1.1.1.1.1.1.1.2, hk_.1.1.1.1.1.1.1.1.1.1.2, hk_.1.1.1.1.1.1.1.1.1.2, hk_.1.1.1.1.1.1.1.1.1.1.1.1.1.1.1, hk_.1.1.1.1.1.1.1.1.2, hk_.1.1.1.1.1.1.1.2, hk_.1.1.1.1.1.1.2, hk_.1.1.1.1.1.2, hk_.1.1.1.1.2, hk_.1.1.1.2, hk_.1.1.2, hk_.1.2⟩)); have n11_ := Aside0.mk (blk_kept (by exact lK <| BK228.out) hkp (fun hs_ => Or.elim hs_ (fun e_ => (fun e_ => (Kd.R_ne HO231.out BK228.out (by decide)) e_) e_) (fun e_ => (fun e_ => (Kd.R_ne HO234.out BK228.out (by decide)) e_) e_))); have n12_ := Aside0.mk (Kd.R_reok rfl hy0 (fun k_ e_ => HO231.out.1 k_ e_)); have n13_ := Aside0.mk (Kd.R_reok rfl hy1 (fun k_ e_ => HO234.out.1 k_ e_)); have n14_ := Aside0.mk (blk_kept (by exact lK <| BK236.out) hkp (fun hs_ => Or.elim hs_ (fun e_ => (fun e_ => (Kd.R_ne HO231.out BK236.out (by decide)) e_) e_) (fun e_ => (fun e_ => (Kd.R_ne HO234.out BK236.out (by decide)) e_) e_))); have n15_ := Aside0.mk (Kd.R_mono (ok' := fun k_ => some k_ ≠ (v200 : Value).ownBlock ∧ some k_ ≠ (v203 : Value).ownBlock ∧ some k_ ≠ (v207 : Value).ownBlock ∧ some k_ ≠ (v210 : Value).ownBlock ∧ some k_ ≠ (.slice Ao53 t213.length co53 : Value).ownBlock ∧ some k_ ≠ (.slice Ao55 t216.length co55 : Value).ownBlock ∧ some k_ ≠ (.slice Ao62 t221.length co62 : Value).ownBlock ∧ some k_ ≠ (.slice Ao67 t224.length co67 : Value).ownBlock ∧ some k_ ≠ (.slice Ao72 t229.length co72 : Value).ownBlock ∧ some k_ ≠ (.slice Ao78 t232.length co78 : Value).ownBlock ∧ some k_ ≠ (.slice Ao89 t240.length co89 : Value).ownBlock ∧ some k_ ≠ (.slice Ao94 t246.length co94 : Value).ownBlock ∧ some k_ ≠ (.slice Ao95 t249.length co95 : Value).ownBlock ∧ some k_ ≠ (.slice Ao99 t254.length co99 : Value).ownBlock ∧ some k_ ≠ (.slice Ao100 t257.length co100 : Value).ownBlock) (Kd.R_keptB (HO239.out) hkp (fun k_ hk_ hs_ => Or.elim hs_ (fun e_ => (hk_.2.2.2.2.2.2.2.2.1) e_) (fun e_ => (hk_.2.2.2.2.2.2.2.2.2.1) e_))) (fun k_ hk_ => ⟨hk_.1.1, hk_.1.2.1, hk_.1.2.2.1, hk_.1.2.2.2.1, hk_.1.2.2.2.2.1, hk_.1.2.2.2.2.2.1, hk_.1.2.2.2.2.2.2.1, hk_.1.2.2.2.2.2.2.2.1, hk_.1.2.2.2.2.2.2.2.2.1, hk_.1.2.2.2.2.2.2.2.2.2.1, hk_.1.2.2.2.2.2.2.2.2.2.2.1, hk_.1.2.2.2.2.2.2.2.2.2.2.2.1, hk_.1.2.2.2.2.2.2.2.2.2.2.2.2.1, hk_.1.2.2.2.2.2.2.2.2.2.2.2.2.2.1, hk_.1.2.2.2.2.2.2.2.2.2.2.2.2.2.2⟩)); have n16_ := Aside0.mk (Kd.R_mono (ok' := fun k_ => some k_ ≠ (v200 : Value).ownBlock ∧ some k_ ≠ (v203 : Value).ownBlock ∧ some k_ ≠ (v207 : Value).ownBlock ∧ some k_ ≠ (v210 : Value).ownBlock ∧ some k_ ≠ (.slice Ao53 t213.length co53 : Value).ownBlock ∧ some k_ ≠ (.slice Ao55 t216.length co55 : Value).ownBlock ∧ some k_ ≠ (.slice Ao62 t221.length co62 : Value).ownBlock ∧ some k_ ≠ (.slice Ao67 t224.length co67 : Value).ownBlock ∧ some k_ ≠ (.slice Ao72 t229.length co72 : Value).ownBlock ∧ some k_ ≠ (.slice Ao78 t232.length co78 : Value).ownBlock ∧ some k_ ≠ (.slice Ao82 t237.length co82 : Value).ownBlock ∧ some k_ ≠ (.slice Ao94 t246.length co94 : Value).ownBlock ∧ some k_ ≠ (.slice Ao95 t249.length co95 : Value).ownBlock ∧ some k_ ≠ (.slice Ao99 t254.length co99 : Value).ownBlock ∧ some k_ ≠ (.slice Ao100 t257.length co100 : Value).ownBlock) (Kd.R_keptB (HO242.out) hkp (fun k_ hk_ hs_ => Or.elim hs_ (fun e_ => (hk_.2.2.2.2.2.2.2.2.1) e_) (fun e_ => (hk_.2.2.2.2.2.2.2.2.2.1) e_))) (fun k_ hk_ => ⟨hk_.1.1, hk_.1.2.1, hk_.1.2.2.1, hk_.1.2.2.2.1, hk_.1.2.2.2.2.1, hk_.1.2.2.2.2.2.1, hk_.1.2.2.2.2.2.2.1, hk_.1.2.2.2.2.2.2.2.1, hk_.1.2.2.2.2.2.2.2.2.1, hk_.1.2.2.2.2.2.2.2.2.2.1, hk_.1.2.2.2.2.2.2.2.2.2.2.1, hk_.1.2.2.2.2.2.2.2.2.2.2.2.1, hk_.1.2.2.2.2.2.2.2.2.2.2.2.2.1, hk_.1.2.2.2.2.2.2.2.2.2.2.2.2.2.1, hk_.1.2.2.2.2.2.2.2.2.2.2.2.2.2.2⟩)); have n17_ := Aside0.mk (blk_kept (by exact lK <| BK244.out) hkp (fun hs_ => Or.elim hs_ (fun e_ => (fun e_ => (Kd.R_ne HO231.out BK244.out (by decide)) e_) e_) (fun e_ => (fun e_ => (Kd.R_ne HO234.out BK244.out (by decide)) e_) e_))); have n18_ := Aside0.mk (Kd.R_mono (ok' := fun k_ => some k_ ≠ (v200 : Value).ownBlock ∧ some k_ ≠ (v203 : Value).ownBlock ∧ some k_ ≠ (v207 : Value).ownBlock ∧ some k_ ≠ (v210 : Value).ownBlock ∧ some k_ ≠ (.slice Ao53 t213.length co53 : Value).ownBlock ∧ some k_ ≠ (.slice Ao55 t216.length co55 : Value).ownBlock ∧ some k_ ≠ (.slice Ao62 t221.length co62 : Value).ownBlock ∧ some k_ ≠ (.slice Ao67 t224.length co67 : Value).ownBlock ∧ some k_ ≠ (.slice Ao72 t229.length co72 : Value).ownBlock ∧ some k_ ≠ (.slice Ao78 t232.length co78 : Value).ownBlock ∧ some k_ ≠ (.slice Ao82 t237.length co82 : Value).ownBlock ∧ some k_ ≠ (.slice Ao89 t240.length co89 : Value).ownBlock ∧ some k_ ≠ (.slice Ao95 t249.length co95 : Value).ownBlock ∧ some k_ ≠ (.slice Ao99 t254.length co99 : Value).ownBlock ∧ some k_ ≠ (.slice Ao100 t257.length co100 : Value).ownBlock) (Kd.R_keptB (HO248.out) hkp (fun k_ hk_ hs_ => Or.elim hs_ (fun e_ => (hk_.2.2.2.2.2.2.2.2.1) e_) (fun e_ => (hk_.2.2.2.2.2.2.2.2.2.1) e_))) (fun k_ hk_ => ⟨hk_.1.1, hk_.1.2.1, hk_.1.2.2.1, hk_.1.2.2.2.1, hk_.1.2.2.2.2.1, hk_.1.2.2.2.2.2.1, hk_.1.2.2.2.2.2.2.1, hk_.1.2.2.2.2.2.2.2.1, hk_.1.2.2.2.2.2.2.2.2.1, hk_.1.2.2.2.2.2.2.2.2.2.1, hk_.1.2.2.2.2.2.2.2.2.2.2.1, hk_.1.2.2.2.2.2.2.2.2.2.2.2.1, hk_.1.2.2.2.2.2.2.2.2.2.2.2.2.1, hk_.1.2.2.2.2.2.2.2.2.2.2.2.2.2.1, hk_.1.2.2.2.2.2.2.2.2.2.2.2.2.2.2⟩)); have n19_ := Aside0.mk (Kd.R_mono (ok' := fun k_ => some k_ ≠ (v200 : Value).ownBlock ∧ some k_ ≠ (v203 : Value).ownBlock ∧ some k_ ≠ (v207 : Value).ownBlock ∧ some k_ ≠ (v210 : Value).ownBlock ∧ some k_ ≠ (.slice Ao53 t213.length co53 : Value).ownBlock ∧ some k_ ≠ (.slice Ao55 t216.length co55 : Value).ownBlock ∧ some k_ ≠ (.slice Ao62 t221.length co62 : Value).ownBlock ∧ some k_ ≠ (.slice Ao67 t224.length co67 : Value).ownBlock ∧ some k_ ≠ (.slice Ao72 t229.length co72 : Value).ownBlock ∧ some k_ ≠ (.slice Ao78 t232.length co78 : Value).ownBlock ∧ some k_ ≠ (.slice Ao82 t237.length co82 : Value).ownBlock ∧ some k_ ≠ (.slice Ao89 t240.length co89 : Value).ownBlock ∧ some k_ ≠ (.slice Ao94 t246.length co94 : Value).ownBlock ∧ some k_ ≠ (.slice Ao99 t254.length co99 : Value).ownBlock ∧ some k_ ≠ (.slice Ao100 t257.length co100 : Value).ownBlock) (Kd.R_keptB (HO251.out) hkp (fun k_ hk_ hs_ => Or.elim hs_ (fun e_ => (hk_.2.2.2.2.2.2.2.2.1) e_) (fun e_ => (hk_.2.2.2.2.2.2.2.2.2.1) e_))) (fun k_ hk_ => ⟨hk_.1.1, hk_.1.2.1, hk_.1.2.2.1, hk_.1.2.2.2.1, hk_.1.2.2.2.2.1, hk_.1.2.2.2.2.2.1, hk_.1.2.2.2.2.2.2.1, hk_.1.2.2.2.2.2.2.2.1, hk_.1.2.2.2.2.2.2.2.2.1, hk_.1.2.2.2.2.2.2.2.2.2.1, hk_.1.2.2.2.2.2.2.2.2.2.2.1, hk_.1.2.2.2.2.2.2.2.2.2.2.2.1, hk_.1.2.2.2.2.2.2.2.2.2.2.2.2.1, hk_.1.2.2.2.2.2.2.2.2.2.2.2.2.2.1, hk_.1.2.2.2.2.2.2.2.2.2.2.2.2.2.2⟩)); have n20_ := Aside0.mk (Kd.R_mono (ok' := fun k_ => some k_ ≠ (v200 : Value).ownBlock ∧ some k_ ≠ (v203 : Value).ownBlock ∧ some k_ ≠ (v207 : Value).ownBlock ∧ some k_ ≠ (v210 : Value).ownBlock ∧ some k_ ≠ (.slice Ao53 t213.length co53 : Value).ownBlock ∧ some k_ ≠ (.slice Ao55 t216.length co55 : Value).ownBlock ∧ some k_ ≠ (.slice Ao62 t221.length co62 : Value).ownBlock ∧ some k_ ≠ (.slice Ao67 t224.length co67 : Value).ownBlock ∧ some k_ ≠ (.slice Ao72 t229.length co72 : Value).ownBlock ∧ some k_ ≠ (.slice Ao78 t232.length co78 : Value).ownBlock ∧ some k_ ≠ (.slice Ao82 t237.length co82 : Value).ownBlock ∧ some k_ ≠ (.slice Ao89 t240.length co89 : Value).ownBlock ∧ some k_ ≠ (.slice Ao94 t246.length co94 : Value).ownBlock ∧ some k_ ≠ (.slice Ao95 t249.length co95 : Value).ownBlock ∧ some k_ ≠ (.slice Ao100 t257.length co100 : Value).ownBlock) (Kd.R_keptB (HO256.out) hkp (fun k_ hk_ hs_ => Or.elim hs_ (fun e_ => (hk_.2.2.2.2.2.2.2.2.1) e_) (fun e_ => (hk_.2.2.2.2.2.2.2.2.2.1) e_))) (fun k_ hk_ => ⟨hk_.1.1, hk_.1.2.1, hk_.1.2.2.1, hk_.1.2.2.2.1, hk_.1.2.2.2.2.1, hk_.1.2.2.2.2.2.1, hk_.1.2.2.2.2.2.2.1, hk_.1.2.2.2.2.2.2.2.1, hk_.1.2.2.2.2.2.2.2.2.1, hk_.1.2.2.2.2.2.2.2.2.2.1, hk_.1.2.2.2.2.2.2.2.2.2.2.1, hk_.1.2.2.2.2.2.2.2.2.2.2.2.1, hk_.1.2.2.2.2.2.2.2.2.2.2.2.2.1, hk_.1.2.2.2.2.2.2.2.2.2.2.2.2.2.1, hk_.1.2.2.2.2.2.2.2.2.2.2.2.2.2.2⟩)); have n21_ := Aside0.mk (Kd.R_mono (ok' := fun k_ => some k_ ≠ (v200 : Value).ownBlock ∧ some k_ ≠ (v203 : Value).ownBlock ∧ some k_ ≠ (v207 : Value).ownBlock ∧ some k_ ≠ (v210 : Value).ownBlock ∧ some k_ ≠ (.slice Ao53 t213.length co53 : Value).ownBlock ∧ some k_ ≠ (.slice Ao55 t216.length co55 : Value).ownBlock ∧ some k_ ≠ (.slice Ao62 t221.length co62 : Value).ownBlock ∧ some k_ ≠ (.slice Ao67 t224.length co67 : Value).ownBlock ∧ some k_ ≠ (.slice Ao72 t229.length co72 : Value).ownBlock ∧ some k_ ≠ (.slice Ao78 t232.length co78 : Value).ownBlock ∧ some k_ ≠ (.slice Ao82 t237.length co82 : Value).ownBlock ∧ some k_ ≠ (.slice Ao89 t240.length co89 : Value).ownBlock ∧ some k_ ≠ (.slice Ao94 t246.length co94 : Value).ownBlock ∧ some k_ ≠ (.slice Ao95 t249.length co95 : Value).ownBlock ∧ some k_ ≠ (.slice Ao99 t254.length co99 : Value).ownBlock) (Kd.R_keptB (HO259.out) hkp (fun k_ hk_ hs_ => Or.elim hs_ (fun e_ => (hk_.2.2.2.2.2.2.2.2.1) e_) (fun e_ => (hk_.2.2.2.2.2.2.2.2.2.1) e_))) (fun k_ hk_ => ⟨hk_.1.1, hk_.1.2.1, hk_.1.2.2.1, hk_.1.2.2.2.1, hk_.1.2.2.2.2.1, hk_.1.2.2.2.2.2.1, hk_.1.2.2.2.2.2.2.1, hk_.1.2.2.2.2.2.2.2.1, hk_.1.2.2.2.2.2.2.2.2.1, hk_.1.2.2.2.2.2.2.2.2.2.1, hk_.1.2.2.2.2.2.2.2.2.2.2.1, hk_.1.2.2.2.2.2.2.2.2.2.2.2.1, hk_.1.2.2.2.2.2.2.2.2.2.2.2.2.1, hk_.1.2.2.2.2.2.2.2.2.2.2.2.2.2.1, hk_.1.2.2.2.2.2.2.2.2.2.2.2.2.2.2⟩)); have n22_ := Aside0.mk (hb); clear BK195; clear BK196; clear HO201; clear HO204; clear HO208; clear HO211; clear HO215; clear HO218; clear BK220; clear HO223; clear HO226; clear BK228; clear HO231; clear HO234; clear BK236; clear HO239; clear HO242; clear BK244; clear HO248; clear HO251; clear HO256; clear HO259; clear HB; have BK195 := n0_; have BK196 := n1_; have HO201 := n2_; have HO204 := n3_; have HO208 := n4_; have HO211 := n5_; have HO215 := n6_; have HO218 := n7_; have BK220 := n8_; have HO223 := n9_; have HO226 := n10_; have BK228 := n11_; have HO231 := n12_; have HO234 := n13_; have BK236 := n14_; have HO239 := n15_; have HO242 := n16_; have BK244 := n17_; have HO248 := n18_; have HO251 := n19_; have HO256 := n20_; have HO259 := n21_; have HB := n22_; clear n0_ n1_ n2_ n3_ n4_ n5_ n6_ n7_ n8_ n9_ n10_ n11_ n12_ n13_ n14_ n15_ n16_ n17_ n18_ n19_ n20_ n21_ n22_; (try clear hb); (try clear hkp); (try clear hy0); (try clear hy1)))
            (try simp only [Act.put, List.setIfInBounds_toArray, List.set_cons_zero, List.set_cons_succ])
            go_cut [63] (fun v63 wc => ∃ (kq : Nat) (x63_34 : Bool), v63 = .bool x63_34 ∧ Aside0 (laws_FnExactFrmAdd.j0 kq x63_34 l0_0 l0_1 a0_2 l1_0 l1_1 a1_2 t213 t216 t219 t237 t240 t243 = some r) ∧ Aside0 (kq ≤ k) ∧ Aside0 (Kd.R (Kd.int .i64) 3 wc w.heap.size (fun k_ => some k_ ≠ ((.slice Ao55 t216.length co55) : Value).ownBlock ∧ some k_ ≠ ((.slice Ao62 t221.length co62) : Value).ownBlock ∧ some k_ ≠ ((.slice Ao67 t224.length co67) : Value).ownBlock ∧ some k_ ≠ ((.slice Ao72 t229.length co72) : Value).ownBlock ∧ some k_ ≠ ((.slice Ao78 t232.length co78) : Value).ownBlock ∧ some k_ ≠ ((.slice Ao82 t237.length co82) : Value).ownBlock ∧ some k_ ≠ ((.slice Ao89 t240.length co89) : Value).ownBlock) (.slice Ao53 t213.length co53) t213) ∧ Aside0 (Kd.R (Kd.int .i64) 3 wc w.heap.size (fun k_ => some k_ ≠ ((.slice Ao53 t213.length co53) : Value).ownBlock ∧ some k_ ≠ ((.slice Ao62 t221.length co62) : Value).ownBlock ∧ some k_ ≠ ((.slice Ao67 t224.length co67) : Value).ownBlock ∧ some k_ ≠ ((.slice Ao72 t229.length co72) : Value).ownBlock ∧ some k_ ≠ ((.slice Ao78 t232.length co78) : Value).ownBlock ∧ some k_ ≠ ((.slice Ao82 t237.length co82) : Value).ownBlock ∧ some k_ ≠ ((.slice Ao89 t240.length co89) : Value).ownBlock) (.slice Ao55 t216.length co55) t216) ∧ Aside0 (Kd.R (Kd.int .i64) 3 wc w.heap.size (fun k_ => some k_ ≠ ((.slice Ao53 t213.length co53) : Value).ownBlock ∧ some k_ ≠ ((.slice Ao55 t216.length co55) : Value).ownBlock ∧ some k_ ≠ ((.slice Ao67 t224.length co67) : Value).ownBlock ∧ some k_ ≠ ((.slice Ao72 t229.length co72) : Value).ownBlock ∧ some k_ ≠ ((.slice Ao78 t232.length co78) : Value).ownBlock ∧ some k_ ≠ ((.slice Ao82 t237.length co82) : Value).ownBlock ∧ some k_ ≠ ((.slice Ao89 t240.length co89) : Value).ownBlock) (.slice Ao62 t221.length co62) t263) ∧ Aside0 (Kd.R (Kd.int .i64) 3 wc w.heap.size (fun k_ => some k_ ≠ ((.slice Ao53 t213.length co53) : Value).ownBlock ∧ some k_ ≠ ((.slice Ao55 t216.length co55) : Value).ownBlock ∧ some k_ ≠ ((.slice Ao62 t221.length co62) : Value).ownBlock ∧ some k_ ≠ ((.slice Ao72 t229.length co72) : Value).ownBlock ∧ some k_ ≠ ((.slice Ao78 t232.length co78) : Value).ownBlock ∧ some k_ ≠ ((.slice Ao82 t237.length co82) : Value).ownBlock ∧ some k_ ≠ ((.slice Ao89 t240.length co89) : Value).ownBlock) (.slice Ao67 t224.length co67) t264) ∧ Aside0 (Kd.R (Kd.int .i64) 3 wc w.heap.size (fun k_ => some k_ ≠ ((.slice Ao53 t213.length co53) : Value).ownBlock ∧ some k_ ≠ ((.slice Ao55 t216.length co55) : Value).ownBlock ∧ some k_ ≠ ((.slice Ao62 t221.length co62) : Value).ownBlock ∧ some k_ ≠ ((.slice Ao67 t224.length co67) : Value).ownBlock ∧ some k_ ≠ ((.slice Ao78 t232.length co78) : Value).ownBlock ∧ some k_ ≠ ((.slice Ao82 t237.length co82) : Value).ownBlock ∧ some k_ ≠ ((.slice Ao89 t240.length co89) : Value).ownBlock) (.slice Ao72 t229.length co72) t266) ∧ Aside0 (Kd.R (Kd.int .i64) 3 wc w.heap.size (fun k_ => some k_ ≠ ((.slice Ao53 t213.length co53) : Value).ownBlock ∧ some k_ ≠ ((.slice Ao55 t216.length co55) : Value).ownBlock ∧ some k_ ≠ ((.slice Ao62 t221.length co62) : Value).ownBlock ∧ some k_ ≠ ((.slice Ao67 t224.length co67) : Value).ownBlock ∧ some k_ ≠ ((.slice Ao72 t229.length co72) : Value).ownBlock ∧ some k_ ≠ ((.slice Ao82 t237.length co82) : Value).ownBlock ∧ some k_ ≠ ((.slice Ao89 t240.length co89) : Value).ownBlock) (.slice Ao78 t232.length co78) t267) ∧ Aside0 (Kd.R (Kd.int .i64) 3 wc w.heap.size (fun k_ => some k_ ≠ ((.slice Ao53 t213.length co53) : Value).ownBlock ∧ some k_ ≠ ((.slice Ao55 t216.length co55) : Value).ownBlock ∧ some k_ ≠ ((.slice Ao62 t221.length co62) : Value).ownBlock ∧ some k_ ≠ ((.slice Ao67 t224.length co67) : Value).ownBlock ∧ some k_ ≠ ((.slice Ao72 t229.length co72) : Value).ownBlock ∧ some k_ ≠ ((.slice Ao78 t232.length co78) : Value).ownBlock ∧ some k_ ≠ ((.slice Ao89 t240.length co89) : Value).ownBlock) (.slice Ao82 t237.length co82) t237) ∧ Aside0 (Kd.R (Kd.int .i64) 3 wc w.heap.size (fun k_ => some k_ ≠ ((.slice Ao53 t213.length co53) : Value).ownBlock ∧ some k_ ≠ ((.slice Ao55 t216.length co55) : Value).ownBlock ∧ some k_ ≠ ((.slice Ao62 t221.length co62) : Value).ownBlock ∧ some k_ ≠ ((.slice Ao67 t224.length co67) : Value).ownBlock ∧ some k_ ≠ ((.slice Ao72 t229.length co72) : Value).ownBlock ∧ some k_ ≠ ((.slice Ao78 t232.length co78) : Value).ownBlock ∧ some k_ ≠ ((.slice Ao82 t237.length co82) : Value).ownBlock) (.slice Ao89 t240.length co89) t240) ∧ Aside0 (wc.heap[gb195]? = some (.cells #[(.slice A0_0 l0_0.length c0_0), (.slice A0_1 l0_1.length c0_1), .int .i64 a0_2] 24 (0, 0))) ∧ Aside0 (wc.heap[gb196]? = some (.cells #[(.slice A1_0 l1_0.length c1_0), (.slice A1_1 l1_1.length c1_1), .int .i64 a1_2] 24 (0, 0))) ∧ Aside0 (wc.heap[gb220]? = some (.cells #[(.slice Ao53 t213.length co53), (.slice Ao55 t216.length co55), .int .i64 t219] 26 (0, 0))) ∧ Aside0 (wc.heap[gb228]? = some (.cells #[(.slice Ao62 t221.length co62), (.slice Ao67 t224.length co67), .int .i64 t227] 26 (0, 0))) ∧ Aside0 (wc.heap[gb236]? = some (.cells #[(.slice Ao72 t229.length co72), (.slice Ao78 t232.length co78), .int .i64 t235] 26 (0, 0))) ∧ Aside0 (wc.heap[gb244]? = some (.cells #[(.slice Ao82 t237.length co82), (.slice Ao89 t240.length co89), .int .i64 t243] 26 (0, 0))) ∧ Aside0 (Below w.heap.size w wc))
            case first =>
              have H := HC35.out
              clear HC35
              by_cases c106 : t265 < 0
              · rw [if_pos c106] at H
                have c106b0 : decide (t265 < 0) = true := decide_eq_true c106
                clear c106
                (first | rw [c106b0] | (simp only [i64_w, i32_w]; rw [c106b0]) | skip)
                have H' := Aside0.mk H
                clear H
                go_wp2
                go_meet
                case rel => exact ⟨_, (true), (by first | rfl | (simp; done) | (simp [*]; done)), H', ⟨by first | omega | exact Nat.le_refl _⟩, ⟨by exact lR <| Kd.R_mono HO215.out (fun _ hk => ⟨hk.2.2.2.2.1, ⟨hk.2.2.2.2.2.1, ⟨hk.2.2.2.2.2.2.1, ⟨hk.2.2.2.2.2.2.2.1, ⟨hk.2.2.2.2.2.2.2.2.1, ⟨hk.2.2.2.2.2.2.2.2.2.1, hk.2.2.2.2.2.2.2.2.2.2.1⟩⟩⟩⟩⟩⟩)⟩, ⟨by exact lR <| Kd.R_mono HO218.out (fun _ hk => ⟨hk.2.2.2.2.1, ⟨hk.2.2.2.2.2.1, ⟨hk.2.2.2.2.2.2.1, ⟨hk.2.2.2.2.2.2.2.1, ⟨hk.2.2.2.2.2.2.2.2.1, ⟨hk.2.2.2.2.2.2.2.2.2.1, hk.2.2.2.2.2.2.2.2.2.2.1⟩⟩⟩⟩⟩⟩)⟩, ⟨by exact lR <| Kd.R_mono HO223.out (fun _ hk => ⟨hk.2.2.2.2.1, ⟨hk.2.2.2.2.2.1, ⟨hk.2.2.2.2.2.2.1, ⟨hk.2.2.2.2.2.2.2.1, ⟨hk.2.2.2.2.2.2.2.2.1, ⟨hk.2.2.2.2.2.2.2.2.2.1, hk.2.2.2.2.2.2.2.2.2.2.1⟩⟩⟩⟩⟩⟩)⟩, ⟨by exact lR <| Kd.R_mono HO226.out (fun _ hk => ⟨hk.2.2.2.2.1, ⟨hk.2.2.2.2.2.1, ⟨hk.2.2.2.2.2.2.1, ⟨hk.2.2.2.2.2.2.2.1, ⟨hk.2.2.2.2.2.2.2.2.1, ⟨hk.2.2.2.2.2.2.2.2.2.1, hk.2.2.2.2.2.2.2.2.2.2.1⟩⟩⟩⟩⟩⟩)⟩, ⟨by exact lR <| Kd.R_mono HO231.out (fun _ hk => ⟨hk.2.2.2.2.1, ⟨hk.2.2.2.2.2.1, ⟨hk.2.2.2.2.2.2.1, ⟨hk.2.2.2.2.2.2.2.1, ⟨hk.2.2.2.2.2.2.2.2.1, ⟨hk.2.2.2.2.2.2.2.2.2.1, hk.2.2.2.2.2.2.2.2.2.2.1⟩⟩⟩⟩⟩⟩)⟩, ⟨by exact lR <| Kd.R_mono HO234.out (fun _ hk => ⟨hk.2.2.2.2.1, ⟨hk.2.2.2.2.2.1, ⟨hk.2.2.2.2.2.2.1, ⟨hk.2.2.2.2.2.2.2.1, ⟨hk.2.2.2.2.2.2.2.2.1, ⟨hk.2.2.2.2.2.2.2.2.2.1, hk.2.2.2.2.2.2.2.2.2.2.1⟩⟩⟩⟩⟩⟩)⟩, ⟨by exact lR <| Kd.R_mono HO239.out (fun _ hk => ⟨hk.2.2.2.2.1, ⟨hk.2.2.2.2.2.1, ⟨hk.2.2.2.2.2.2.1, ⟨hk.2.2.2.2.2.2.2.1, ⟨hk.2.2.2.2.2.2.2.2.1, ⟨hk.2.2.2.2.2.2.2.2.2.1, hk.2.2.2.2.2.2.2.2.2.2.1⟩⟩⟩⟩⟩⟩)⟩, ⟨by exact lR <| Kd.R_mono HO242.out (fun _ hk => ⟨hk.2.2.2.2.1, ⟨hk.2.2.2.2.2.1, ⟨hk.2.2.2.2.2.2.1, ⟨hk.2.2.2.2.2.2.2.1, ⟨hk.2.2.2.2.2.2.2.2.1, ⟨hk.2.2.2.2.2.2.2.2.2.1, hk.2.2.2.2.2.2.2.2.2.2.1⟩⟩⟩⟩⟩⟩)⟩, ⟨by exact lK <| BK195.out⟩, ⟨by exact lK <| BK196.out⟩, ⟨by exact lK <| BK220.out⟩, ⟨by exact lK <| BK228.out⟩, ⟨by exact lK <| BK236.out⟩, ⟨by exact lK <| BK244.out⟩, ⟨by repeat (first | (with_reducible first | exact HB.out | apply below_alloc | apply pw_below_drewN | apply below_drew1 | refine below_set ?_ (by first | exact GE195.out | exact GE196.out | exact GE220.out | exact GE228.out | exact GE236.out | exact GE244.out)) | exact HB.out)⟩⟩
              · rw [if_neg c106] at H
                have c106b0 : decide (t265 < 0) = false := decide_eq_false c106
                clear c106
                (first | rw [c106b0] | (simp only [i64_w, i32_w]; rw [c106b0]) | skip)
                replace H := Option.bind_eq_some_iff.mp H
                obtain ⟨t268, A1070, H⟩ := H
                replace H : (laws_FnExactFrmAdd.j0 k (!t268) l0_0 l0_1 a0_2 l1_0 l1_1 a1_2 t213 t216 t219 t237 t240 t243) = some r := H
                have A107 := Aside0.mk A1070
                clear A1070
                have H' := Aside0.mk H
                clear H
                have hnb108 := NB244_195.out
                have hnc108 := NB195_244.out
                have hnb109 := NB244_196.out
                have hnc109 := NB196_244.out
                have hnb110 := NB244_220.out
                have hnc110 := NB220_244.out
                have hnb111 := NB244_228.out
                have hnc111 := NB228_244.out
                have hnb112 := NB244_236.out
                have hnc112 := NB236_244.out
                have hcz113_0 : w105.cell? ⟨gb244, 0, none⟩ = some (.slice Ao82 t237.length co82) := (blk_cell BK244.out 0).trans rfl
                have hcz113_1 : w105.cell? ⟨gb244, 1, none⟩ = some (.slice Ao89 t240.length co89) := (blk_cell BK244.out 1).trans rfl
                have hcz113_2 : w105.cell? ⟨gb244, 2, none⟩ = some (.int .i64 t243) := (blk_cell BK244.out 2).trans rfl
                have hfz113_0 := blk_frozen BK244.out 0
                have hfz113_1 := blk_frozen BK244.out 1
                have hfz113_2 := blk_frozen BK244.out 2
                have hnb114 := NB220_195.out
                have hnc114 := NB195_220.out
                have hnb115 := NB220_196.out
                have hnc115 := NB196_220.out
                have hnb116 := NB220_228.out
                have hnc116 := NB228_220.out
                have hnb117 := NB220_236.out
                have hnc117 := NB236_220.out
                have hcz118_0 : w105.cell? ⟨gb220, 0, none⟩ = some (.slice Ao53 t213.length co53) := (blk_cell BK220.out 0).trans rfl
                have hcz118_1 : w105.cell? ⟨gb220, 1, none⟩ = some (.slice Ao55 t216.length co55) := (blk_cell BK220.out 1).trans rfl
                have hcz118_2 : w105.cell? ⟨gb220, 2, none⟩ = some (.int .i64 t219) := (blk_cell BK220.out 2).trans rfl
                have hfz118_0 := blk_frozen BK220.out 0
                have hfz118_1 := blk_frozen BK220.out 1
                have hfz118_2 := blk_frozen BK220.out 2
                go_wp2_with (first | (go_at_call 12; (with_reducible refine (laws_eqFrmForm.calls k _ _ t237 _ _ t240 t243 _ _ t213 _ _ t216 t219 t268 _ ?side1 ?side2 ?side3 ?side4 ?side5 ?side6 ?side7 ?side8 A107.out).mono ?_); (case side1 => exact lC <| (Kd.R_reads' HO239.out).2.2); (case side2 => exact (Kd.R_reads' HO239.out).2.1); (case side3 => exact lC <| (Kd.R_reads' HO242.out).2.2); (case side4 => exact (Kd.R_reads' HO242.out).2.1); (case side5 => exact lC <| (Kd.R_reads' HO215.out).2.2); (case side6 => exact (Kd.R_reads' HO215.out).2.1); (case side7 => exact lC <| (Kd.R_reads' HO218.out).2.2); (case side8 => exact (Kd.R_reads' HO218.out).2.1); rintro e w119 ⟨rfl, hb⟩; have n0_ := Aside0.mk (Kd.R_below (by exact lR <| HO201.out) hb); have n1_ := Aside0.mk (Kd.R_below (by exact lR <| HO204.out) hb); have n2_ := Aside0.mk (Kd.R_below (by exact lR <| HO208.out) hb); have n3_ := Aside0.mk (Kd.R_below (by exact lR <| HO211.out) hb); have n4_ := Aside0.mk (Kd.R_below (by exact lR <| HO215.out) hb); have n5_ := Aside0.mk (Kd.R_below (by exact lR <| HO218.out) hb); have n6_ := Aside0.mk (Kd.R_below (by exact lR <| HO223.out) hb); have n7_ := Aside0.mk (Kd.R_below (by exact lR <| HO226.out) hb); have n8_ := Aside0.mk (Kd.R_below (by exact lR <| HO231.out) hb); have n9_ := Aside0.mk (Kd.R_below (by exact lR <| HO234.out) hb); have n10_ := Aside0.mk (Kd.R_below (by exact lR <| HO239.out) hb); have n11_ := Aside0.mk (Kd.R_below (by exact lR <| HO242.out) hb); have n12_ := Aside0.mk (Kd.R_below (by exact lR <| HO248.out) hb); have n13_ := Aside0.mk (Kd.R_below (by exact lR <| HO251.out) hb); have n14_ := Aside0.mk (Kd.R_below (by exact lR <| HO256.out) hb); have n15_ := Aside0.mk (Kd.R_below (by exact lR <| HO259.out) hb); have n16_ := Aside0.mk (blk_below (g := gb195) (o := .cells #[.slice A0_0 l0_0.length c0_0, .slice A0_1 l0_1.length c0_1, .int .i64 a0_2] 24 (0, 0)) (by exact lK <| BK195.out) hb); have n17_ := Aside0.mk (blk_below (g := gb196) (o := .cells #[.slice A1_0 l1_0.length c1_0, .slice A1_1 l1_1.length c1_1, .int .i64 a1_2] 24 (0, 0)) (by exact lK <| BK196.out) hb); have n18_ := Aside0.mk (blk_below (g := gb220) (o := .cells #[.slice Ao53 t213.length co53, .slice Ao55 t216.length co55, .int .i64 t219] 26 (0, 0)) (by exact lK <| BK220.out) hb); have n19_ := Aside0.mk (blk_below (g := gb228) (o := .cells #[.slice Ao62 t221.length co62, .slice Ao67 t224.length co67, .int .i64 t227] 26 (0, 0)) (by exact lK <| BK228.out) hb); have n20_ := Aside0.mk (blk_below (g := gb236) (o := .cells #[.slice Ao72 t229.length co72, .slice Ao78 t232.length co78, .int .i64 t235] 26 (0, 0)) (by exact lK <| BK236.out) hb); have n21_ := Aside0.mk (blk_below (g := gb244) (o := .cells #[.slice Ao82 t237.length co82, .slice Ao89 t240.length co89, .int .i64 t243] 26 (0, 0)) (by exact lK <| BK244.out) hb); have n22_ := Aside0.mk (below_step (by repeat (first | (with_reducible first | exact HB.out | apply below_alloc | apply pw_below_drewN | apply below_drew1 | refine below_set ?_ (by first | exact GE195.out | exact GE196.out | exact GE220.out | exact GE228.out | exact GE236.out | exact GE244.out)) | exact HB.out)) hb); clear HO201; clear HO204; clear HO208; clear HO211; clear HO215; clear HO218; clear HO223; clear HO226; clear HO231; clear HO234; clear HO239; clear HO242; clear HO248; clear HO251; clear HO256; clear HO259; clear BK195; clear BK196; clear BK220; clear BK228; clear BK236; clear BK244; clear HB; have HO201 := n0_; have HO204 := n1_; have HO208 := n2_; have HO211 := n3_; have HO215 := n4_; have HO218 := n5_; have HO223 := n6_; have HO226 := n7_; have HO231 := n8_; have HO234 := n9_; have HO239 := n10_; have HO242 := n11_; have HO248 := n12_; have HO251 := n13_; have HO256 := n14_; have HO259 := n15_; have BK195 := n16_; have BK196 := n17_; have BK220 := n18_; have BK228 := n19_; have BK236 := n20_; have BK244 := n21_; have HB := n22_; clear n0_ n1_ n2_ n3_ n4_ n5_ n6_ n7_ n8_ n9_ n10_ n11_ n12_ n13_ n14_ n15_ n16_ n17_ n18_ n19_ n20_ n21_ n22_; (try clear hb); (try clear hb2); (try clear hk); (try clear hi)))
                go_meet
                case rel => exact ⟨_, (!t268), (by first | rfl | (simp; done) | (simp [*]; done)), H', ⟨by first | omega | exact Nat.le_refl _⟩, ⟨by exact lR <| Kd.R_mono HO215.out (fun _ hk => ⟨hk.2.2.2.2.1, ⟨hk.2.2.2.2.2.1, ⟨hk.2.2.2.2.2.2.1, ⟨hk.2.2.2.2.2.2.2.1, ⟨hk.2.2.2.2.2.2.2.2.1, ⟨hk.2.2.2.2.2.2.2.2.2.1, hk.2.2.2.2.2.2.2.2.2.2.1⟩⟩⟩⟩⟩⟩)⟩, ⟨by exact lR <| Kd.R_mono HO218.out (fun _ hk => ⟨hk.2.2.2.2.1, ⟨hk.2.2.2.2.2.1, ⟨hk.2.2.2.2.2.2.1, ⟨hk.2.2.2.2.2.2.2.1, ⟨hk.2.2.2.2.2.2.2.2.1, ⟨hk.2.2.2.2.2.2.2.2.2.1, hk.2.2.2.2.2.2.2.2.2.2.1⟩⟩⟩⟩⟩⟩)⟩, ⟨by exact lR <| Kd.R_mono HO223.out (fun _ hk => ⟨hk.2.2.2.2.1, ⟨hk.2.2.2.2.2.1, ⟨hk.2.2.2.2.2.2.1, ⟨hk.2.2.2.2.2.2.2.1, ⟨hk.2.2.2.2.2.2.2.2.1, ⟨hk.2.2.2.2.2.2.2.2.2.1, hk.2.2.2.2.2.2.2.2.2.2.1⟩⟩⟩⟩⟩⟩)⟩, ⟨by exact lR <| Kd.R_mono HO226.out (fun _ hk => ⟨hk.2.2.2.2.1, ⟨hk.2.2.2.2.2.1, ⟨hk.2.2.2.2.2.2.1, ⟨hk.2.2.2.2.2.2.2.1, ⟨hk.2.2.2.2.2.2.2.2.1, ⟨hk.2.2.2.2.2.2.2.2.2.1, hk.2.2.2.2.2.2.2.2.2.2.1⟩⟩⟩⟩⟩⟩)⟩, ⟨by exact lR <| Kd.R_mono HO231.out (fun _ hk => ⟨hk.2.2.2.2.1, ⟨hk.2.2.2.2.2.1, ⟨hk.2.2.2.2.2.2.1, ⟨hk.2.2.2.2.2.2.2.1, ⟨hk.2.2.2.2.2.2.2.2.1, ⟨hk.2.2.2.2.2.2.2.2.2.1, hk.2.2.2.2.2.2.2.2.2.2.1⟩⟩⟩⟩⟩⟩)⟩, ⟨by exact lR <| Kd.R_mono HO234.out (fun _ hk => ⟨hk.2.2.2.2.1, ⟨hk.2.2.2.2.2.1, ⟨hk.2.2.2.2.2.2.1, ⟨hk.2.2.2.2.2.2.2.1, ⟨hk.2.2.2.2.2.2.2.2.1, ⟨hk.2.2.2.2.2.2.2.2.2.1, hk.2.2.2.2.2.2.2.2.2.2.1⟩⟩⟩⟩⟩⟩)⟩, ⟨by exact lR <| Kd.R_mono HO239.out (fun _ hk => ⟨hk.2.2.2.2.1, ⟨hk.2.2.2.2.2.1, ⟨hk.2.2.2.2.2.2.1, ⟨hk.2.2.2.2.2.2.2.1, ⟨hk.2.2.2.2.2.2.2.2.1, ⟨hk.2.2.2.2.2.2.2.2.2.1, hk.2.2.2.2.2.2.2.2.2.2.1⟩⟩⟩⟩⟩⟩)⟩, ⟨by exact lR <| Kd.R_mono HO242.out (fun _ hk => ⟨hk.2.2.2.2.1, ⟨hk.2.2.2.2.2.1, ⟨hk.2.2.2.2.2.2.1, ⟨hk.2.2.2.2.2.2.2.1, ⟨hk.2.2.2.2.2.2.2.2.1, ⟨hk.2.2.2.2.2.2.2.2.2.1, hk.2.2.2.2.2.2.2.2.2.2.1⟩⟩⟩⟩⟩⟩)⟩, ⟨by exact lK <| BK195.out⟩, ⟨by exact lK <| BK196.out⟩, ⟨by exact lK <| BK220.out⟩, ⟨by exact lK <| BK228.out⟩, ⟨by exact lK <| BK236.out⟩, ⟨by exact lK <| BK244.out⟩, ⟨by repeat (first | (with_reducible first | exact HB.out | apply below_alloc | apply pw_below_drewN | apply below_drew1 | refine below_set ?_ (by first | exact GE195.out | exact GE196.out | exact GE220.out | exact GE228.out | exact GE236.out | exact GE244.out)) | exact HB.out)⟩⟩
            case rest =>
              rename_i hK1_ _ hK0_
              exact hK0_ _ _ (laws_FnExactFrmAdd.rest k A0_0 c0_0 l0_0 A0_1 c0_1 l0_1 a0_2 A1_0 c1_0 l1_0 A1_1 c1_1 l1_1 a1_2 r w hr HR0_0 HC0_0 HR0_1 HC0_1 HR1_0 HC1_0 HR1_1 HC1_1 t198 t213 t216 t219 t221 t224 t227 t229 t232 t235 t237 t240 t243 t263 t264 t265 t266 t267 HC35 gb195 GW195 GE195 gb196 GW196 GE196 gb220 w52 hS_ GW220 GE220 NB195_220 NB220_195 NB196_220 NB220_196 Ao53 co53 Ao55 co55 gb228 GW228 GE228 NB220_228 NB228_220 Ao62 co62 Ao67 co67 gb236 GW236 GE236 NB220_236 NB236_220 Ao72 co72 Ao78 co78 gb244 GW244 GE244 NB195_244 NB244_195 NB196_244 NB244_196 NB220_244 NB244_220 NB228_244 NB244_228 NB236_244 NB244_236 Ao82 co82 Ao89 co89 w101 hHeld hcz102_0 hcz102_1 hcz102_2 hfz102_0 hfz102_1 hfz102_2 w103 hcz104_0 hcz104_1 hcz104_2 hfz104_0 hfz104_1 hfz104_2 w105 BK195 BK196 BK220 BK228 BK236 BK244 HB wc u14 u15 u16 u17 u18 u19 u20 u21 u22 u23 u24 u25 u26 u27 u28 u29 u30 u31 u32 u33 u34 u35 u36 u37 u38 u39 u40 u41 u42 u43 u44 u45 u46 u47 u48 u49 u50 u51 u52 u53 u54 u55 u56 u57 u58 u59 u60 u61 u62 u63 u64 u65 u66 u67 u68 u69 u70 u71 u72 u73 u74 u75 u76 u77 u78 u79 u80 u81 u82 u83 u84 u85 u86 u87 u88 u89 u90 u91 hcut _ hK1_)
          · replace c32 := Bool.eq_false_iff.mpr c32
            subst c32
            have H1 : (some false) = some r := by rw [if_neg (show ¬ (false = true) by decide)] at H; exact H
            clear H
            have H := H1
            clear H1
            exact absurd (Option.some.inj H) (by rw [hr.out]; decide)
        · replace c29 := Bool.eq_false_iff.mpr c29
          subst c29
          have H1 : (some false) = some r := by rw [if_neg (show ¬ (false = true) by decide)] at H; exact H
          clear H
          have H := H1
          clear H1
          exact absurd (Option.some.inj H) (by rw [hr.out]; decide)
      · replace c26 := Bool.eq_false_iff.mpr c26
        subst c26
        have H1 : (some false) = some r := by rw [if_neg (show ¬ (false = true) by decide)] at H; exact H
        clear H
        have H := H1
        clear H1
        exact absurd (Option.some.inj H) (by rw [hr.out]; decide)

/-- THE ONE PURE STATEMENT of laws_FnExactFrmAdd. -/
def laws_FnExactFrmAdd.Pure : Prop := ∀ (l0_0 : List Int) (l0_1 : List Int) (a0_2 : Int) (l1_0 : List Int) (l1_1 : List Int) (a1_2 : Int), (l0_0.length ≤ 9223372036854775807 ∧ ∀ x0 ∈ l0_0, (Lit.int .i64 x0).wf = true) → (l0_1.length ≤ 9223372036854775807 ∧ ∀ x1 ∈ l0_1, (Lit.int .i64 x1).wf = true) → (Lit.int .i64 a0_2).wf = true → (l1_0.length ≤ 9223372036854775807 ∧ ∀ x2 ∈ l1_0, (Lit.int .i64 x2).wf = true) → (l1_1.length ≤ 9223372036854775807 ∧ ∀ x3 ∈ l1_1, (Lit.int .i64 x3).wf = true) → (Lit.int .i64 a1_2).wf = true → ∃ k, laws_FnExactFrmAdd.f k l0_0 l0_1 a0_2 l1_0 l1_1 a1_2 = some true
theorem laws_FnExactFrmAdd.walk (P : laws_FnExactFrmAdd.Pure) (A0_0 : Option Addr) (c0_0 : Nat) (l0_0 : List Int) (A0_1 : Option Addr) (c0_1 : Nat) (l0_1 : List Int) (a0_2 : Int) (A1_0 : Option Addr) (c1_0 : Nat) (l1_0 : List Int) (A1_1 : Option Addr) (c1_1 : Nat) (l1_1 : List Int) (a1_2 : Int) (w : World) (hr0_0 : Kd.C (Kd.int .i64) w A0_0 l0_0.length l0_0) (hc0_0 : l0_0.length ≤ c0_0) (hr0_1 : Kd.C (Kd.int .i64) w A0_1 l0_1.length l0_1) (hc0_1 : l0_1.length ≤ c0_1) (hr1_0 : Kd.C (Kd.int .i64) w A1_0 l1_0.length l1_0) (hc1_0 : l1_0.length ≤ c1_0) (hr1_1 : Kd.C (Kd.int .i64) w A1_1 l1_1.length l1_1) (hc1_1 : l1_1.length ≤ c1_1) (hw0_0 : (l0_0.length ≤ 9223372036854775807 ∧ ∀ x0 ∈ l0_0, (Lit.int .i64 x0).wf = true)) (hw0_1 : (l0_1.length ≤ 9223372036854775807 ∧ ∀ x1 ∈ l0_1, (Lit.int .i64 x1).wf = true)) (hw0_2 : (Lit.int .i64 a0_2).wf = true) (hw1_0 : (l1_0.length ≤ 9223372036854775807 ∧ ∀ x2 ∈ l1_0, (Lit.int .i64 x2).wf = true)) (hw1_1 : (l1_1.length ≤ 9223372036854775807 ∧ ∀ x3 ∈ l1_1, (Lit.int .i64 x3).wf = true)) (hw1_2 : (Lit.int .i64 a1_2).wf = true) :
    Calls Try.prog 3 #[.agg #[.slice A0_0 l0_0.length c0_0, .slice A0_1 l0_1.length c0_1, .int .i64 a0_2], .agg #[.slice A1_0 l1_0.length c1_0, .slice A1_1 l1_1.length c1_1, .int .i64 a1_2]] w fun e w' => e = .returned (.bool true) ∧ Below w.heap.size w w' := by
  obtain ⟨k, h⟩ := P l0_0 l0_1 a0_2 l1_0 l1_1 a1_2 hw0_0 hw0_1 hw0_2 hw1_0 hw1_1 hw1_2
  refine (laws_FnExactFrmAdd.calls k A0_0 c0_0 l0_0 A0_1 c0_1 l0_1 a0_2 A1_0 c1_0 l1_0 A1_1 c1_1 l1_1 a1_2 true w ⟨rfl⟩ hr0_0 hc0_0 hr0_1 hc0_1 hr1_0 hc1_0 hr1_1 hc1_1 h).mono ?_
  rintro e w' ⟨rfl, hd⟩
  exact ⟨rfl, hd⟩

end Go.Proofs.Ytfbdjimcjoddgaa.QFnExactFrmAdd
