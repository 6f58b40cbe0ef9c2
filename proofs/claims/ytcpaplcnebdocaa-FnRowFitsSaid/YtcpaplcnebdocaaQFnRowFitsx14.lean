/- Plain functions, and that the Go code computes them: written by a program of this session over the seat's translation; the conditions stand in each theorem. -/
import Derived.Test.YtcpaplcnebdocaaHW4
import Derived.Test.YtcpaplcnebdocaaQFnRowFitsx0
import Derived.Test.YtcpaplcnebdocaaQFnRowFitsx11
import Derived.Test.YtcpaplcnebdocaaQFnRowFitsx12
import Derived.Test.YtcpaplcnebdocaaQFnRowFitsx13
namespace Go.Proofs.Ytcpaplcnebdocaa.QFnRowFits
open Go.RowKit Go.Proofs.YtcpaplcnebdocaaW.PrintWords Go.Proofs.YtcpaplcnebdocaaW.PrintLast Go.Proofs.YtcpaplcnebdocaaW.PrintMore Go.Proofs.Ytcpaplcnebdocaa.HWords
open Value (ownBlock)
attribute [local go_sem] max2_int min2_int max_two min_two max_three min_three max_four min_four   -- for this text's walks alone
set_option linter.unusedVariables false
set_option linter.unusedSimpArgs false
set_option maxRecDepth 100000
set_option maxHeartbeats 8000000
/-! ### laws_FnRowFits: function 3 -/
mutual
def laws_FnRowFits.j0 : Nat → List Int → List Int → Bool → List (S34) → List (S34) → List (S34) → Bool → Option (Bool)
 | 0, _, _, _, _, _, _, _ => none
 | k + 1, x4, x5, x6, x876000, x876001, x876002, x876003 => laws_FnRowFits.l0 k x4 x5 x6 0 x876000 x876001 x876002 x876003
def laws_FnRowFits.j2 : Nat → List Int → List Int → Bool → List (S34) → List (S34) → List (S34) → Bool → Option (Bool)
 | 0, _, _, _, _, _, _, _ => none
 | k + 1, x4, x5, x6, x876000, x876001, x876002, x876003 => (impl_RowFits.f x876000 x876001 x876002 x876003 x4 x5).bind fun t882 => (if (t882 == x6) = true then ((impl_RowFits.f x876000 x876001 x876002 x876003 x4 x5).bind fun t883 => ((spec_RowFits.f k x876000 x876001 x876002 x876003 x4 x5).bind fun t884 => (if (t883 == t884) = true then ((impl_RowOk.f x876000 x876001 x876002 x876003).bind fun t885 => ((spec_RowOk.f k x876000 x876001 x876002 x876003).bind fun t886 => (if (t885 == t886) = true then ((impl_RowOk.f ([] : List (S34)) ([] : List (S34)) ([] : List (S34)) true).bind fun t887 => (some t887)) else (some false)))) else (some false)))) else (some false))
def laws_FnRowFits.l0 : Nat → List Int → List Int → Bool → Int → List (S34) → List (S34) → List (S34) → Bool → Option (Bool)
 | 0, _, _, _, _, _, _, _, _ => none
 | k + 1, x4, x5, x6, x7, x876000, x876001, x876002, x876003 => if x7 < (x876000.length : Int) then (if x6 = true then (if 0 ≤ x7 then ((impl_FrmAt.f k ((rd_T34 x876000 x7).f0) ((rd_T34 x876000 x7).f1) ((rd_T34 x876000 x7).f2) x4 x5).bind fun bt880 => (if bt880.2 = true then (laws_FnRowFits.l0 k x4 x5 (decide (bt880.1 ≥ 0)) (wrap64 (x7 + 1)) x876000 x876001 x876002 x876003) else (laws_FnRowFits.l0 k x4 x5 false (wrap64 (x7 + 1)) x876000 x876001 x876002 x876003))) else (none)) else (laws_FnRowFits.j2 k x4 x5 x6 x876000 x876001 x876002 x876003)) else (laws_FnRowFits.j2 k x4 x5 x6 x876000 x876001 x876002 x876003)
end
def laws_FnRowFits.f (k : Nat) (l0 : List Int) : Option (Bool) := if (l0.length : Int) > 1048576 then (some true) else ((spec_DrawRowFits.f k l0).bind fun bt859 => ((impl_RowOk.f bt859.1 bt859.2.1 bt859.2.2.1 bt859.2.2.2.1).bind fun t876 => (if t876 = true then ((impl_ValOk.f bt859.2.2.2.2.1).bind fun t877 => (if t877 = true then ((impl_ArgOk.f bt859.2.2.2.2.2).bind fun t878 => (laws_FnRowFits.j0 k bt859.2.2.2.2.1 bt859.2.2.2.2.2 t878 bt859.1 bt859.2.1 bt859.2.2.1 bt859.2.2.2.1)) else (laws_FnRowFits.j0 k bt859.2.2.2.2.1 bt859.2.2.2.2.2 false bt859.1 bt859.2.1 bt859.2.2.1 bt859.2.2.2.1))) else (laws_FnRowFits.j0 k bt859.2.2.2.2.1 bt859.2.2.2.2.2 false bt859.1 bt859.2.1 bt859.2.2.1 bt859.2.2.2.1))))
theorem laws_FnRowFits.mono_l : ∀ k, (∀ y0 y1 y2 y3 y4 y5 y6, LeO (laws_FnRowFits.j0 k y0 y1 y2 y3 y4 y5 y6) (laws_FnRowFits.j0 (k + 1) y0 y1 y2 y3 y4 y5 y6)) ∧ (∀ y0 y1 y2 y3 y4 y5 y6, LeO (laws_FnRowFits.j2 k y0 y1 y2 y3 y4 y5 y6) (laws_FnRowFits.j2 (k + 1) y0 y1 y2 y3 y4 y5 y6)) ∧ (∀ y0 y1 y2 y3 y4 y5 y6 y7, LeO (laws_FnRowFits.l0 k y0 y1 y2 y3 y4 y5 y6 y7) (laws_FnRowFits.l0 (k + 1) y0 y1 y2 y3 y4 y5 y6 y7))
 | 0 => ⟨fun _ _ _ _ _ _ _ r h => by simp [laws_FnRowFits.j0] at h, fun _ _ _ _ _ _ _ r h => by simp [laws_FnRowFits.j2] at h, fun _ _ _ _ _ _ _ _ r h => by simp [laws_FnRowFits.l0] at h⟩
 | k + 1 => by
  obtain ⟨ih0, ih1, ih2⟩ := laws_FnRowFits.mono_l k
  refine ⟨?_, ?_, ?_⟩
  ·intro y0 y1 y2 y3 y4 y5 y6
   unfold laws_FnRowFits.j0
   have := @impl_FrmAt.mono
   have := @spec_DrawRowFits.mono
   have := @spec_RowFits.mono
   have := @spec_RowOk.mono
   exact mo
  ·intro y0 y1 y2 y3 y4 y5 y6
   unfold laws_FnRowFits.j2
   have := @impl_FrmAt.mono
   have := @spec_DrawRowFits.mono
   have := @spec_RowFits.mono
   have := @spec_RowOk.mono
   exact mo
  ·intro y0 y1 y2 y3 y4 y5 y6 y7
   unfold laws_FnRowFits.l0
   have := @impl_FrmAt.mono
   have := @spec_DrawRowFits.mono
   have := @spec_RowFits.mono
   have := @spec_RowOk.mono
   exact mo
theorem laws_FnRowFits.mono : ∀ a0 k, LeO (laws_FnRowFits.f k a0) (laws_FnRowFits.f (k + 1) a0) := by
 intro a0 k
 obtain ⟨ih0, ih1, ih2⟩ := laws_FnRowFits.mono_l k
 unfold laws_FnRowFits.f
 have := @impl_FrmAt.mono
 have := @spec_DrawRowFits.mono
 have := @spec_RowFits.mono
 have := @spec_RowOk.mono
 exact mo
def laws_FnRowFits.T10 : Bool × List (List Nat × List Nat) := (true, [([], []), ([], []), ([], []), ([0, 1, 2], [0, 1, 2]), ([], []), ([3, 4], [3, 4]), ([5, 3], [5]), ([6], [6]), ([6], [6]), ([6], [6]), ([7, 8, 9, 6, 6], [6, 7, 8, 9]), ([6], [6]), ([6], [6]), ([6], [6]), ([11, 12, 13, 10, 6], [6, 11, 12, 13]), ([10, 14, 6], [6, 10, 14]), ([6, 15], [6, 15]), ([16, 14], [16]), ([17], [17]), ([18, 17, 17], [17, 18]), ([17], [17]), ([20, 19, 17], [17, 20]), ([19, 21, 17], [17, 19, 21]), ([17, 22], [17, 22]), ([23, 21], [23]), ([24], [24]), ([25, 24, 24], [24, 25]), ([24, 26], [24, 26]), ([27, 26, 0, 1, 2, 3, 4, 5, 6, 7, 8, 9, 10, 11, 12, 13, 14, 15, 16, 17, 18, 19, 20, 21, 22, 23, 24, 25, 26, 27], [27])])
def laws_FnRowFits.B10 : List Nat := [0, 0, 0, 7, 0, 31, 63, 127, 127, 127, 1023, 127, 127, 127, 16383, 32767, 65535, 131071, 262143, 524287, 262143, 2097151, 4194303, 8388607, 16777215, 33554431, 67108863, 134217727, 268435455]
theorem laws_FnRowFits.tab10 : rtab .any (opsOf Try.f3 10) = laws_FnRowFits.T10 := by kernel_rfl
theorem laws_FnRowFits.bits10 : waitsOk laws_FnRowFits.T10.2 laws_FnRowFits.B10 = true := by kernel_rfl
set_option maxHeartbeats 8000000 in
set_option maxRecDepth 100000 in
theorem laws_FnRowFits.calls (k : Nat) (A0 : Option Addr) (c0 : Nat) (l0 : List Int) (r : Bool) (w : World) (hr : Aside0 (r = true)) (hr0 : Kd.C (Kd.int .u8) w A0 l0.length l0) (hc0 : l0.length ≤ c0) (h : laws_FnRowFits.f k l0 = some r) :
  Calls Try.prog 3 #[.slice A0 l0.length c0] w fun e w' => e = .returned (.bool r) ∧ Below w.heap.size w w' := by
 have hu25 := Try.underlying25; have hu34 := Try.underlying34; have HR0 := aM hr0; have HC0 := aM hc0; clear hr0 hc0; have HB := aM (Below.refl w.heap.size w); have H : (if (l0.length : Int) > 1048576 then (some true) else ((spec_DrawRowFits.f k l0).bind fun bt859 => ((impl_RowOk.f bt859.1 bt859.2.1 bt859.2.2.1 bt859.2.2.2.1).bind fun t876 => (if t876 = true then ((impl_ValOk.f bt859.2.2.2.2.1).bind fun t877 => (if t877 = true then ((impl_ArgOk.f bt859.2.2.2.2.2).bind fun t878 => (laws_FnRowFits.j0 k bt859.2.2.2.2.1 bt859.2.2.2.2.2 t878 bt859.1 bt859.2.1 bt859.2.2.1 bt859.2.2.2.1)) else (laws_FnRowFits.j0 k bt859.2.2.2.2.1 bt859.2.2.2.2.2 false bt859.1 bt859.2.1 bt859.2.2.1 bt859.2.2.2.1))) else (laws_FnRowFits.j0 k bt859.2.2.2.2.1 bt859.2.2.2.2.2 false bt859.1 bt859.2.1 bt859.2.2.1 bt859.2.2.2.1))))) = some r := h
 clear h
 by_cases c2 : (l0.length : Int) > 1048576
 ·rw [if_pos c2] at H; have c2b0 := decide_eq_true c2
  have c2b1 : decide (1048576 < l0.length) = true := decide_eq_true (by omega)
  clear c2; obtain rfl := Option.some.inj H
  go_enter Try.func3, Try.ntmps3
  go_wp2
  go_ret
  exact ⟨er, by exact lB HB.out⟩
 ·rw [if_neg c2] at H; have c2b0 := decide_eq_false c2
  have c2b1 : decide (1048576 < l0.length) = false := decide_eq_false (by omega)
  clear c2; obtain ⟨⟨t859, t862, t865, t868, t869, t872⟩, A3, H⟩ := bS H
  try dsimp only at H
  have HC4 := aM H; clear H; go_enter Try.func3, Try.ntmps3
  go_upto_region 4 with (first | (refine gL (some 15) Try.func6 #[.slice A0 l0.length c0] ?_; (with_reducible refine (spec_DrawRowFits.calls k _ _ l0 t859 t862 t865 t868 t869 t872 _ (by exact lC HR0.out) HC0.out A3.out).mono ?_); rintro e w5 ⟨v860, v863, v866, v870, v873, rfl, ho0, ho1, ho2, ho3, ho4, hb⟩; refine ⟨_, rfl, ?_⟩; have HO861 := aM (Kd.N_lower (Kd.N_mono (ok' := fun k_ => some k_ ≠ v863.ownBlock ∧ some k_ ≠ v866.ownBlock ∧ some k_ ≠ v870.ownBlock ∧ some k_ ≠ v873.ownBlock) ho0 (fun k_ hk_ => ⟨hk_.2.1, hk_.2.2.1, hk_.2.2.2.1, hk_.2.2.2.2⟩)) (bz HB.out)); have HO864 := aM (Kd.N_lower (Kd.N_mono (ok' := fun k_ => some k_ ≠ v860.ownBlock ∧ some k_ ≠ v866.ownBlock ∧ some k_ ≠ v870.ownBlock ∧ some k_ ≠ v873.ownBlock) ho1 (fun k_ hk_ => ⟨hk_.2.1, hk_.2.2.1, hk_.2.2.2.1, hk_.2.2.2.2⟩)) (bz HB.out)); have HO867 := aM (Kd.N_lower (Kd.N_mono (ok' := fun k_ => some k_ ≠ v860.ownBlock ∧ some k_ ≠ v863.ownBlock ∧ some k_ ≠ v870.ownBlock ∧ some k_ ≠ v873.ownBlock) ho2 (fun k_ hk_ => ⟨hk_.2.1, hk_.2.2.1, hk_.2.2.2.1, hk_.2.2.2.2⟩)) (bz HB.out)); have HO871 := aM (Kd.R_lower (Kd.R_mono (ok' := fun k_ => some k_ ≠ v873.ownBlock) ho3 (fun _ hk_ => hk_.2)) (bz HB.out)); have HO874 := aM (Kd.R_lower (Kd.R_mono (ok' := fun k_ => some k_ ≠ v870.ownBlock) ho4 (fun _ hk_ => hk_.2)) (bz HB.out)); replace HB := aM (bj HB.out hb); clear hb ho0 ho1; (try clear ho2); (try clear ho3); (try clear ho4)) | ((with_reducible refine gate_dst (N := 3) rfl ?_); refine bx 3 #[.slice none 0 0, .slice none 0 0, .slice none 0 0, .bool false] 25 ?_; intro gb875 hg w6 hbox hb; replace HO861 := aM (Kd.N_below (Kd.N_elderB (by exact lN <| HO861.out) gb875 (Nat.le_of_eq hg.symm)) hb); replace HO864 := aM (Kd.N_below (Kd.N_elderB (by exact lN <| HO864.out) gb875 (Nat.le_of_eq hg.symm)) hb); replace HO867 := aM (Kd.N_below (Kd.N_elderB (by exact lN <| HO867.out) gb875 (Nat.le_of_eq hg.symm)) hb); replace HO871 := aM (rb HO871.out hb); replace HO874 := aM (rb HO874.out hb); have BK875 := aM (hbox); have GW875 := aM (gz hg HB.out); have IGW875 := wn GW875.out; have GE875 := aM (gz hg HB.out); have IGE875 := wn GE875.out; replace HB := aM (bj HB.out hb); clear hb hbox hg; obtain ⟨Ao7, co7, eo7⟩ := Kd.N_slice HO861.out; subst eo7; have hcz8_0 : w6.cell? ⟨gb875, 0, none⟩ = some (.slice none 0 0) := (blk_cell BK875.out 0).trans rfl; have hcz8_1 : w6.cell? ⟨gb875, 1, none⟩ = some (.slice none 0 0) := (blk_cell BK875.out 1).trans rfl; have hcz8_2 : w6.cell? ⟨gb875, 2, none⟩ = some (.slice none 0 0) := (blk_cell BK875.out 2).trans rfl; have hcz8_3 : w6.cell? ⟨gb875, 3, none⟩ = some (.bool false) := (blk_cell BK875.out 3).trans rfl; have hfz8_0 := blk_frozen BK875.out 0; have hfz8_1 := blk_frozen BK875.out 1; have hfz8_2 := blk_frozen BK875.out 2; have hfz8_3 := blk_frozen BK875.out 3; obtain ⟨Ao9, co9, eo9⟩ := Kd.N_slice HO864.out; subst eo9; obtain ⟨Ao10, co10, eo10⟩ := Kd.N_slice HO867.out; subst eo10))
  (try simp only [Act.put, sA, s0, sS])
  go_cut [6] (fun v6 wc => ∃ (kq : Nat) (x6_3 : Bool), v6 = .bool x6_3 ∧ Aside0 (laws_FnRowFits.j0 kq t869 t872 x6_3 t859 t862 t865 t868 = some r) ∧ Aside0 (kq ≤ k) ∧ Aside0 (Kd.R (Kd.int .i64) 3 wc w.heap.size (fun k_ => some k_ ≠ v873.ownBlock) v870 t869) ∧ Aside0 (Kd.R (Kd.int .i64) 3 wc w.heap.size (fun k_ => some k_ ≠ v870.ownBlock) v873 t872) ∧ Aside0 (Kd.N k34 34 wc w.heap.size (fun k_ => some k_ ≠ v870.ownBlock ∧ some k_ ≠ v873.ownBlock ∧ some k_ ≠ ((.slice Ao9 t862.length co9) : Value).ownBlock ∧ some k_ ≠ ((.slice Ao10 t865.length co10) : Value).ownBlock ∧ k_ ≠ gb875) (.slice Ao7 t859.length co7) t859) ∧ Aside0 (Kd.N k34 34 wc w.heap.size (fun k_ => some k_ ≠ v870.ownBlock ∧ some k_ ≠ v873.ownBlock ∧ some k_ ≠ ((.slice Ao7 t859.length co7) : Value).ownBlock ∧ some k_ ≠ ((.slice Ao10 t865.length co10) : Value).ownBlock ∧ k_ ≠ gb875) (.slice Ao9 t862.length co9) t862) ∧ Aside0 (Kd.N k34 34 wc w.heap.size (fun k_ => some k_ ≠ v870.ownBlock ∧ some k_ ≠ v873.ownBlock ∧ some k_ ≠ ((.slice Ao7 t859.length co7) : Value).ownBlock ∧ some k_ ≠ ((.slice Ao9 t862.length co9) : Value).ownBlock ∧ k_ ≠ gb875) (.slice Ao10 t865.length co10) t865) ∧ Aside0 (wc.heap[gb875]? = some (.cells #[(.slice Ao7 t859.length co7), (.slice Ao9 t862.length co9), (.slice Ao10 t865.length co10), .bool t868] 25 (0, 0))) ∧ Aside0 (Below w.heap.size w wc))
  case first =>
   have H := HC4.out
   clear HC4; obtain ⟨t876, A11, H⟩ := bS H
   try dsimp only at H
   by_cases c12 : t876 = true
   ·subst c12; rw [if_pos rfl] at H
    try dsimp only at H
    obtain ⟨t877, A13, H⟩ := bS H
    try dsimp only at H
    by_cases c14 : t877 = true
    ·subst c14; rw [if_pos rfl] at H
     try dsimp only at H
     obtain ⟨t878, A15, H⟩ := bS H
     try dsimp only at H
     have H' := aM H
     clear H; have hcz16_0 : w6.cell? ⟨gb875, 0, none⟩ = some (.slice none 0 0) := (blk_cell BK875.out 0).trans rfl
     have hcz16_1 : w6.cell? ⟨gb875, 1, none⟩ = some (.slice none 0 0) := (blk_cell BK875.out 1).trans rfl
     have hcz16_2 : w6.cell? ⟨gb875, 2, none⟩ = some (.slice none 0 0) := (blk_cell BK875.out 2).trans rfl
     have hcz16_3 : w6.cell? ⟨gb875, 3, none⟩ = some (.bool false) := (blk_cell BK875.out 3).trans rfl
     have hfz16_0 := blk_frozen BK875.out 0
     have hfz16_1 := blk_frozen BK875.out 1
     have hfz16_2 := blk_frozen BK875.out 2
     have hfz16_3 := blk_frozen BK875.out 3
     go_wp2_with (first | (refine gL (some 20) Try.func7 #[.agg #[.slice Ao7 t859.length co7, .slice Ao9 t862.length co9, .slice Ao10 t865.length co10, .bool t868]] ?_; (with_reducible refine (impl_RowOk.calls _ _ t859 _ _ t862 _ _ t865 t868 true _ ?side1 ?side2 ?side3 ?side4 ?side5 ?side6 A11.out).mono ?_); (case side1 => refine (Kd.N_reads' (e := 34) (base := w.heap.size) (ok := fun k_ => ((some k_ ≠ ownBlock (.slice Ao9 t862.length co9) ∧ (some k_ ≠ ownBlock (.slice Ao10 t865.length co10) ∧ (some k_ ≠ v870.ownBlock ∧ some k_ ≠ v873.ownBlock))) ∧ k_ ≠ gb875)) (n := t859.length) (c := co7) ?_).2.2; exact (by exact lN <| (Kd.N_mono (Kd.N_far (p := ⟨gb875, 3, none⟩) (Kd.N_far (p := ⟨gb875, 2, none⟩) (Kd.N_far (p := ⟨gb875, 1, none⟩) (Kd.N_far (p := ⟨gb875, 0, none⟩) (Kd.N_mono HO861.out (fun k_ hk => (⟨hk, hk.2⟩ : _ ∧ k_ ≠ gb875))) (fun _ hk => hk.2) (.slice Ao7 t859.length co7)) (fun _ hk => hk.2) (.slice Ao9 t862.length co9)) (fun _ hk => hk.2) (.slice Ao10 t865.length co10)) (fun _ hk => hk.2) (.bool t868)) (fun _ h_ => h_.1)))); (case side2 => exact (Kd.N_reads' HO861.out).2.1); (case side3 => refine (Kd.N_reads' (e := 34) (base := w.heap.size) (ok := fun k_ => ((some k_ ≠ ownBlock (.slice Ao7 t859.length co7) ∧ (some k_ ≠ ownBlock (.slice Ao10 t865.length co10) ∧ (some k_ ≠ v870.ownBlock ∧ some k_ ≠ v873.ownBlock))) ∧ k_ ≠ gb875)) (n := t862.length) (c := co9) ?_).2.2; exact (by exact lN <| (Kd.N_mono (Kd.N_far (p := ⟨gb875, 3, none⟩) (Kd.N_far (p := ⟨gb875, 2, none⟩) (Kd.N_far (p := ⟨gb875, 1, none⟩) (Kd.N_far (p := ⟨gb875, 0, none⟩) (Kd.N_mono HO864.out (fun k_ hk => (⟨hk, hk.2⟩ : _ ∧ k_ ≠ gb875))) (fun _ hk => hk.2) (.slice Ao7 t859.length co7)) (fun _ hk => hk.2) (.slice Ao9 t862.length co9)) (fun _ hk => hk.2) (.slice Ao10 t865.length co10)) (fun _ hk => hk.2) (.bool t868)) (fun _ h_ => h_.1)))); (case side4 => exact (Kd.N_reads' HO864.out).2.1); (case side5 => refine (Kd.N_reads' (e := 34) (base := w.heap.size) (ok := fun k_ => ((some k_ ≠ ownBlock (.slice Ao7 t859.length co7) ∧ (some k_ ≠ ownBlock (.slice Ao9 t862.length co9) ∧ (some k_ ≠ v870.ownBlock ∧ some k_ ≠ v873.ownBlock))) ∧ k_ ≠ gb875)) (n := t865.length) (c := co10) ?_).2.2; exact (by exact lN <| (Kd.N_mono (Kd.N_far (p := ⟨gb875, 3, none⟩) (Kd.N_far (p := ⟨gb875, 2, none⟩) (Kd.N_far (p := ⟨gb875, 1, none⟩) (Kd.N_far (p := ⟨gb875, 0, none⟩) (Kd.N_mono HO867.out (fun k_ hk => (⟨hk, hk.2⟩ : _ ∧ k_ ≠ gb875))) (fun _ hk => hk.2) (.slice Ao7 t859.length co7)) (fun _ hk => hk.2) (.slice Ao9 t862.length co9)) (fun _ hk => hk.2) (.slice Ao10 t865.length co10)) (fun _ hk => hk.2) (.bool t868)) (fun _ h_ => h_.1)))); (case side6 => exact (Kd.N_reads' HO867.out).2.1); rintro e w17 ⟨rfl, hb⟩; refine ⟨_, rfl, ?_⟩; replace HO861 := aM (Kd.N_below (by exact lN <| (Kd.N_mono (Kd.N_far (p := ⟨gb875, 3, none⟩) (Kd.N_far (p := ⟨gb875, 2, none⟩) (Kd.N_far (p := ⟨gb875, 1, none⟩) (Kd.N_far (p := ⟨gb875, 0, none⟩) (Kd.N_mono HO861.out (fun k_ hk => (⟨hk, hk.2⟩ : _ ∧ k_ ≠ gb875))) (fun _ hk => hk.2) (.slice Ao7 t859.length co7)) (fun _ hk => hk.2) (.slice Ao9 t862.length co9)) (fun _ hk => hk.2) (.slice Ao10 t865.length co10)) (fun _ hk => hk.2) (.bool t868)) (fun _ h_ => h_.1))) hb); replace HO864 := aM (Kd.N_below (by exact lN <| (Kd.N_mono (Kd.N_far (p := ⟨gb875, 3, none⟩) (Kd.N_far (p := ⟨gb875, 2, none⟩) (Kd.N_far (p := ⟨gb875, 1, none⟩) (Kd.N_far (p := ⟨gb875, 0, none⟩) (Kd.N_mono HO864.out (fun k_ hk => (⟨hk, hk.2⟩ : _ ∧ k_ ≠ gb875))) (fun _ hk => hk.2) (.slice Ao7 t859.length co7)) (fun _ hk => hk.2) (.slice Ao9 t862.length co9)) (fun _ hk => hk.2) (.slice Ao10 t865.length co10)) (fun _ hk => hk.2) (.bool t868)) (fun _ h_ => h_.1))) hb); replace HO867 := aM (Kd.N_below (by exact lN <| (Kd.N_mono (Kd.N_far (p := ⟨gb875, 3, none⟩) (Kd.N_far (p := ⟨gb875, 2, none⟩) (Kd.N_far (p := ⟨gb875, 1, none⟩) (Kd.N_far (p := ⟨gb875, 0, none⟩) (Kd.N_mono HO867.out (fun k_ hk => (⟨hk, hk.2⟩ : _ ∧ k_ ≠ gb875))) (fun _ hk => hk.2) (.slice Ao7 t859.length co7)) (fun _ hk => hk.2) (.slice Ao9 t862.length co9)) (fun _ hk => hk.2) (.slice Ao10 t865.length co10)) (fun _ hk => hk.2) (.bool t868)) (fun _ h_ => h_.1))) hb); replace HO871 := aM (Kd.R_below (qp (R4 HO871.out BK875.out)) hb); replace HO874 := aM (Kd.R_below (qp (R4 HO874.out BK875.out)) hb); replace BK875 := aM (blk_below (g := gb875) (o := .cells #[.slice Ao7 t859.length co7, .slice Ao9 t862.length co9, .slice Ao10 t865.length co10, .bool t868] 25 (0, 0)) (by exact p4 (lK BK875.out)) hb); replace HB := aM (bj HB.out hb); (try clear hb); obtain ⟨Ao18, co18, rfl⟩ := Kd.R_slice HO871.out) | (go_at_call 8; (with_reducible refine (impl_ValOk.calls _ _ t869 true _ (by exact lC <| (Kd.R_reads' HO871.out).2.2) (by exact (Kd.R_reads' HO871.out).2.1) A13.out).mono ?_); rintro e w19 ⟨rfl, hb⟩; replace HO861 := aM (Kd.N_below (by exact lN <| HO861.out) hb); replace HO864 := aM (Kd.N_below (by exact lN <| HO864.out) hb); replace HO867 := aM (Kd.N_below (by exact lN <| HO867.out) hb); replace HO871 := aM (rb HO871.out hb); replace HO874 := aM (rb HO874.out hb); replace BK875 := aM (bb BK875.out hb); replace HB := aM (bj HB.out hb); (try clear hb); obtain ⟨Ao20, co20, rfl⟩ := Kd.R_slice HO874.out) | (go_at_call 9; (with_reducible refine (impl_ArgOk.calls _ _ t872 t878 _ (by exact lC <| (Kd.R_reads' HO874.out).2.2) (by exact (Kd.R_reads' HO874.out).2.1) A15.out).mono ?_); rintro e w21 ⟨rfl, hb⟩; replace HO861 := aM (Kd.N_below (by exact lN <| HO861.out) hb); replace HO864 := aM (Kd.N_below (by exact lN <| HO864.out) hb); replace HO867 := aM (Kd.N_below (by exact lN <| HO867.out) hb); replace HO871 := aM (rb HO871.out hb); replace HO874 := aM (rb HO874.out hb); replace BK875 := aM (bb BK875.out hb); replace HB := aM (bj HB.out hb); (try clear hb)))
     go_meet
     case rel => exact ⟨_, (t878), sr, H', ⟨by first | omega | exact Nat.le_refl _⟩, ⟨by exact lR <| HO871.out⟩, ⟨by exact lR <| HO874.out⟩, ⟨by exact lN <| Kd.N_mono HO861.out (fun _ hk => ⟨hk.1.2.2.1, ⟨hk.1.2.2.2, ⟨hk.1.1, ⟨hk.1.2.1, hk.2⟩⟩⟩⟩)⟩, ⟨by exact lN <| Kd.N_mono HO864.out (fun _ hk => ⟨hk.1.2.2.1, ⟨hk.1.2.2.2, ⟨hk.1.1, ⟨hk.1.2.1, hk.2⟩⟩⟩⟩)⟩, ⟨by exact lN <| Kd.N_mono HO867.out (fun _ hk => ⟨hk.1.2.2.1, ⟨hk.1.2.2.2, ⟨hk.1.1, ⟨hk.1.2.1, hk.2⟩⟩⟩⟩)⟩, ⟨by exact lK <| BK875.out⟩, ⟨by exact jB HB.out⟩⟩
    ·replace c14 := Bool.eq_false_iff.mpr c14
     subst c14; rw [if_neg nf] at H
     try dsimp only at H
     have H' := aM H
     clear H; have hcz22_0 : w6.cell? ⟨gb875, 0, none⟩ = some (.slice none 0 0) := (blk_cell BK875.out 0).trans rfl
     have hcz22_1 : w6.cell? ⟨gb875, 1, none⟩ = some (.slice none 0 0) := (blk_cell BK875.out 1).trans rfl
     have hcz22_2 : w6.cell? ⟨gb875, 2, none⟩ = some (.slice none 0 0) := (blk_cell BK875.out 2).trans rfl
     have hcz22_3 : w6.cell? ⟨gb875, 3, none⟩ = some (.bool false) := (blk_cell BK875.out 3).trans rfl
     have hfz22_0 := blk_frozen BK875.out 0
     have hfz22_1 := blk_frozen BK875.out 1
     have hfz22_2 := blk_frozen BK875.out 2
     have hfz22_3 := blk_frozen BK875.out 3
     go_wp2_with (first | (refine gL (some 20) Try.func7 #[.agg #[.slice Ao7 t859.length co7, .slice Ao9 t862.length co9, .slice Ao10 t865.length co10, .bool t868]] ?_; (with_reducible refine (impl_RowOk.calls _ _ t859 _ _ t862 _ _ t865 t868 true _ ?side1 ?side2 ?side3 ?side4 ?side5 ?side6 A11.out).mono ?_); (case side1 => refine (Kd.N_reads' (e := 34) (base := w.heap.size) (ok := fun k_ => ((some k_ ≠ ownBlock (.slice Ao9 t862.length co9) ∧ (some k_ ≠ ownBlock (.slice Ao10 t865.length co10) ∧ (some k_ ≠ v870.ownBlock ∧ some k_ ≠ v873.ownBlock))) ∧ k_ ≠ gb875)) (n := t859.length) (c := co7) ?_).2.2; exact (by exact lN <| (Kd.N_mono (Kd.N_far (p := ⟨gb875, 3, none⟩) (Kd.N_far (p := ⟨gb875, 2, none⟩) (Kd.N_far (p := ⟨gb875, 1, none⟩) (Kd.N_far (p := ⟨gb875, 0, none⟩) (Kd.N_mono HO861.out (fun k_ hk => (⟨hk, hk.2⟩ : _ ∧ k_ ≠ gb875))) (fun _ hk => hk.2) (.slice Ao7 t859.length co7)) (fun _ hk => hk.2) (.slice Ao9 t862.length co9)) (fun _ hk => hk.2) (.slice Ao10 t865.length co10)) (fun _ hk => hk.2) (.bool t868)) (fun _ h_ => h_.1)))); (case side2 => exact (Kd.N_reads' HO861.out).2.1); (case side3 => refine (Kd.N_reads' (e := 34) (base := w.heap.size) (ok := fun k_ => ((some k_ ≠ ownBlock (.slice Ao7 t859.length co7) ∧ (some k_ ≠ ownBlock (.slice Ao10 t865.length co10) ∧ (some k_ ≠ v870.ownBlock ∧ some k_ ≠ v873.ownBlock))) ∧ k_ ≠ gb875)) (n := t862.length) (c := co9) ?_).2.2; exact (by exact lN <| (Kd.N_mono (Kd.N_far (p := ⟨gb875, 3, none⟩) (Kd.N_far (p := ⟨gb875, 2, none⟩) (Kd.N_far (p := ⟨gb875, 1, none⟩) (Kd.N_far (p := ⟨gb875, 0, none⟩) (Kd.N_mono HO864.out (fun k_ hk => (⟨hk, hk.2⟩ : _ ∧ k_ ≠ gb875))) (fun _ hk => hk.2) (.slice Ao7 t859.length co7)) (fun _ hk => hk.2) (.slice Ao9 t862.length co9)) (fun _ hk => hk.2) (.slice Ao10 t865.length co10)) (fun _ hk => hk.2) (.bool t868)) (fun _ h_ => h_.1)))); (case side4 => exact (Kd.N_reads' HO864.out).2.1); (case side5 => refine (Kd.N_reads' (e := 34) (base := w.heap.size) (ok := fun k_ => ((some k_ ≠ ownBlock (.slice Ao7 t859.length co7) ∧ (some k_ ≠ ownBlock (.slice Ao9 t862.length co9) ∧ (some k_ ≠ v870.ownBlock ∧ some k_ ≠ v873.ownBlock))) ∧ k_ ≠ gb875)) (n := t865.length) (c := co10) ?_).2.2; exact (by exact lN <| (Kd.N_mono (Kd.N_far (p := ⟨gb875, 3, none⟩) (Kd.N_far (p := ⟨gb875, 2, none⟩) (Kd.N_far (p := ⟨gb875, 1, none⟩) (Kd.N_far (p := ⟨gb875, 0, none⟩) (Kd.N_mono HO867.out (fun k_ hk => (⟨hk, hk.2⟩ : _ ∧ k_ ≠ gb875))) (fun _ hk => hk.2) (.slice Ao7 t859.length co7)) (fun _ hk => hk.2) (.slice Ao9 t862.length co9)) (fun _ hk => hk.2) (.slice Ao10 t865.length co10)) (fun _ hk => hk.2) (.bool t868)) (fun _ h_ => h_.1)))); (case side6 => exact (Kd.N_reads' HO867.out).2.1); rintro e w23 ⟨rfl, hb⟩; refine ⟨_, rfl, ?_⟩; replace HO861 := aM (Kd.N_below (by exact lN <| (Kd.N_mono (Kd.N_far (p := ⟨gb875, 3, none⟩) (Kd.N_far (p := ⟨gb875, 2, none⟩) (Kd.N_far (p := ⟨gb875, 1, none⟩) (Kd.N_far (p := ⟨gb875, 0, none⟩) (Kd.N_mono HO861.out (fun k_ hk => (⟨hk, hk.2⟩ : _ ∧ k_ ≠ gb875))) (fun _ hk => hk.2) (.slice Ao7 t859.length co7)) (fun _ hk => hk.2) (.slice Ao9 t862.length co9)) (fun _ hk => hk.2) (.slice Ao10 t865.length co10)) (fun _ hk => hk.2) (.bool t868)) (fun _ h_ => h_.1))) hb); replace HO864 := aM (Kd.N_below (by exact lN <| (Kd.N_mono (Kd.N_far (p := ⟨gb875, 3, none⟩) (Kd.N_far (p := ⟨gb875, 2, none⟩) (Kd.N_far (p := ⟨gb875, 1, none⟩) (Kd.N_far (p := ⟨gb875, 0, none⟩) (Kd.N_mono HO864.out (fun k_ hk => (⟨hk, hk.2⟩ : _ ∧ k_ ≠ gb875))) (fun _ hk => hk.2) (.slice Ao7 t859.length co7)) (fun _ hk => hk.2) (.slice Ao9 t862.length co9)) (fun _ hk => hk.2) (.slice Ao10 t865.length co10)) (fun _ hk => hk.2) (.bool t868)) (fun _ h_ => h_.1))) hb); replace HO867 := aM (Kd.N_below (by exact lN <| (Kd.N_mono (Kd.N_far (p := ⟨gb875, 3, none⟩) (Kd.N_far (p := ⟨gb875, 2, none⟩) (Kd.N_far (p := ⟨gb875, 1, none⟩) (Kd.N_far (p := ⟨gb875, 0, none⟩) (Kd.N_mono HO867.out (fun k_ hk => (⟨hk, hk.2⟩ : _ ∧ k_ ≠ gb875))) (fun _ hk => hk.2) (.slice Ao7 t859.length co7)) (fun _ hk => hk.2) (.slice Ao9 t862.length co9)) (fun _ hk => hk.2) (.slice Ao10 t865.length co10)) (fun _ hk => hk.2) (.bool t868)) (fun _ h_ => h_.1))) hb); replace HO871 := aM (Kd.R_below (qp (R4 HO871.out BK875.out)) hb); replace HO874 := aM (Kd.R_below (qp (R4 HO874.out BK875.out)) hb); replace BK875 := aM (blk_below (g := gb875) (o := .cells #[.slice Ao7 t859.length co7, .slice Ao9 t862.length co9, .slice Ao10 t865.length co10, .bool t868] 25 (0, 0)) (by exact p4 (lK BK875.out)) hb); replace HB := aM (bj HB.out hb); (try clear hb); obtain ⟨Ao24, co24, rfl⟩ := Kd.R_slice HO871.out) | (go_at_call 8; (with_reducible refine (impl_ValOk.calls _ _ t869 false _ (by exact lC <| (Kd.R_reads' HO871.out).2.2) (by exact (Kd.R_reads' HO871.out).2.1) A13.out).mono ?_); rintro e w25 ⟨rfl, hb⟩; replace HO861 := aM (Kd.N_below (by exact lN <| HO861.out) hb); replace HO864 := aM (Kd.N_below (by exact lN <| HO864.out) hb); replace HO867 := aM (Kd.N_below (by exact lN <| HO867.out) hb); replace HO871 := aM (rb HO871.out hb); replace HO874 := aM (rb HO874.out hb); replace BK875 := aM (bb BK875.out hb); replace HB := aM (bj HB.out hb); (try clear hb)))
     go_meet
     case rel => exact ⟨_, (false), sr, H', ⟨by first | omega | exact Nat.le_refl _⟩, ⟨by exact lR <| HO871.out⟩, ⟨by exact lR <| HO874.out⟩, ⟨by exact lN <| Kd.N_mono HO861.out (fun _ hk => ⟨hk.1.2.2.1, ⟨hk.1.2.2.2, ⟨hk.1.1, ⟨hk.1.2.1, hk.2⟩⟩⟩⟩)⟩, ⟨by exact lN <| Kd.N_mono HO864.out (fun _ hk => ⟨hk.1.2.2.1, ⟨hk.1.2.2.2, ⟨hk.1.1, ⟨hk.1.2.1, hk.2⟩⟩⟩⟩)⟩, ⟨by exact lN <| Kd.N_mono HO867.out (fun _ hk => ⟨hk.1.2.2.1, ⟨hk.1.2.2.2, ⟨hk.1.1, ⟨hk.1.2.1, hk.2⟩⟩⟩⟩)⟩, ⟨by exact lK <| BK875.out⟩, ⟨by exact jB HB.out⟩⟩
   ·replace c12 := Bool.eq_false_iff.mpr c12
    subst c12; rw [if_neg nf] at H
    try dsimp only at H
    have H' := aM H
    clear H; have hcz26_0 : w6.cell? ⟨gb875, 0, none⟩ = some (.slice none 0 0) := (blk_cell BK875.out 0).trans rfl
    have hcz26_1 : w6.cell? ⟨gb875, 1, none⟩ = some (.slice none 0 0) := (blk_cell BK875.out 1).trans rfl
    have hcz26_2 : w6.cell? ⟨gb875, 2, none⟩ = some (.slice none 0 0) := (blk_cell BK875.out 2).trans rfl
    have hcz26_3 : w6.cell? ⟨gb875, 3, none⟩ = some (.bool false) := (blk_cell BK875.out 3).trans rfl
    have hfz26_0 := blk_frozen BK875.out 0
    have hfz26_1 := blk_frozen BK875.out 1
    have hfz26_2 := blk_frozen BK875.out 2
    have hfz26_3 := blk_frozen BK875.out 3
    go_wp2_with (first | (refine gL (some 20) Try.func7 #[.agg #[.slice Ao7 t859.length co7, .slice Ao9 t862.length co9, .slice Ao10 t865.length co10, .bool t868]] ?_; (with_reducible refine (impl_RowOk.calls _ _ t859 _ _ t862 _ _ t865 t868 false _ ?side1 ?side2 ?side3 ?side4 ?side5 ?side6 A11.out).mono ?_); (case side1 => refine (Kd.N_reads' (e := 34) (base := w.heap.size) (ok := fun k_ => ((some k_ ≠ ownBlock (.slice Ao9 t862.length co9) ∧ (some k_ ≠ ownBlock (.slice Ao10 t865.length co10) ∧ (some k_ ≠ v870.ownBlock ∧ some k_ ≠ v873.ownBlock))) ∧ k_ ≠ gb875)) (n := t859.length) (c := co7) ?_).2.2; exact (by exact lN <| (Kd.N_mono (Kd.N_far (p := ⟨gb875, 3, none⟩) (Kd.N_far (p := ⟨gb875, 2, none⟩) (Kd.N_far (p := ⟨gb875, 1, none⟩) (Kd.N_far (p := ⟨gb875, 0, none⟩) (Kd.N_mono HO861.out (fun k_ hk => (⟨hk, hk.2⟩ : _ ∧ k_ ≠ gb875))) (fun _ hk => hk.2) (.slice Ao7 t859.length co7)) (fun _ hk => hk.2) (.slice Ao9 t862.length co9)) (fun _ hk => hk.2) (.slice Ao10 t865.length co10)) (fun _ hk => hk.2) (.bool t868)) (fun _ h_ => h_.1)))); (case side2 => exact (Kd.N_reads' HO861.out).2.1); (case side3 => refine (Kd.N_reads' (e := 34) (base := w.heap.size) (ok := fun k_ => ((some k_ ≠ ownBlock (.slice Ao7 t859.length co7) ∧ (some k_ ≠ ownBlock (.slice Ao10 t865.length co10) ∧ (some k_ ≠ v870.ownBlock ∧ some k_ ≠ v873.ownBlock))) ∧ k_ ≠ gb875)) (n := t862.length) (c := co9) ?_).2.2; exact (by exact lN <| (Kd.N_mono (Kd.N_far (p := ⟨gb875, 3, none⟩) (Kd.N_far (p := ⟨gb875, 2, none⟩) (Kd.N_far (p := ⟨gb875, 1, none⟩) (Kd.N_far (p := ⟨gb875, 0, none⟩) (Kd.N_mono HO864.out (fun k_ hk => (⟨hk, hk.2⟩ : _ ∧ k_ ≠ gb875))) (fun _ hk => hk.2) (.slice Ao7 t859.length co7)) (fun _ hk => hk.2) (.slice Ao9 t862.length co9)) (fun _ hk => hk.2) (.slice Ao10 t865.length co10)) (fun _ hk => hk.2) (.bool t868)) (fun _ h_ => h_.1)))); (case side4 => exact (Kd.N_reads' HO864.out).2.1); (case side5 => refine (Kd.N_reads' (e := 34) (base := w.heap.size) (ok := fun k_ => ((some k_ ≠ ownBlock (.slice Ao7 t859.length co7) ∧ (some k_ ≠ ownBlock (.slice Ao9 t862.length co9) ∧ (some k_ ≠ v870.ownBlock ∧ some k_ ≠ v873.ownBlock))) ∧ k_ ≠ gb875)) (n := t865.length) (c := co10) ?_).2.2; exact (by exact lN <| (Kd.N_mono (Kd.N_far (p := ⟨gb875, 3, none⟩) (Kd.N_far (p := ⟨gb875, 2, none⟩) (Kd.N_far (p := ⟨gb875, 1, none⟩) (Kd.N_far (p := ⟨gb875, 0, none⟩) (Kd.N_mono HO867.out (fun k_ hk => (⟨hk, hk.2⟩ : _ ∧ k_ ≠ gb875))) (fun _ hk => hk.2) (.slice Ao7 t859.length co7)) (fun _ hk => hk.2) (.slice Ao9 t862.length co9)) (fun _ hk => hk.2) (.slice Ao10 t865.length co10)) (fun _ hk => hk.2) (.bool t868)) (fun _ h_ => h_.1)))); (case side6 => exact (Kd.N_reads' HO867.out).2.1); rintro e w27 ⟨rfl, hb⟩; refine ⟨_, rfl, ?_⟩; replace HO861 := aM (Kd.N_below (by exact lN <| (Kd.N_mono (Kd.N_far (p := ⟨gb875, 3, none⟩) (Kd.N_far (p := ⟨gb875, 2, none⟩) (Kd.N_far (p := ⟨gb875, 1, none⟩) (Kd.N_far (p := ⟨gb875, 0, none⟩) (Kd.N_mono HO861.out (fun k_ hk => (⟨hk, hk.2⟩ : _ ∧ k_ ≠ gb875))) (fun _ hk => hk.2) (.slice Ao7 t859.length co7)) (fun _ hk => hk.2) (.slice Ao9 t862.length co9)) (fun _ hk => hk.2) (.slice Ao10 t865.length co10)) (fun _ hk => hk.2) (.bool t868)) (fun _ h_ => h_.1))) hb); replace HO864 := aM (Kd.N_below (by exact lN <| (Kd.N_mono (Kd.N_far (p := ⟨gb875, 3, none⟩) (Kd.N_far (p := ⟨gb875, 2, none⟩) (Kd.N_far (p := ⟨gb875, 1, none⟩) (Kd.N_far (p := ⟨gb875, 0, none⟩) (Kd.N_mono HO864.out (fun k_ hk => (⟨hk, hk.2⟩ : _ ∧ k_ ≠ gb875))) (fun _ hk => hk.2) (.slice Ao7 t859.length co7)) (fun _ hk => hk.2) (.slice Ao9 t862.length co9)) (fun _ hk => hk.2) (.slice Ao10 t865.length co10)) (fun _ hk => hk.2) (.bool t868)) (fun _ h_ => h_.1))) hb); replace HO867 := aM (Kd.N_below (by exact lN <| (Kd.N_mono (Kd.N_far (p := ⟨gb875, 3, none⟩) (Kd.N_far (p := ⟨gb875, 2, none⟩) (Kd.N_far (p := ⟨gb875, 1, none⟩) (Kd.N_far (p := ⟨gb875, 0, none⟩) (Kd.N_mono HO867.out (fun k_ hk => (⟨hk, hk.2⟩ : _ ∧ k_ ≠ gb875))) (fun _ hk => hk.2) (.slice Ao7 t859.length co7)) (fun _ hk => hk.2) (.slice Ao9 t862.length co9)) (fun _ hk => hk.2) (.slice Ao10 t865.length co10)) (fun _ hk => hk.2) (.bool t868)) (fun _ h_ => h_.1))) hb); replace HO871 := aM (Kd.R_below (qp (R4 HO871.out BK875.out)) hb); replace HO874 := aM (Kd.R_below (qp (R4 HO874.out BK875.out)) hb); replace BK875 := aM (blk_below (g := gb875) (o := .cells #[.slice Ao7 t859.length co7, .slice Ao9 t862.length co9, .slice Ao10 t865.length co10, .bool t868] 25 (0, 0)) (by exact p4 (lK BK875.out)) hb); replace HB := aM (bj HB.out hb); (try clear hb)))
    go_meet
    case rel => exact ⟨_, (false), sr, H', ⟨by first | omega | exact Nat.le_refl _⟩, ⟨by exact lR <| HO871.out⟩, ⟨by exact lR <| HO874.out⟩, ⟨by exact lN <| Kd.N_mono HO861.out (fun _ hk => ⟨hk.1.2.2.1, ⟨hk.1.2.2.2, ⟨hk.1.1, ⟨hk.1.2.1, hk.2⟩⟩⟩⟩)⟩, ⟨by exact lN <| Kd.N_mono HO864.out (fun _ hk => ⟨hk.1.2.2.1, ⟨hk.1.2.2.2, ⟨hk.1.1, ⟨hk.1.2.1, hk.2⟩⟩⟩⟩)⟩, ⟨by exact lN <| Kd.N_mono HO867.out (fun _ hk => ⟨hk.1.2.2.1, ⟨hk.1.2.2.2, ⟨hk.1.1, ⟨hk.1.2.1, hk.2⟩⟩⟩⟩)⟩, ⟨by exact lK <| BK875.out⟩, ⟨by exact jB HB.out⟩⟩
  case rest =>
   clear HC4; (try clear c1); (try clear c2); (try clear c2b0); (try clear c2b1); (try clear p2); (try clear c3); (try clear c6); (try clear c7); (try clear c12); (try clear c14); (try clear hcz16_0); (try clear hcz16_1); (try clear hcz16_2); (try clear hcz16_3); (try clear hcz22_0); (try clear hcz22_1); (try clear hcz22_2); (try clear hcz22_3); (try clear hcz26_0); (try clear hcz26_1); (try clear hcz26_2); (try clear hcz26_3); (try clear hcz8_0); (try clear hcz8_1); (try clear hcz8_2); (try clear hcz8_3); (try clear hfz16_0); (try clear hfz16_1); (try clear hfz16_2); (try clear hfz16_3); (try clear hfz22_0); (try clear hfz22_1); (try clear hfz22_2); (try clear hfz22_3); (try clear hfz26_0); (try clear hfz26_1); (try clear hfz26_2); (try clear hfz26_3); (try clear hfz8_0); (try clear hfz8_1); (try clear hfz8_2); (try clear hfz8_3); (try clear HO_876000); (try clear HO_876001); (try clear HO_876002)
   obtain ⟨kq, x6_3, rfl, HA, HJ3, HO_4, HO_5, HO_876000, HO_876001, HO_876002, BK875, HB⟩ := hcut
   cases kq with
   | zero => exact absurd HA.out (by simp [laws_FnRowFits.j0])
   | succ kj3 =>
    have H := HA.out
    clear HA; simp only [laws_FnRowFits.j0] at H
    have HC28 := aM H; clear H; go_upto_block 0 with (fail)
    go_cut [6] (fun v6 wc => ∃ (kq : Nat) (x6_27 : Bool), v6 = .bool x6_27 ∧ Aside0 (laws_FnRowFits.j2 kq t869 t872 x6_27 t859 t862 t865 t868 = some r) ∧ Aside0 (kq ≤ kj3) ∧ Aside0 (Kd.R (Kd.int .i64) 3 wc w.heap.size (fun k_ => some k_ ≠ v873.ownBlock) v870 t869) ∧ Aside0 (Kd.R (Kd.int .i64) 3 wc w.heap.size (fun k_ => some k_ ≠ v870.ownBlock) v873 t872) ∧ Aside0 (Kd.N k34 34 wc w.heap.size (fun k_ => some k_ ≠ v870.ownBlock ∧ some k_ ≠ v873.ownBlock ∧ some k_ ≠ ((.slice Ao9 t862.length co9) : Value).ownBlock ∧ some k_ ≠ ((.slice Ao10 t865.length co10) : Value).ownBlock ∧ k_ ≠ gb875) (.slice Ao7 t859.length co7) t859) ∧ Aside0 (Kd.N k34 34 wc w.heap.size (fun k_ => some k_ ≠ v870.ownBlock ∧ some k_ ≠ v873.ownBlock ∧ some k_ ≠ ((.slice Ao7 t859.length co7) : Value).ownBlock ∧ some k_ ≠ ((.slice Ao10 t865.length co10) : Value).ownBlock ∧ k_ ≠ gb875) (.slice Ao9 t862.length co9) t862) ∧ Aside0 (Kd.N k34 34 wc w.heap.size (fun k_ => some k_ ≠ v870.ownBlock ∧ some k_ ≠ v873.ownBlock ∧ some k_ ≠ ((.slice Ao7 t859.length co7) : Value).ownBlock ∧ some k_ ≠ ((.slice Ao9 t862.length co9) : Value).ownBlock ∧ k_ ≠ gb875) (.slice Ao10 t865.length co10) t865) ∧ Aside0 (wc.heap[gb875]? = some (.cells #[(.slice Ao7 t859.length co7), (.slice Ao9 t862.length co9), (.slice Ao10 t865.length co10), .bool t868] 25 (0, 0))) ∧ Aside0 (Below w.heap.size w wc))
    case first =>
     have H := HC28.out
     clear HC28; have H' := aM H
     clear H; go_wp2
     go_loopg [6, 7] kj3 (fun kq v6 v7 w' => ∃ (x6_2 : Bool) (x7_2 : Int), v6 = .bool x6_2 ∧ v7 = .int .i64 x7_2 ∧ Aside0 (laws_FnRowFits.l0 kq t869 t872 x6_2 x7_2 t859 t862 t865 t868 = some r) ∧ Aside0 (kq ≤ kj3) ∧ Aside0 (Kd.R (Kd.int .i64) 3 w' w.heap.size (fun k_ => some k_ ≠ v873.ownBlock) v870 t869) ∧ Aside0 (Kd.R (Kd.int .i64) 3 w' w.heap.size (fun k_ => some k_ ≠ v870.ownBlock) v873 t872) ∧ Aside0 (Kd.N k34 34 w' w.heap.size (fun k_ => some k_ ≠ v870.ownBlock ∧ some k_ ≠ v873.ownBlock ∧ some k_ ≠ ((.slice Ao9 t862.length co9) : Value).ownBlock ∧ some k_ ≠ ((.slice Ao10 t865.length co10) : Value).ownBlock ∧ k_ ≠ gb875) (.slice Ao7 t859.length co7) t859) ∧ Aside0 (Kd.N k34 34 w' w.heap.size (fun k_ => some k_ ≠ v870.ownBlock ∧ some k_ ≠ v873.ownBlock ∧ some k_ ≠ ((.slice Ao7 t859.length co7) : Value).ownBlock ∧ some k_ ≠ ((.slice Ao10 t865.length co10) : Value).ownBlock ∧ k_ ≠ gb875) (.slice Ao9 t862.length co9) t862) ∧ Aside0 (Kd.N k34 34 w' w.heap.size (fun k_ => some k_ ≠ v870.ownBlock ∧ some k_ ≠ v873.ownBlock ∧ some k_ ≠ ((.slice Ao7 t859.length co7) : Value).ownBlock ∧ some k_ ≠ ((.slice Ao9 t862.length co9) : Value).ownBlock ∧ k_ ≠ gb875) (.slice Ao10 t865.length co10) t865) ∧ Aside0 (w'.heap[gb875]? = some (.cells #[(.slice Ao7 t859.length co7), (.slice Ao9 t862.length co9), (.slice Ao10 t865.length co10), .bool t868] 25 (0, 0))) ∧ Aside0 (Below w.heap.size w w'))
     case atStart => exact ⟨(x6_3), (0), sr, sr, H', ⟨Nat.le_refl _⟩, ⟨by exact lR <| HO_4.out⟩, ⟨by exact lR <| HO_5.out⟩, ⟨by exact lN <| HO_876000.out⟩, ⟨by exact lN <| HO_876001.out⟩, ⟨by exact lN <| HO_876002.out⟩, ⟨by exact lK <| BK875.out⟩, ⟨by exact jB HB.out⟩⟩
     case round =>
      clear H'
      (try clear c1); (try clear c2); (try clear c2b0); (try clear c2b1); (try clear p2); (try clear c3); (try clear c6); (try clear c7); (try clear c12); (try clear c14); (try clear hcz16_0); (try clear hcz16_1); (try clear hcz16_2); (try clear hcz16_3); (try clear hcz22_0); (try clear hcz22_1); (try clear hcz22_2); (try clear hcz22_3); (try clear hcz26_0); (try clear hcz26_1); (try clear hcz26_2); (try clear hcz26_3); (try clear hcz8_0); (try clear hcz8_1); (try clear hcz8_2); (try clear hcz8_3); (try clear hfz16_0); (try clear hfz16_1); (try clear hfz16_2); (try clear hfz16_3); (try clear hfz22_0); (try clear hfz22_1); (try clear hfz22_2); (try clear hfz22_3); (try clear hfz26_0); (try clear hfz26_1); (try clear hfz26_2); (try clear hfz26_3); (try clear hfz8_0); (try clear hfz8_1); (try clear hfz8_2); (try clear hfz8_3)
      obtain ⟨x6_2, x7_2, rfl, rfl, HA, HK2, HO_4, HO_5, HO_876000, HO_876001, HO_876002, BK875, HB⟩ := hrel
      cases gk with
      | zero => exact absurd HA.out (by simp [laws_FnRowFits.l0])
      | succ k2 =>
       have H := HA.out
       clear HA; simp only [laws_FnRowFits.l0] at H
       by_cases c29 : x7_2 < (t859.length : Int)
       ·rw [if_pos c29] at H; have c29b0 := decide_eq_true c29
        clear c29
        (first | rw [c29b0] | (simp only [i64_w, i32_w]; rw [c29b0]) | skip)
        by_cases c30 : x6_2 = true
        ·subst c30; rw [if_pos rfl] at H
         try dsimp only at H
         obtain ⟨c31, H⟩ := iD H; obtain ⟨⟨t880, t881⟩, A32, H⟩ := bS H
         try dsimp only at H
         by_cases c33 : t881 = true
         ·subst c33; rw [if_pos rfl] at H
          try dsimp only at H
          have H' := aM H
          clear H; have hcz34_0 : wr.cell? ⟨gb875, 0, none⟩ = some (.slice Ao7 t859.length co7) := (blk_cell BK875.out 0).trans rfl
          have hcz34_1 : wr.cell? ⟨gb875, 1, none⟩ = some (.slice Ao9 t862.length co9) := (blk_cell BK875.out 1).trans rfl
          have hcz34_2 : wr.cell? ⟨gb875, 2, none⟩ = some (.slice Ao10 t865.length co10) := (blk_cell BK875.out 2).trans rfl
          have hcz34_3 : wr.cell? ⟨gb875, 3, none⟩ = some (.bool t868) := (blk_cell BK875.out 3).trans rfl
          have hfz34_0 := blk_frozen BK875.out 0
          have hfz34_1 := blk_frozen BK875.out 1
          have hfz34_2 := blk_frozen BK875.out 2
          have hfz34_3 := blk_frozen BK875.out 3
          have p879 : 0 ≤ (x7_2 : Int) := od; have q879 : x7_2 < (t859.length : Int) := od; obtain ⟨ad879, A879_0, c879_0, A879_1, c879_1, e879, hx879_0, hx879_1, hx879_2, hl879_0, hi879_0, hl879_1, hi879_1⟩ := at_T34 (Kd.N_reads' HO_876000.out).2.2 x7_2 p879 q879
          cases e879; have HR879_0 := aM hi879_0; have HC879_0 := aM hl879_0; clear hi879_0 hl879_0; have HR879_1 := aM hi879_1; have HC879_1 := aM hl879_1; clear hi879_1 hl879_1; replace p879 := eq_true p879; replace q879 := eq_true q879; obtain ⟨Ao35, co35, eo35⟩ := Kd.R_slice HO_4.out; subst eo35; obtain ⟨Ao36, co36, eo36⟩ := Kd.R_slice HO_5.out; subst eo36; go_wp2_with (first | (refine gL (some 47) Try.func10 #[.agg #[.slice A879_0 ((rd_T34 t859 x7_2).f0).length c879_0, .slice A879_1 ((rd_T34 t859 x7_2).f1).length c879_1, .int .i64 ((rd_T34 t859 x7_2).f2)], .slice Ao35 t869.length co35, .slice Ao36 t872.length co36] ?_; (with_reducible refine (impl_FrmAt.calls k2 _ _ ((rd_T34 t859 x7_2).f0) _ _ ((rd_T34 t859 x7_2).f1) ((rd_T34 t859 x7_2).f2) _ _ t869 _ _ t872 t880 true _ (by exact lC HR879_0.out) HC879_0.out (by exact lC HR879_1.out) HC879_1.out (by exact lC <| (Kd.R_reads' HO_4.out).2.2) (by exact (Kd.R_reads' HO_4.out).2.1) (by exact lC <| (Kd.R_reads' HO_5.out).2.2) (by exact (Kd.R_reads' HO_5.out).2.1) A32.out).mono ?_); rintro e w37 ⟨rfl, hb⟩; refine ⟨_, rfl, ?_⟩; replace HO_4 := aM (rb HO_4.out hb); replace HO_5 := aM (rb HO_5.out hb); replace HO_876000 := aM (Kd.N_below (by exact lN <| HO_876000.out) hb); replace HO_876001 := aM (Kd.N_below (by exact lN <| HO_876001.out) hb); replace HO_876002 := aM (Kd.N_below (by exact lN <| HO_876002.out) hb); replace BK875 := aM (bb BK875.out hb); replace HR879_0 := aM (Kd.C_below (lC HR879_0.out) hb); replace HR879_1 := aM (Kd.C_below (lC HR879_1.out) hb); replace HB := aM (bj HB.out hb); (try clear hb)))
          go_roundg k2
          case measure => have := HJ3.out; have := HK2.out; omega
          case rel => exact ⟨(decide (t880 ≥ 0)), (wrap64 (x7_2 + 1)), sr, sr, H', ⟨by have := HJ3.out; have := HK2.out; omega⟩, ⟨by exact lR <| HO_4.out⟩, ⟨by exact lR <| HO_5.out⟩, ⟨by exact lN <| HO_876000.out⟩, ⟨by exact lN <| HO_876001.out⟩, ⟨by exact lN <| HO_876002.out⟩, ⟨by exact lK <| BK875.out⟩, ⟨by exact jB HB.out⟩⟩
         ·replace c33 := Bool.eq_false_iff.mpr c33
          subst c33; rw [if_neg nf] at H
          try dsimp only at H
          have H' := aM H
          clear H; have hcz38_0 : wr.cell? ⟨gb875, 0, none⟩ = some (.slice Ao7 t859.length co7) := (blk_cell BK875.out 0).trans rfl
          have hcz38_1 : wr.cell? ⟨gb875, 1, none⟩ = some (.slice Ao9 t862.length co9) := (blk_cell BK875.out 1).trans rfl
          have hcz38_2 : wr.cell? ⟨gb875, 2, none⟩ = some (.slice Ao10 t865.length co10) := (blk_cell BK875.out 2).trans rfl
          have hcz38_3 : wr.cell? ⟨gb875, 3, none⟩ = some (.bool t868) := (blk_cell BK875.out 3).trans rfl
          have hfz38_0 := blk_frozen BK875.out 0
          have hfz38_1 := blk_frozen BK875.out 1
          have hfz38_2 := blk_frozen BK875.out 2
          have hfz38_3 := blk_frozen BK875.out 3
          have p879 : 0 ≤ (x7_2 : Int) := od; have q879 : x7_2 < (t859.length : Int) := od; obtain ⟨ad879, A879_0, c879_0, A879_1, c879_1, e879, hx879_0, hx879_1, hx879_2, hl879_0, hi879_0, hl879_1, hi879_1⟩ := at_T34 (Kd.N_reads' HO_876000.out).2.2 x7_2 p879 q879
          cases e879; have HR879_0 := aM hi879_0; have HC879_0 := aM hl879_0; clear hi879_0 hl879_0; have HR879_1 := aM hi879_1; have HC879_1 := aM hl879_1; clear hi879_1 hl879_1; replace p879 := eq_true p879; replace q879 := eq_true q879; obtain ⟨Ao39, co39, eo39⟩ := Kd.R_slice HO_4.out; subst eo39; obtain ⟨Ao40, co40, eo40⟩ := Kd.R_slice HO_5.out; subst eo40; go_wp2_with (first | (refine gL (some 47) Try.func10 #[.agg #[.slice A879_0 ((rd_T34 t859 x7_2).f0).length c879_0, .slice A879_1 ((rd_T34 t859 x7_2).f1).length c879_1, .int .i64 ((rd_T34 t859 x7_2).f2)], .slice Ao39 t869.length co39, .slice Ao40 t872.length co40] ?_; (with_reducible refine (impl_FrmAt.calls k2 _ _ ((rd_T34 t859 x7_2).f0) _ _ ((rd_T34 t859 x7_2).f1) ((rd_T34 t859 x7_2).f2) _ _ t869 _ _ t872 t880 false _ (by exact lC HR879_0.out) HC879_0.out (by exact lC HR879_1.out) HC879_1.out (by exact lC <| (Kd.R_reads' HO_4.out).2.2) (by exact (Kd.R_reads' HO_4.out).2.1) (by exact lC <| (Kd.R_reads' HO_5.out).2.2) (by exact (Kd.R_reads' HO_5.out).2.1) A32.out).mono ?_); rintro e w41 ⟨rfl, hb⟩; refine ⟨_, rfl, ?_⟩; replace HO_4 := aM (rb HO_4.out hb); replace HO_5 := aM (rb HO_5.out hb); replace HO_876000 := aM (Kd.N_below (by exact lN <| HO_876000.out) hb); replace HO_876001 := aM (Kd.N_below (by exact lN <| HO_876001.out) hb); replace HO_876002 := aM (Kd.N_below (by exact lN <| HO_876002.out) hb); replace BK875 := aM (bb BK875.out hb); replace HR879_0 := aM (Kd.C_below (lC HR879_0.out) hb); replace HR879_1 := aM (Kd.C_below (lC HR879_1.out) hb); replace HB := aM (bj HB.out hb); (try clear hb)))
          go_roundg k2
          case measure => have := HJ3.out; have := HK2.out; omega
          case rel => exact ⟨(false), (wrap64 (x7_2 + 1)), sr, sr, H', ⟨by have := HJ3.out; have := HK2.out; omega⟩, ⟨by exact lR <| HO_4.out⟩, ⟨by exact lR <| HO_5.out⟩, ⟨by exact lN <| HO_876000.out⟩, ⟨by exact lN <| HO_876001.out⟩, ⟨by exact lN <| HO_876002.out⟩, ⟨by exact lK <| BK875.out⟩, ⟨by exact jB HB.out⟩⟩
        ·replace c30 := Bool.eq_false_iff.mpr c30
         subst c30; rw [if_neg nf] at H
         try dsimp only at H
         have H' := aM H
         clear H; have hcz42_0 : wr.cell? ⟨gb875, 0, none⟩ = some (.slice Ao7 t859.length co7) := (blk_cell BK875.out 0).trans rfl
         have hcz42_1 : wr.cell? ⟨gb875, 1, none⟩ = some (.slice Ao9 t862.length co9) := (blk_cell BK875.out 1).trans rfl
         have hcz42_2 : wr.cell? ⟨gb875, 2, none⟩ = some (.slice Ao10 t865.length co10) := (blk_cell BK875.out 2).trans rfl
         have hcz42_3 : wr.cell? ⟨gb875, 3, none⟩ = some (.bool t868) := (blk_cell BK875.out 3).trans rfl
         have hfz42_0 := blk_frozen BK875.out 0
         have hfz42_1 := blk_frozen BK875.out 1
         have hfz42_2 := blk_frozen BK875.out 2
         have hfz42_3 := blk_frozen BK875.out 3
         go_wp2
         go_meet
         case rel => exact ⟨_, (false), sr, H', ⟨by have := HJ3.out; have := HK2.out; first | omega | exact Nat.le_refl _⟩, ⟨by exact lR <| HO_4.out⟩, ⟨by exact lR <| HO_5.out⟩, ⟨by exact lN <| HO_876000.out⟩, ⟨by exact lN <| HO_876001.out⟩, ⟨by exact lN <| HO_876002.out⟩, ⟨by exact lK <| BK875.out⟩, ⟨by exact jB HB.out⟩⟩
       ·rw [if_neg c29] at H; have c29b0 := decide_eq_false c29
        clear c29
        (first | rw [c29b0] | (simp only [i64_w, i32_w]; rw [c29b0]) | skip)
        have H' := aM H
        clear H; have hcz43_0 : wr.cell? ⟨gb875, 0, none⟩ = some (.slice Ao7 t859.length co7) := (blk_cell BK875.out 0).trans rfl
        have hcz43_1 : wr.cell? ⟨gb875, 1, none⟩ = some (.slice Ao9 t862.length co9) := (blk_cell BK875.out 1).trans rfl
        have hcz43_2 : wr.cell? ⟨gb875, 2, none⟩ = some (.slice Ao10 t865.length co10) := (blk_cell BK875.out 2).trans rfl
        have hcz43_3 : wr.cell? ⟨gb875, 3, none⟩ = some (.bool t868) := (blk_cell BK875.out 3).trans rfl
        have hfz43_0 := blk_frozen BK875.out 0
        have hfz43_1 := blk_frozen BK875.out 1
        have hfz43_2 := blk_frozen BK875.out 2
        have hfz43_3 := blk_frozen BK875.out 3
        go_wp2
        go_meet
        case rel => exact ⟨_, (x6_2), sr, H', ⟨by have := HJ3.out; have := HK2.out; first | omega | exact Nat.le_refl _⟩, ⟨by exact lR <| HO_4.out⟩, ⟨by exact lR <| HO_5.out⟩, ⟨by exact lN <| HO_876000.out⟩, ⟨by exact lN <| HO_876001.out⟩, ⟨by exact lN <| HO_876002.out⟩, ⟨by exact lK <| BK875.out⟩, ⟨by exact jB HB.out⟩⟩
    case rest =>
     clear HC28; (try clear c1); (try clear c2); (try clear c2b0); (try clear c2b1); (try clear p2); (try clear c3); (try clear c6); (try clear p6); (try clear c7); (try clear c8); (try clear p8); (try clear q8); (try clear hx8); (try clear c10); (try clear c12); (try clear c14); (try clear c29); (try clear c29b0); (try clear c30); (try clear c31); (try clear c33); (try clear hcz16_0); (try clear hcz16_1); (try clear hcz16_2); (try clear hcz16_3); (try clear hcz22_0); (try clear hcz22_1); (try clear hcz22_2); (try clear hcz22_3); (try clear hcz26_0); (try clear hcz26_1); (try clear hcz26_2); (try clear hcz26_3); (try clear hcz34_0); (try clear hcz34_1); (try clear hcz34_2); (try clear hcz34_3); (try clear hcz38_0); (try clear hcz38_1); (try clear hcz38_2); (try clear hcz38_3); (try clear hcz42_0); (try clear hcz42_1); (try clear hcz42_2); (try clear hcz42_3); (try clear hcz43_0); (try clear hcz43_1); (try clear hcz43_2); (try clear hcz43_3); (try clear hcz8_0); (try clear hcz8_1); (try clear hcz8_2); (try clear hcz8_3); (try clear hfz16_0); (try clear hfz16_1); (try clear hfz16_2); (try clear hfz16_3); (try clear hfz22_0); (try clear hfz22_1); (try clear hfz22_2); (try clear hfz22_3); (try clear hfz26_0); (try clear hfz26_1); (try clear hfz26_2); (try clear hfz26_3); (try clear hfz34_0); (try clear hfz34_1); (try clear hfz34_2); (try clear hfz34_3); (try clear hfz38_0); (try clear hfz38_1); (try clear hfz38_2); (try clear hfz38_3); (try clear hfz42_0); (try clear hfz42_1); (try clear hfz42_2); (try clear hfz42_3); (try clear hfz43_0); (try clear hfz43_1); (try clear hfz43_2); (try clear hfz43_3); (try clear hfz8_0); (try clear hfz8_1); (try clear hfz8_2); (try clear hfz8_3); (try clear hx879_0); (try clear hx879_1); (try clear hx879_2); (try clear p879); (try clear q879); (try clear HO_876000); (try clear HO_876001); (try clear HO_876002)
     obtain ⟨kq, x6_27, rfl, HA, HJ27, HO_4, HO_5, HO_876000, HO_876001, HO_876002, BK875, HB⟩ := hcut
     cases kq with
     | zero => exact absurd HA.out (by simp [laws_FnRowFits.j2])
     | succ kj27 =>
      have H := HA.out
      clear HA; simp only [laws_FnRowFits.j2] at H
      obtain ⟨t882, A44, H⟩ := bS H
      try dsimp only at H
      by_cases c45 : (t882 == x6_27) = true
      ·rw [if_pos c45] at H; have c45b0 : (t882 == x6_27) = true := c45
       (try (have c45b1 : decide (t882 = x6_27) = true := by simpa using c45))
       (try (have c45b2 : (t882 == x6_27) = true := by simpa using c45))
       clear c45; obtain ⟨t883, A46, H⟩ := bS H
       try dsimp only at H
       obtain ⟨t884, A47, H⟩ := bS H
       try dsimp only at H
       by_cases c48 : (t883 == t884) = true
       ·rw [if_pos c48] at H; have c48b0 : (t883 == t884) = true := c48
        (try (have c48b1 : decide (t883 = t884) = true := by simpa using c48))
        (try (have c48b2 : (t883 == t884) = true := by simpa using c48))
        clear c48; obtain ⟨t885, A49, H⟩ := bS H
        try dsimp only at H
        obtain ⟨t886, A50, H⟩ := bS H
        try dsimp only at H
        by_cases c51 : (t885 == t886) = true
        ·rw [if_pos c51] at H; have c51b0 : (t885 == t886) = true := c51
         (try (have c51b1 : decide (t885 = t886) = true := by simpa using c51))
         (try (have c51b2 : (t885 == t886) = true := by simpa using c51))
         clear c51; obtain ⟨t887, A52, H⟩ := bS H
         try dsimp only at H
         obtain rfl := Option.some.inj H
         try go_wp2
         replace HO_4 := aM (Kd.R_drew HO_4.out); replace HO_5 := aM (Kd.R_drew HO_5.out); replace HO_876000 := aM (Kd.N_drew HO_876000.out); replace HO_876001 := aM (Kd.N_drew HO_876001.out); replace HO_876002 := aM (Kd.N_drew HO_876002.out); replace BK875 := aM (blk_drew BK875.out); replace HB := aM (below_drew1 HB.out); obtain ⟨Ao54, co54, eo54⟩ := Kd.R_slice HO_4.out
         (first | subst eo54 | (injection eo54 with f1_ f2_ f3_; have f4_ := f1_.symm; have f5_ := f3_.symm; clear f1_ f2_ f3_; subst f4_; subst f5_))
         obtain ⟨Ao55, co55, eo55⟩ := Kd.R_slice HO_5.out
         (first | subst eo55 | (injection eo55 with f1_ f2_ f3_; have f4_ := f1_.symm; have f5_ := f3_.symm; clear f1_ f2_ f3_; subst f4_; subst f5_))
         refine start_ (n := 29) (S := fun w' => w'.cell? ⟨gb875, 0, none⟩ = some (.slice Ao7 t859.length co7) ∧ w'.cell? ⟨gb875, 1, none⟩ = some (.slice Ao9 t862.length co9) ∧ w'.cell? ⟨gb875, 2, none⟩ = some (.slice Ao10 t865.length co10) ∧ w'.cell? ⟨gb875, 3, none⟩ = some (.bool t868)) (ds := []) #[false, false, false, false, false, false, false, false, false, false, false, false, false, false, false, false, false, false, false, false, false, false, false, false, false, false, false, false, false] (by kernel_rfl) rfl rfl ⟨(blk_cell BK875.out 0).trans rfl, (blk_cell BK875.out 1).trans rfl, (blk_cell BK875.out 2).trans rfl, (blk_cell BK875.out 3).trans rfl⟩ (fun hHeld => ?_); refine with_tabW laws_FnRowFits.tab10 laws_FnRowFits.bits10 (fun HT_ HW_ => ?_)
         generalize wc.drew = w53 at HO_4 HO_5 HO_876000 HO_876001 HO_876002 BK875 HB hHeld ⊢
         refine pu 1 (some 56) HT_.out ?_; refine pu 2 (some 57) HT_.out ?_; refine pu 4 (some 59) HT_.out ?_; refine tk 0 (some 55) HT_.out HW_.out hHeld ?_; refine oN 3 (some 58) HT_.out (fun K hK => ?_); refine gO Try.func11 #[.agg #[.slice Ao7 t859.length co7, .slice Ao9 t862.length co9, .slice Ao10 t865.length co10, .bool t868], .slice Ao54 t869.length co54, .slice Ao55 t872.length co55] ?_; with_reducible refine (impl_RowFits.calls _ _ t859 _ _ t862 _ _ t865 t868 _ _ t869 _ _ t872 t882 _ (by exact lC <| (Kd.N_reads' HO_876000.out).2.2) (by exact (Kd.N_reads' HO_876000.out).2.1) (by exact lC <| (Kd.N_reads' HO_876001.out).2.2) (by exact (Kd.N_reads' HO_876001.out).2.1) (by exact lC <| (Kd.N_reads' HO_876002.out).2.2) (by exact (Kd.N_reads' HO_876002.out).2.1) (by exact lC <| (Kd.R_reads' HO_4.out).2.2) (by exact (Kd.R_reads' HO_4.out).2.1) (by exact lC <| (Kd.R_reads' HO_5.out).2.2) (by exact (Kd.R_reads' HO_5.out).2.1) A44.out).mono ?_
         rintro e w56 ⟨rfl, hb⟩; refine ⟨_, rfl, ?_⟩; replace HO_4 := aM (rb HO_4.out hb); replace HO_5 := aM (rb HO_5.out hb); replace HO_876000 := aM (Kd.N_below (by exact lN <| HO_876000.out) hb); replace HO_876001 := aM (Kd.N_below (by exact lN <| HO_876001.out) hb); replace HO_876002 := aM (Kd.N_below (by exact lN <| HO_876002.out) hb); replace BK875 := aM (bb BK875.out hb); replace HB := aM (bj HB.out hb); (try clear hb); (try clear hb2); (try clear hk); (try clear hi); refine hK.out _ _ ⟨(blk_cell BK875.out 0).trans rfl, (blk_cell BK875.out 1).trans rfl, (blk_cell BK875.out 2).trans rfl, (blk_cell BK875.out 3).trans rfl⟩ (fun hHeld => ?_); clear hK K; refine nm (some 58) ?_; refine pu 5 (some 60) HT_.out ?_; refine pu 6 (some 61) HT_.out ?_; refine pu 8 (some 63) HT_.out ?_; refine pu 9 (some 64) HT_.out ?_; refine pu 12 (some 67) HT_.out ?_; refine pu 13 (some 68) HT_.out ?_; refine tk 7 (some 62) HT_.out HW_.out hHeld ?_; refine tk 11 (some 66) HT_.out HW_.out hHeld ?_; refine oN 10 (some 65) HT_.out (fun K hK => ?_); refine gO Try.func11 #[.agg #[.slice Ao7 t859.length co7, .slice Ao9 t862.length co9, .slice Ao10 t865.length co10, .bool t868], .slice Ao54 t869.length co54, .slice Ao55 t872.length co55] ?_; with_reducible refine (impl_RowFits.calls _ _ t859 _ _ t862 _ _ t865 t868 _ _ t869 _ _ t872 t883 _ (by exact lC <| (Kd.N_reads' HO_876000.out).2.2) (by exact (Kd.N_reads' HO_876000.out).2.1) (by exact lC <| (Kd.N_reads' HO_876001.out).2.2) (by exact (Kd.N_reads' HO_876001.out).2.1) (by exact lC <| (Kd.N_reads' HO_876002.out).2.2) (by exact (Kd.N_reads' HO_876002.out).2.1) (by exact lC <| (Kd.R_reads' HO_4.out).2.2) (by exact (Kd.R_reads' HO_4.out).2.1) (by exact lC <| (Kd.R_reads' HO_5.out).2.2) (by exact (Kd.R_reads' HO_5.out).2.1) A46.out).mono ?_
         rintro e w57 ⟨rfl, hb⟩; refine ⟨_, rfl, ?_⟩; replace HO_4 := aM (rb HO_4.out hb); replace HO_5 := aM (rb HO_5.out hb); replace HO_876000 := aM (Kd.N_below (by exact lN <| HO_876000.out) hb); replace HO_876001 := aM (Kd.N_below (by exact lN <| HO_876001.out) hb); replace HO_876002 := aM (Kd.N_below (by exact lN <| HO_876002.out) hb); replace BK875 := aM (bb BK875.out hb); replace HB := aM (bj HB.out hb); (try clear hb); (try clear hb2); (try clear hk); (try clear hi); refine hK.out _ _ ⟨(blk_cell BK875.out 0).trans rfl, (blk_cell BK875.out 1).trans rfl, (blk_cell BK875.out 2).trans rfl, (blk_cell BK875.out 3).trans rfl⟩ (fun hHeld => ?_); clear hK K; refine nm (some 65) ?_; refine oN 14 (some 69) HT_.out (fun K hK => ?_); refine gO Try.func12 #[.agg #[.slice Ao7 t859.length co7, .slice Ao9 t862.length co9, .slice Ao10 t865.length co10, .bool t868], .slice Ao54 t869.length co54, .slice Ao55 t872.length co55] ?_; with_reducible refine (spec_RowFits.calls kj27 _ _ t859 _ _ t862 _ _ t865 t868 _ _ t869 _ _ t872 t884 _ (by exact lC <| (Kd.N_reads' HO_876000.out).2.2) (by exact (Kd.N_reads' HO_876000.out).2.1) (by exact lC <| (Kd.N_reads' HO_876001.out).2.2) (by exact (Kd.N_reads' HO_876001.out).2.1) (by exact lC <| (Kd.N_reads' HO_876002.out).2.2) (by exact (Kd.N_reads' HO_876002.out).2.1) (by exact lC <| (Kd.R_reads' HO_4.out).2.2) (by exact (Kd.R_reads' HO_4.out).2.1) (by exact lC <| (Kd.R_reads' HO_5.out).2.2) (by exact (Kd.R_reads' HO_5.out).2.1) A47.out).mono ?_
         rintro e w58 ⟨rfl, hb⟩; refine ⟨_, rfl, ?_⟩; replace HO_4 := aM (rb HO_4.out hb); replace HO_5 := aM (rb HO_5.out hb); replace HO_876000 := aM (Kd.N_below (by exact lN <| HO_876000.out) hb); replace HO_876001 := aM (Kd.N_below (by exact lN <| HO_876001.out) hb); replace HO_876002 := aM (Kd.N_below (by exact lN <| HO_876002.out) hb); replace BK875 := aM (bb BK875.out hb); replace HB := aM (bj HB.out hb); (try clear hb); (try clear hb2); (try clear hk); (try clear hi); refine hK.out _ _ ⟨(blk_cell BK875.out 0).trans rfl, (blk_cell BK875.out 1).trans rfl, (blk_cell BK875.out 2).trans rfl, (blk_cell BK875.out 3).trans rfl⟩ (fun hHeld => ?_); clear hK K; refine nm (some 69) ?_; refine pu 15 (some 70) HT_.out ?_; refine pu 16 (some 71) HT_.out ?_; refine pu 17 (some 72) HT_.out ?_; refine tk 18 (some 73) HT_.out HW_.out hHeld ?_; refine tk 20 (some 75) HT_.out HW_.out hHeld ?_; refine oN 19 (some 74) HT_.out (fun K hK => ?_); refine gO Try.func7 #[.agg #[.slice Ao7 t859.length co7, .slice Ao9 t862.length co9, .slice Ao10 t865.length co10, .bool t868]] ?_; with_reducible refine (impl_RowOk.calls _ _ t859 _ _ t862 _ _ t865 t868 t885 _ (by exact lC <| (Kd.N_reads' HO_876000.out).2.2) (by exact (Kd.N_reads' HO_876000.out).2.1) (by exact lC <| (Kd.N_reads' HO_876001.out).2.2) (by exact (Kd.N_reads' HO_876001.out).2.1) (by exact lC <| (Kd.N_reads' HO_876002.out).2.2) (by exact (Kd.N_reads' HO_876002.out).2.1) A49.out).mono ?_
         rintro e w59 ⟨rfl, hb⟩; refine ⟨_, rfl, ?_⟩; replace HO_4 := aM (rb HO_4.out hb); replace HO_5 := aM (rb HO_5.out hb); replace HO_876000 := aM (Kd.N_below (by exact lN <| HO_876000.out) hb); replace HO_876001 := aM (Kd.N_below (by exact lN <| HO_876001.out) hb); replace HO_876002 := aM (Kd.N_below (by exact lN <| HO_876002.out) hb); replace BK875 := aM (bb BK875.out hb); replace HB := aM (bj HB.out hb); (try clear hb); (try clear hb2); (try clear hk); (try clear hi); refine hK.out _ _ ⟨(blk_cell BK875.out 0).trans rfl, (blk_cell BK875.out 1).trans rfl, (blk_cell BK875.out 2).trans rfl, (blk_cell BK875.out 3).trans rfl⟩ (fun hHeld => ?_); clear hK K; refine nm (some 74) ?_; refine oN 21 (some 76) HT_.out (fun K hK => ?_); refine gO Try.func13 #[.agg #[.slice Ao7 t859.length co7, .slice Ao9 t862.length co9, .slice Ao10 t865.length co10, .bool t868]] ?_; with_reducible refine (spec_RowOk.calls kj27 _ _ t859 _ _ t862 _ _ t865 t868 t886 _ (by exact lC <| (Kd.N_reads' HO_876000.out).2.2) (by exact (Kd.N_reads' HO_876000.out).2.1) (by exact lC <| (Kd.N_reads' HO_876001.out).2.2) (by exact (Kd.N_reads' HO_876001.out).2.1) (by exact lC <| (Kd.N_reads' HO_876002.out).2.2) (by exact (Kd.N_reads' HO_876002.out).2.1) A50.out).mono ?_
         rintro e w60 ⟨rfl, hb⟩; refine ⟨_, rfl, ?_⟩; replace HO_4 := aM (rb HO_4.out hb); replace HO_5 := aM (rb HO_5.out hb); replace HO_876000 := aM (Kd.N_below (by exact lN <| HO_876000.out) hb); replace HO_876001 := aM (Kd.N_below (by exact lN <| HO_876001.out) hb); replace HO_876002 := aM (Kd.N_below (by exact lN <| HO_876002.out) hb); replace BK875 := aM (bb BK875.out hb); replace HB := aM (bj HB.out hb); (try clear hb); (try clear hb2); (try clear hk); (try clear hi); refine hK.out _ _ ⟨(blk_cell BK875.out 0).trans rfl, (blk_cell BK875.out 1).trans rfl, (blk_cell BK875.out 2).trans rfl, (blk_cell BK875.out 3).trans rfl⟩ (fun hHeld => ?_); clear hK K; refine nm (some 76) ?_; refine pu 22 (some 77) HT_.out ?_; refine pu 23 (some 78) HT_.out ?_; refine pu 24 (some 79) HT_.out ?_; refine pu 25 (some 80) HT_.out ?_; refine oN 26 (some 81) HT_.out (fun K hK => ?_); refine gO Try.func7 #[.agg #[.slice none 0 0, .slice none 0 0, .slice none 0 0, .bool true]] ?_; refine (impl_RowOk.calls _ _ ([] : List (S34)) _ _ ([] : List (S34)) _ _ ([] : List (S34)) true t887 _ ?side1 ?side2 ?side3 ?side4 ?side5 ?side6 A52.out).mono ?_
         (case side1 => exact Kd.C_nil _ _)
         (case side2 => exact Nat.le_refl _)
         (case side3 => exact Kd.C_nil _ _)
         (case side4 => exact Nat.le_refl _)
         (case side5 => exact Kd.C_nil _ _)
         (case side6 => exact Nat.le_refl _)
         rintro e w61 ⟨rfl, hb⟩; refine ⟨_, rfl, ?_⟩; replace HO_4 := aM (rb HO_4.out hb); replace HO_5 := aM (rb HO_5.out hb); replace HO_876000 := aM (Kd.N_below (by exact lN <| HO_876000.out) hb); replace HO_876001 := aM (Kd.N_below (by exact lN <| HO_876001.out) hb); replace HO_876002 := aM (Kd.N_below (by exact lN <| HO_876002.out) hb); replace BK875 := aM (bb BK875.out hb); replace HB := aM (bj HB.out hb); (try clear hb); (try clear hb2); (try clear hk); (try clear hi); refine hK.out _ _ ⟨(blk_cell BK875.out 0).trans rfl, (blk_cell BK875.out 1).trans rfl, (blk_cell BK875.out 2).trans rfl, (blk_cell BK875.out 3).trans rfl⟩ (fun hHeld => ?_); clear hK K; refine nm (some 81) ?_; refine pu 27 (some 82) HT_.out ?_; refine pu 28 (some 2) HT_.out ?_; refine done_ (done_of HT_.out (by kernel_rfl)) ?_
         try go_wp2
         go_ret
         exact ⟨er, by exact jB HB.out⟩
        ·rw [if_neg c51] at H; have c51b0 : (t885 == t886) = false := by simpa using c51
         (try (have c51b1 : decide (t885 = t886) = false := by simpa using c51))
         (try (have c51b2 : (t885 == t886) = false := by simpa using c51))
         (try (have c51b3 : ¬ (t885 = t886) := by simpa using c51))
         clear c51; exact absurd (Option.some.inj H) (by rw [hr.out]; decide)
       ·rw [if_neg c48] at H; have c48b0 : (t883 == t884) = false := by simpa using c48
        (try (have c48b1 : decide (t883 = t884) = false := by simpa using c48))
        (try (have c48b2 : (t883 == t884) = false := by simpa using c48))
        (try (have c48b3 : ¬ (t883 = t884) := by simpa using c48))
        clear c48; exact absurd (Option.some.inj H) (by rw [hr.out]; decide)
      ·rw [if_neg c45] at H; have c45b0 : (t882 == x6_27) = false := by simpa using c45
       (try (have c45b1 : decide (t882 = x6_27) = false := by simpa using c45))
       (try (have c45b2 : (t882 == x6_27) = false := by simpa using c45))
       (try (have c45b3 : ¬ (t882 = x6_27) := by simpa using c45))
       clear c45; exact absurd (Option.some.inj H) (by rw [hr.out]; decide)
def laws_FnRowFits.Pure : Prop := ∀ (l0 : List Int), (l0.length ≤ 9223372036854775807 ∧ ∀ x0 ∈ l0, (Lit.int .u8 x0).wf = true) → ∃ k, laws_FnRowFits.f k l0 = some true
theorem laws_FnRowFits.walk (P : laws_FnRowFits.Pure) (A0 : Option Addr) (c0 : Nat) (l0 : List Int) (w : World) (hr0 : Kd.C (Kd.int .u8) w A0 l0.length l0) (hc0 : l0.length ≤ c0) (hw0 : (l0.length ≤ 9223372036854775807 ∧ ∀ x0 ∈ l0, (Lit.int .u8 x0).wf = true)) :
  Calls Try.prog 3 #[.slice A0 l0.length c0] w fun e w' => e = .returned (.bool true) ∧ Below w.heap.size w w' := by
 obtain ⟨k, h⟩ := P l0 hw0
 refine (laws_FnRowFits.calls k A0 c0 l0 true w ⟨rfl⟩ hr0 hc0 h).mono ?_
 rintro e w' ⟨rfl, hd⟩
 exact ⟨rfl, hd⟩
end Go.Proofs.Ytcpaplcnebdocaa.QFnRowFits
-- shorter
