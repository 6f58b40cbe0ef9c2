/- Plain functions, and that the Go code computes them: written by a program of this session over the seat's translation; the conditions stand in each theorem. -/
import Derived.Test.YtcafmfmlnfaogaaDoorQFnResTextx0
import Derived.Test.YtcafmfmlnfaogaaDoorQFnResTextx1
import Derived.Test.YtcafmfmlnfaogaaDoorQFnResTextx2
import Derived.Test.YtcafmfmlnfaogaaDoorQFnResTextx4
import Derived.Test.YtcafmfmlnfaogaaDoorQFnResTextx5
import Derived.Test.YtcafmfmlnfaogaaDoorQFnResTextx7
import Derived.Test.YtcafmfmlnfaogaaDoorQFnResTextx8
namespace Go.Proofs.YtcafmfmlnfaogaaDoor.QFnResText
open Go.RowKit Go.Proofs.YtcafmfmlnfaogaaDoorW.PrintWords Go.Proofs.YtcafmfmlnfaogaaDoorW.PrintLast Go.Proofs.YtcafmfmlnfaogaaDoorW.PrintMore Go.Proofs.YtcafmfmlnfaogaaDoor.HWords
open Value (ownBlock)
attribute [local go_sem] max2_int min2_int max_two min_two max_three min_three max_four min_four   -- for this text's walks alone
set_option linter.unusedVariables false
set_option linter.unusedSimpArgs false

/-! ### laws_FnResText: function 6 -/
mutual
def laws_FnResText.j0 : Nat → List Int → List Int → Bool → Option (Bool)
 | 0, _, _, _ => none
 | k + 1, x0, x1, x21 => if x21 = true then (some true) else ((spec_DrawResText.f k x0).bind fun bt291 => ((impl_ResText.f k bt291.1 bt291.2).bind fun t296 => ((spec_DrawResRead.f k x1).bind fun t297 => ((impl_ResRead.f k t297).bind fun bt298 => ((spec_ResRead.f k t297).bind fun bt304 => ((spec_ResText.f k bt291.1 bt291.2).bind fun t310 => (if t296.toList = t310.toList then ((laws_coRes.f k bt298.1 bt298.2.1 bt304.1 bt304.2.1).bind fun t311 => (if t311 = true then (if (bt298.2.2 != bt304.2.2) = true then (laws_FnResText.j1 k t296 true bt291.1 bt291.2) else (if bt298.2.2 = true then ((impl_ResText.f k bt298.1 bt298.2.1).bind fun t312 => (if t312.toList = t297.toList then ((impl_ResOk.f k bt291.1 bt291.2).bind fun t313 => (laws_FnResText.j1 k t296 (t313 != (t296.toList != ([] : List UInt8))) bt291.1 bt291.2)) else (laws_FnResText.j1 k t296 true bt291.1 bt291.2))) else ((impl_ResOk.f k bt291.1 bt291.2).bind fun t314 => (laws_FnResText.j1 k t296 (t314 != (t296.toList != ([] : List UInt8))) bt291.1 bt291.2)))) else (laws_FnResText.j1 k t296 true bt291.1 bt291.2))) else (laws_FnResText.j1 k t296 true bt291.1 bt291.2))))))))
def laws_FnResText.j1 : Nat → ByteArray → Bool → Int → List Int → Option (Bool)
 | 0, _, _, _, _ => none
 | k + 1, x6, x68, x296000, x296001 => if x68 = true then (some false) else (if x6.toList = ([] : List UInt8) then ((impl_ResText.f k 2 ([] : List Int)).bind fun t315 => (some (t315.toList == ([115, 116, 111, 112, 112, 101, 100] : List UInt8)))) else ((impl_ResRead.f k x6).bind fun bt316 => (if bt316.2.2 = true then ((laws_coRes.f k bt316.1 bt316.2.1 x296000 x296001).bind fun t322 => (some t322)) else (some false))))
end
def laws_FnResText.f (k : Nat) (l0 : List Int) (l1 : List Int) : Option (Bool) := if (l0.length : Int) > 1048576 then (laws_FnResText.j0 k l0 l1 true) else (laws_FnResText.j0 k l0 l1 (decide ((l1.length : Int) > 1048576)))
theorem laws_FnResText.mono_l : ∀ k, (∀ y0 y1 y2, LeO (laws_FnResText.j0 k y0 y1 y2) (laws_FnResText.j0 (k + 1) y0 y1 y2)) ∧ (∀ y0 y1 y2 y3, LeO (laws_FnResText.j1 k y0 y1 y2 y3) (laws_FnResText.j1 (k + 1) y0 y1 y2 y3))
 | 0 => ⟨fun _ _ _ r h => by simp [laws_FnResText.j0] at h, fun _ _ _ _ r h => by simp [laws_FnResText.j1] at h⟩
 | k + 1 => by
  obtain ⟨ih0, ih1⟩ := laws_FnResText.mono_l k
  refine ⟨?_, ?_⟩
  ·intro y0 y1 y2
   unfold laws_FnResText.j0
   repeat' first
   | (with_reducible exact ih0 _ _ _)
   | (with_reducible exact ih1 _ _ _ _)
   | (with_reducible exact impl_ResOk.mono _ _ _)
   | (with_reducible exact impl_ResRead.mono _ _)
   | (with_reducible exact impl_ResText.mono _ _ _)
   | (with_reducible exact laws_coRes.mono _ _ _ _ _)
   | (with_reducible exact spec_DrawResRead.mono _ _)
   | (with_reducible exact spec_DrawResText.mono _ _)
   | (with_reducible exact spec_ResRead.mono _ _)
   | (with_reducible exact spec_ResText.mono _ _ _)
   | (with_reducible exact LeO.refl _)
   | (with_reducible exact LeO.none _)
   | (with_reducible refine LeO.ite ?_ ?_)
   | (with_reducible refine LeO.bind ?_ (fun _ => ?_))
   | exact LeO.none _
   | refine LeO.ite ?_ ?_
   | refine LeO.bind ?_ (fun _ => ?_)
  ·intro y0 y1 y2 y3
   unfold laws_FnResText.j1
   repeat' first
   | (with_reducible exact ih0 _ _ _)
   | (with_reducible exact ih1 _ _ _ _)
   | (with_reducible exact impl_ResOk.mono _ _ _)
   | (with_reducible exact impl_ResRead.mono _ _)
   | (with_reducible exact impl_ResText.mono _ _ _)
   | (with_reducible exact laws_coRes.mono _ _ _ _ _)
   | (with_reducible exact spec_DrawResRead.mono _ _)
   | (with_reducible exact spec_DrawResText.mono _ _)
   | (with_reducible exact spec_ResRead.mono _ _)
   | (with_reducible exact spec_ResText.mono _ _ _)
   | (with_reducible exact LeO.refl _)
   | (with_reducible exact LeO.none _)
   | (with_reducible refine LeO.ite ?_ ?_)
   | (with_reducible refine LeO.bind ?_ (fun _ => ?_))
   | exact LeO.none _
   | refine LeO.ite ?_ ?_
   | refine LeO.bind ?_ (fun _ => ?_)
theorem laws_FnResText.mono : ∀ a0 a1 k, LeO (laws_FnResText.f k a0 a1) (laws_FnResText.f (k + 1) a0 a1) := by
 intro a0 a1 k
 obtain ⟨ih0, ih1⟩ := laws_FnResText.mono_l k
 unfold laws_FnResText.f
 repeat' first
   | (with_reducible exact ih0 _ _ _)
   | (with_reducible exact ih1 _ _ _ _)
   | (with_reducible exact impl_ResOk.mono _ _ _)
   | (with_reducible exact impl_ResRead.mono _ _)
   | (with_reducible exact impl_ResText.mono _ _ _)
   | (with_reducible exact laws_coRes.mono _ _ _ _ _)
   | (with_reducible exact spec_DrawResRead.mono _ _)
   | (with_reducible exact spec_DrawResText.mono _ _)
   | (with_reducible exact spec_ResRead.mono _ _)
   | (with_reducible exact spec_ResText.mono _ _ _)
   | (with_reducible exact LeO.refl _)
   | (with_reducible exact LeO.none _)
   | (with_reducible refine LeO.ite ?_ ?_)
   | (with_reducible refine LeO.bind ?_ (fun _ => ?_))
   | exact LeO.none _
   | refine LeO.ite ?_ ?_
   | refine LeO.bind ?_ (fun _ => ?_)
set_option maxHeartbeats 8000000 in
set_option maxRecDepth 100000 in
theorem laws_FnResText.calls (k : Nat) (A0 : Option Addr) (c0 : Nat) (l0 : List Int) (A1 : Option Addr) (c1 : Nat) (l1 : List Int) (r : Bool) (w : World) (hr : Aside0 (r = true)) (hr0 : Kd.C (Kd.int .u8) w A0 l0.length l0) (hc0 : l0.length ≤ c0) (hr1 : Kd.C (Kd.int .u8) w A1 l1.length l1) (hc1 : l1.length ≤ c1) (h : laws_FnResText.f k l0 l1 = some r) (htab : Tryd.TB w) :
  Calls Tryd.prog 6 #[.slice A0 l0.length c0, .slice A1 l1.length c1] w fun e w' => e = .returned (.bool r) ∧ Below w.heap.size w w' := by
 have HTAB : Aside0 (∀ w', Below w.heap.size w w' → Tryd.TB w') := ⟨fun w' hb => Tryd.TB.below htab hb⟩
 clear htab
 have hu27 := Tryd.underlying27
 have HR0 := aM hr0
 have HC0 := aM hc0
 clear hr0 hc0
 have HR1 := aM hr1
 have HC1 := aM hc1
 clear hr1 hc1
 have HB := aM (Below.refl w.heap.size w)
 have H : (if (l0.length : Int) > 1048576 then (laws_FnResText.j0 k l0 l1 true) else (laws_FnResText.j0 k l0 l1 (decide ((l1.length : Int) > 1048576)))) = some r := h
 clear h
 have HC3 := aM H
 clear H
 go_enter Tryd.func6, Tryd.ntmps6
 go_upto_region 1 with (fail)
 go_cut [21] (fun v21 wc => ∃ (kq : Nat) (x21_2 : Bool), v21 = .bool x21_2 ∧ Aside0 (laws_FnResText.j0 kq l0 l1 x21_2 = some r) ∧ Aside0 (kq ≤ k) ∧ Aside0 (Below w.heap.size w wc))
 case first =>
  have H := HC3.out
  clear HC3
  by_cases c4 : (l0.length : Int) > 1048576
  ·rw [if_pos c4] at H
   have c4b0 := decide_eq_true c4
   have c4b1 : decide (1048576 < l0.length) = true := decide_eq_true (by omega)
   clear c4
   (first | rw [c4b0] | (simp only [i64_w, i32_w]; rw [c4b0]) | rw [c4b1] | skip)
   have H' := aM H
   clear H
   go_wp2
   go_meet
   case rel => exact ⟨_, (true), (by first | rfl | (simp; done) | (simp [*]; done)), H', ⟨by first | omega | exact Nat.le_refl _⟩, ⟨by exact lB HB.out⟩⟩
  ·rw [if_neg c4] at H
   have c4b0 := decide_eq_false c4
   have c4b1 : decide (1048576 < l0.length) = false := decide_eq_false (by omega)
   clear c4
   (first | rw [c4b0] | (simp only [i64_w, i32_w]; rw [c4b0]) | rw [c4b1] | skip)
   have H' := aM H
   clear H
   go_wp2
   go_meet
   case rel => exact ⟨_, (decide ((l1.length : Int) > 1048576)), (by first | rfl | (simp; done) | (simp [*]; done)), H', ⟨by first | omega | exact Nat.le_refl _⟩, ⟨by exact lB HB.out⟩⟩
 case rest =>
  clear HC3
  try clear c1
  try clear p2
  try clear c4
  try clear c4b0
  try clear c4b1
  obtain ⟨kq, x21_2, rfl, HA, HJ2, HB⟩ := hcut
  cases kq with
  | zero => exact absurd HA.out (by simp [laws_FnResText.j0])
  | succ kj2 =>
   have H := HA.out
   clear HA
   simp only [laws_FnResText.j0] at H
   by_cases c5 : x21_2 = true
   ·subst c5
    rw [if_pos rfl] at H
    try dsimp only at H
    obtain rfl := Option.some.inj H
    go_wp2
    go_ret
    exact ⟨er, by exact lB HB.out⟩
   ·replace c5 := Bool.eq_false_iff.mpr c5
    subst c5
    rw [if_neg nf] at H
    try dsimp only at H
    obtain ⟨⟨t291, t292⟩, A6, H⟩ := bS H
    try dsimp only at H
    obtain ⟨t296, A7, H⟩ := bS H
    try dsimp only at H
    obtain ⟨t297, A8, H⟩ := bS H
    try dsimp only at H
    obtain ⟨⟨t298, t299, t302⟩, A9, H⟩ := bS H
    try dsimp only at H
    obtain ⟨⟨t304, t305, t308⟩, A10, H⟩ := bS H
    try dsimp only at H
    have HC11 := aM H
    clear H
    go_upto_region 8 with (first | ((with_reducible refine gate_callee (f := 18) rfl ?_); refine gL (some 23) Tryd.func18 #[.slice A0 l0.length c0] ?_; (with_reducible refine (spec_DrawResText.calls kj2 _ _ l0 t291 t292 _ ?side1 ?side2 A6.out).mono ?_); (case side1 => exact lC <| (Kd.C_below HR0.out HB.out)); (case side2 => exact HC0.out); rintro e w12 ⟨v293, rfl, ho0, hb⟩; refine ⟨_, rfl, ?_⟩; have HO294 := aM (Kd.V_lower (Kd.V_mono (ok' := fun k_ => True) ho0 (fun k_ hk_ => trivial)) (below_size (by exact lB HB.out))); replace HB := aM (bj HB.out hb); (try clear hb); (try clear ho0)) | ((with_reducible refine gate_dst (N := 5) rfl ?_); (try (refine gate_guard (by rfl) ?_; dsimp only)); refine bx 5 #[.int .i64 0, .slice none 0 0] 27 ?_; intro gb295 hg w13 hbox hb; replace HO294 := aM (Kd.V_below (Kd.V_elderB (by (with_reducible repeat (first | apply Kd.V_alloc | apply Kd.V_drewN | apply Kd.V_drew)); exact HO294.out) gb295 (Nat.le_of_eq hg.symm)) hb); have BK295 := aM (hbox); have GW295 := aM ((gz hg HB.out)); have IGW295 : Nonempty _ := ⟨GW295.out⟩; have GE295 := aM ((gz hg HB.out)); have IGE295 : Nonempty _ := ⟨GE295.out⟩; replace HB := aM (bj HB.out hb); clear hb hbox hg; obtain ⟨hcz14_0, hcz14_1, hfz14_0, hfz14_1⟩ := cf2 BK295.out; obtain ⟨Ao15, co15, eo15⟩ := Kd.V_slice HO294.out; subst eo15) | ((with_reducible refine gate_callee (f := 10) rfl ?_); refine gL (some 25) Tryd.func10 #[.agg #[.int .i64 t291, .slice Ao15 t292.length co15]] ?_; (with_reducible refine (impl_ResText.calls kj2 t291 _ _ t292 t296 _ ?side1 ?side2 A7.out (HTAB.out _ (by exact jB HB.out))).mono ?_); (case side1 => refine (Kd.V_reads' (e := 3) (base := w.heap.size) (ok := fun k_ => (True ∧ k_ ≠ gb295)) (n := t292.length) (c := co15) ?_).2.2; exact (by (with_reducible repeat (first | apply Kd.V_alloc | apply Kd.V_drewN | apply Kd.V_drew)); exact (Kd.V_mono (Kd.V_far (p := ⟨gb295, 1, none⟩) (Kd.V_far (p := ⟨gb295, 0, none⟩) (Kd.V_mono HO294.out (fun k_ hk => (⟨hk, hk.2⟩ : _ ∧ k_ ≠ gb295))) (fun _ hk => hk.2) (.int .i64 t291)) (fun _ hk => hk.2) (.slice Ao15 t292.length co15)) (fun _ h_ => h_.1)))); (case side2 => exact (Kd.V_reads' HO294.out).2.1); rintro e w16 ⟨rfl, hb⟩; refine ⟨_, rfl, ?_⟩; replace HO294 := aM (Kd.V_below (by (with_reducible repeat (first | apply Kd.V_alloc | apply Kd.V_drewN | apply Kd.V_drew)); exact (Kd.V_mono (Kd.V_far (p := ⟨gb295, 1, none⟩) (Kd.V_far (p := ⟨gb295, 0, none⟩) (Kd.V_mono HO294.out (fun k_ hk => (⟨hk, hk.2⟩ : _ ∧ k_ ≠ gb295))) (fun _ hk => hk.2) (.int .i64 t291)) (fun _ hk => hk.2) (.slice Ao15 t292.length co15)) (fun _ h_ => h_.1))) hb); replace BK295 := aM (blk_below (g := gb295) (o := .cells #[.int .i64 t291, .slice Ao15 t292.length co15] 27 (0, 0)) (by exact p2 (lK BK295.out)) hb); replace HB := aM (bj HB.out hb); (try clear hb)) | ((with_reducible refine gate_callee (f := 19) rfl ?_); refine gL (some 27) Tryd.func19 #[.slice A1 l1.length c1] ?_; (with_reducible refine (spec_DrawResRead.calls kj2 _ _ l1 t297 _ ?side1 ?side2 A8.out).mono ?_); (case side1 => exact lC <| (Kd.C_below HR1.out HB.out)); (case side2 => exact HC1.out); rintro e w17 ⟨rfl, hb⟩; refine ⟨_, rfl, ?_⟩; replace HO294 := aM (Kd.V_below (by (with_reducible repeat (first | apply Kd.V_alloc | apply Kd.V_drewN | apply Kd.V_drew)); exact HO294.out) hb); replace BK295 := aM (bb BK295.out hb); replace HB := aM (bj HB.out hb); (try clear hb)) | ((with_reducible refine gate_callee (f := 15) rfl ?_); refine gL (some 30) Tryd.func15 #[.string t297] ?_; (with_reducible refine (impl_ResRead.calls kj2 t297 t298 t299 t302 _ A9.out (HTAB.out _ (by exact jB HB.out))).mono ?_); rintro e w18 ⟨v300, rfl, ho0, hb⟩; refine ⟨_, rfl, ?_⟩; replace HO294 := aM (Kd.V_elder' (by (with_reducible repeat (first | apply Kd.V_alloc | apply Kd.V_drewN | apply Kd.V_drew)); exact HO294.out) (Kd.R_base ho0) hb); have HO301 := aM (Kd.R_lower ho0 (below_size (by exact jB HB.out))); replace BK295 := aM (bb BK295.out hb); replace HB := aM (bj HB.out hb); (try clear hb); (try clear ho0)) | ((with_reducible refine gate_dst (N := 8) rfl ?_); (try (refine gate_guard (by rfl) ?_; dsimp only)); refine bx 8 #[.int .i64 0, .slice none 0 0] 27 ?_; intro gb303 hg w19 hbox hb; replace HO294 := aM (Kd.V_below (Kd.V_elderB (by (with_reducible repeat (first | apply Kd.V_alloc | apply Kd.V_drewN | apply Kd.V_drew)); exact HO294.out) gb303 (Nat.le_of_eq hg.symm)) hb); replace HO301 := aM (rb HO301.out hb); have BK303 := aM (hbox); have GW303 := aM ((gz hg HB.out)); have IGW303 : Nonempty _ := ⟨GW303.out⟩; have GE303 := aM ((gz hg HB.out)); have IGE303 : Nonempty _ := ⟨GE303.out⟩; replace HB := aM (bj HB.out hb); have NB295_303 := aM ((neL hg (lK BK295.out) : gb295 ≠ gb303)); have NB303_295 := aM ((neG hg (lK BK295.out) : gb303 ≠ gb295)); replace BK295 := aM (bb BK295.out hb); clear hb hbox hg; have hnb20 := NB303_295.out; have hnc20 := NB295_303.out; obtain ⟨hcz21_0, hcz21_1, hfz21_0, hfz21_1⟩ := cf2 BK303.out; obtain ⟨Ao22, co22, eo22⟩ := Kd.R_slice HO301.out; subst eo22) | ((with_reducible refine gate_callee (f := 14) rfl ?_); refine gL (some 35) Tryd.func14 #[.string t297] ?_; (with_reducible refine (spec_ResRead.calls kj2 t297 t304 t305 t308 _ A10.out).mono ?_); rintro e w23 ⟨v306, rfl, ho0, hb⟩; refine ⟨_, rfl, ?_⟩; replace HO294 := aM (Kd.V_elder' (by (with_reducible repeat (first | apply Kd.V_alloc | apply Kd.V_drewN | apply Kd.V_drew)); exact (Kd.V_mono (Kd.V_far (p := ⟨gb303, 1, none⟩) (Kd.V_far (p := ⟨gb303, 0, none⟩) (Kd.V_mono HO294.out (fun k_ hk => (⟨hk, hk.2⟩ : _ ∧ k_ ≠ gb303))) (fun _ hk => hk.2) (.int .i64 t298)) (fun _ hk => hk.2) (.slice Ao22 t299.length co22)) (fun _ h_ => h_.1))) (Kd.R_base ho0) hb); have HO307 := aM (Kd.R_lower (Kd.R_new' ho0 (Kd.R_lt (qp (R2 HO301.out BK303.out)))) (below_size (by exact jB HB.out))); replace HO301 := aM (Kd.R_elder' (qp (R2 HO301.out BK303.out)) (Kd.R_base ho0) hb); replace BK295 := aM (blk_below (f2 (lK BK295.out) NB295_303.out) hb); replace BK303 := aM (blk_below (g := gb303) (o := .cells #[.int .i64 t298, .slice Ao22 t299.length co22] 27 (0, 0)) (by exact p2 (lK BK303.out)) hb); replace HB := aM (bj HB.out hb); (try clear hb); (try clear ho0)) | ((with_reducible refine gate_dst (N := 10) rfl ?_); (try (refine gate_guard (by rfl) ?_; dsimp only)); refine bx 10 #[.int .i64 0, .slice none 0 0] 27 ?_; intro gb309 hg w24 hbox hb; replace HO294 := aM (Kd.V_below (Kd.V_elderB (by (with_reducible repeat (first | apply Kd.V_alloc | apply Kd.V_drewN | apply Kd.V_drew)); exact HO294.out) gb309 (Nat.le_of_eq hg.symm)) hb); replace HO301 := aM (rb HO301.out hb); replace HO307 := aM (rb HO307.out hb); have BK309 := aM (hbox); have GW309 := aM ((gz hg HB.out)); have IGW309 : Nonempty _ := ⟨GW309.out⟩; have GE309 := aM ((gz hg HB.out)); have IGE309 : Nonempty _ := ⟨GE309.out⟩; replace HB := aM (bj HB.out hb); have NB295_309 := aM ((neL hg (lK BK295.out) : gb295 ≠ gb309)); have NB309_295 := aM ((neG hg (lK BK295.out) : gb309 ≠ gb295)); replace BK295 := aM (bb BK295.out hb); have NB303_309 := aM ((neL hg (lK BK303.out) : gb303 ≠ gb309)); have NB309_303 := aM ((neG hg (lK BK303.out) : gb309 ≠ gb303)); replace BK303 := aM (bb BK303.out hb); clear hb hbox hg; have hnb25 := NB309_295.out; have hnc25 := NB295_309.out; have hnb26 := NB309_303.out; have hnc26 := NB303_309.out; obtain ⟨hcz27_0, hcz27_1, hfz27_0, hfz27_1⟩ := cf2 BK309.out; obtain ⟨Ao28, co28, eo28⟩ := Kd.R_slice HO307.out; subst eo28))
    (try simp only [Act.put, sA, s0, sS])
    go_cut [68] (fun v68 wc => ∃ (kq : Nat) (x68_10 : Bool), v68 = .bool x68_10 ∧ Aside0 (laws_FnResText.j1 kq t296 x68_10 t291 t292 = some r) ∧ Aside0 (kq ≤ kj2) ∧ Aside0 (Kd.V (Kd.int .i64) 3 wc w.heap.size (fun k_ => some k_ ≠ ((.slice Ao22 t299.length co22) : Value).ownBlock ∧ k_ ≠ gb295 ∧ k_ ≠ gb303 ∧ k_ ≠ gb309) (.slice Ao15 t292.length co15) t292) ∧ Aside0 (Kd.R (Kd.int .i64) 3 wc w.heap.size (fun k_ => some k_ ≠ ((.slice Ao28 t305.length co28) : Value).ownBlock) (.slice Ao22 t299.length co22) t299) ∧ Aside0 (Kd.R (Kd.int .i64) 3 wc w.heap.size (fun k_ => some k_ ≠ ((.slice Ao22 t299.length co22) : Value).ownBlock) (.slice Ao28 t305.length co28) t305) ∧ Aside0 (wc.heap[gb295]? = some (.cells #[.int .i64 t291, (.slice Ao15 t292.length co15)] 27 (0, 0))) ∧ Aside0 (wc.heap[gb303]? = some (.cells #[.int .i64 t298, (.slice Ao22 t299.length co22)] 27 (0, 0))) ∧ Aside0 (wc.heap[gb309]? = some (.cells #[.int .i64 t304, (.slice Ao28 t305.length co28)] 27 (0, 0))) ∧ Aside0 (Below w.heap.size w wc))
    case first =>
     have H := HC11.out
     clear HC11
     obtain ⟨t310, A29, H⟩ := bS H
     try dsimp only at H
     by_cases c30 : t296.toList = t310.toList
     ·rw [if_pos c30] at H
      have c30b0 := beq_iff_eq.mpr c30
      have c30b1 := bne_eq_false_iff_eq.mpr c30
      clear c30
      (first | rw [c30b0] | (simp only [i64_w, i32_w]; rw [c30b0]) | rw [c30b1] | skip)
      obtain ⟨t311, A31, H⟩ := bS H
      try dsimp only at H
      by_cases c32 : t311 = true
      ·subst c32
       rw [if_pos rfl] at H
       try dsimp only at H
       by_cases c33 : (t302 != t308) = true
       ·rw [if_pos c33] at H
        have c33b0 : (t302 != t308) = true := c33
        (try (have c33b1 : decide (t302 = t308) = false := by simpa using c33))
        (try (have c33b2 : (t302 == t308) = false := by simpa using c33))
        (try (have c33b3 : ¬ (t302 = t308) := by simpa using c33))
        clear c33
        have H' := aM H
        clear H
        have hnb34 := NB295_303.out
        have hnc34 := NB303_295.out
        have hnb35 := NB295_309.out
        have hnc35 := NB309_295.out
        obtain ⟨hcz36_0, hcz36_1, hfz36_0, hfz36_1⟩ := cf2 BK295.out
        go_wp2_with (first | ((with_reducible refine gate_callee (f := 8) rfl ?_); refine gL (some 40) Tryd.func8 #[.agg #[.int .i64 t291, .slice Ao15 t292.length co15]] ?_; (with_reducible refine (spec_ResText.calls kj2 t291 _ _ t292 t310 _ ?side1 ?side2 A29.out).mono ?_); (case side1 => refine (Kd.V_reads' (e := 3) (base := w.heap.size) (ok := fun k_ => (((((True ∧ k_ ≠ gb295) ∧ some k_ ≠ ownBlock (.slice Ao22 t299.length co22)) ∧ k_ ≠ gb303) ∧ some k_ ≠ ownBlock (.slice Ao28 t305.length co28)) ∧ k_ ≠ gb309)) (n := t292.length) (c := co15) ?_).2.2; exact (by (with_reducible repeat (first | apply Kd.V_alloc | apply Kd.V_drewN | apply Kd.V_drew)); exact (Kd.V_mono (Kd.V_far (p := ⟨gb309, 1, none⟩) (Kd.V_far (p := ⟨gb309, 0, none⟩) (Kd.V_mono HO294.out (fun k_ hk => (⟨hk, hk.2⟩ : _ ∧ k_ ≠ gb309))) (fun _ hk => hk.2) (.int .i64 t304)) (fun _ hk => hk.2) (.slice Ao28 t305.length co28)) (fun _ h_ => h_.1)))); (case side2 => exact (Kd.V_reads' HO294.out).2.1); rintro e w37 ⟨rfl, hb⟩; refine ⟨_, rfl, ?_⟩; replace HO294 := aM (Kd.V_below (by (with_reducible repeat (first | apply Kd.V_alloc | apply Kd.V_drewN | apply Kd.V_drew)); exact (Kd.V_mono (Kd.V_far (p := ⟨gb309, 1, none⟩) (Kd.V_far (p := ⟨gb309, 0, none⟩) (Kd.V_mono HO294.out (fun k_ hk => (⟨hk, hk.2⟩ : _ ∧ k_ ≠ gb309))) (fun _ hk => hk.2) (.int .i64 t304)) (fun _ hk => hk.2) (.slice Ao28 t305.length co28)) (fun _ h_ => h_.1))) hb); replace HO301 := aM (Kd.R_below (qp (R2 HO301.out BK309.out)) hb); replace HO307 := aM (Kd.R_below (qp (R2 HO307.out BK309.out)) hb); replace BK295 := aM (blk_below (f2 (lK BK295.out) NB295_309.out) hb); replace BK303 := aM (blk_below (f2 (lK BK303.out) NB303_309.out) hb); replace BK309 := aM (blk_below (g := gb309) (o := .cells #[.int .i64 t304, .slice Ao28 t305.length co28] 27 (0, 0)) (by exact p2 (lK BK309.out)) hb); replace HB := aM (bj HB.out hb); (try clear hb); have hnb38 := NB303_309.out; have hnc38 := NB309_303.out; obtain ⟨hcz39_0, hcz39_1, hfz39_0, hfz39_1⟩ := cf2 BK303.out; obtain ⟨hcz40_0, hcz40_1, hfz40_0, hfz40_1⟩ := cf2 BK309.out) | (go_at_call 20; (with_reducible refine (laws_coRes.calls kj2 t298 _ _ t299 t304 _ _ t305 true _ ?side1 ?side2 ?side3 ?side4 A31.out).mono ?_); (case side1 => exact lC <| (Kd.R_reads' HO301.out).2.2); (case side2 => exact (Kd.R_reads' HO301.out).2.1); (case side3 => exact lC <| (Kd.R_reads' HO307.out).2.2); (case side4 => exact (Kd.R_reads' HO307.out).2.1); rintro e w41 ⟨rfl, hb⟩; replace HO294 := aM (Kd.V_below (by (with_reducible repeat (first | apply Kd.V_alloc | apply Kd.V_drewN | apply Kd.V_drew)); exact HO294.out) hb); replace HO301 := aM (rb HO301.out hb); replace HO307 := aM (rb HO307.out hb); replace BK295 := aM (bb BK295.out hb); replace BK303 := aM (bb BK303.out hb); replace BK309 := aM (bb BK309.out hb); replace HB := aM (bj HB.out hb); (try clear hb)))
        go_meet
        case rel => exact ⟨_, (true), (by first | rfl | (simp; done) | (simp [*]; done)), H', ⟨by have := HJ2.out; first | omega | exact Nat.le_refl _⟩, ⟨by (with_reducible repeat (first | apply Kd.V_alloc | apply Kd.V_drewN | apply Kd.V_drew)); exact Kd.V_mono HO294.out (fun _ hk => ⟨hk.1.1.1.2, ⟨hk.1.1.1.1.2, ⟨hk.1.1.2, hk.2⟩⟩⟩)⟩, ⟨by exact lR <| Kd.R_mono HO301.out (fun _ hk => hk.2)⟩, ⟨by exact lR <| Kd.R_mono HO307.out (fun _ hk => hk.2)⟩, ⟨by exact lK <| BK295.out⟩, ⟨by exact lK <| BK303.out⟩, ⟨by exact lK <| BK309.out⟩, ⟨by exact jB HB.out⟩⟩
       ·rw [if_neg c33] at H
        have c33b0 : (t302 != t308) = false := by simpa using c33
        (try (have c33b1 : decide (t302 = t308) = true := by simpa using c33))
        (try (have c33b2 : (t302 == t308) = true := by simpa using c33))
        clear c33
        by_cases c42 : t302 = true
        ·subst c42
         rw [if_pos rfl] at H
         try dsimp only at H
         obtain ⟨t312, A43, H⟩ := bS H
         try dsimp only at H
         by_cases c44 : t312.toList = t297.toList
         ·rw [if_pos c44] at H
          have c44b0 := beq_iff_eq.mpr c44
          have c44b1 := bne_eq_false_iff_eq.mpr c44
          clear c44
          obtain ⟨t313, A45, H⟩ := bS H
          try dsimp only at H
          have H' := aM H
          clear H
          have hnb46 := NB295_303.out
          have hnc46 := NB303_295.out
          have hnb47 := NB295_309.out
          have hnc47 := NB309_295.out
          obtain ⟨hcz48_0, hcz48_1, hfz48_0, hfz48_1⟩ := cf2 BK295.out
          go_wp2_with (first | ((with_reducible refine gate_callee (f := 8) rfl ?_); refine gL (some 40) Tryd.func8 #[.agg #[.int .i64 t291, .slice Ao15 t292.length co15]] ?_; (with_reducible refine (spec_ResText.calls kj2 t291 _ _ t292 t310 _ ?side1 ?side2 A29.out).mono ?_); (case side1 => refine (Kd.V_reads' (e := 3) (base := w.heap.size) (ok := fun k_ => (((((True ∧ k_ ≠ gb295) ∧ some k_ ≠ ownBlock (.slice Ao22 t299.length co22)) ∧ k_ ≠ gb303) ∧ some k_ ≠ ownBlock (.slice Ao28 t305.length co28)) ∧ k_ ≠ gb309)) (n := t292.length) (c := co15) ?_).2.2; exact (by (with_reducible repeat (first | apply Kd.V_alloc | apply Kd.V_drewN | apply Kd.V_drew)); exact (Kd.V_mono (Kd.V_far (p := ⟨gb309, 1, none⟩) (Kd.V_far (p := ⟨gb309, 0, none⟩) (Kd.V_mono HO294.out (fun k_ hk => (⟨hk, hk.2⟩ : _ ∧ k_ ≠ gb309))) (fun _ hk => hk.2) (.int .i64 t304)) (fun _ hk => hk.2) (.slice Ao28 t305.length co28)) (fun _ h_ => h_.1)))); (case side2 => exact (Kd.V_reads' HO294.out).2.1); rintro e w49 ⟨rfl, hb⟩; refine ⟨_, rfl, ?_⟩; replace HO294 := aM (Kd.V_below (by (with_reducible repeat (first | apply Kd.V_alloc | apply Kd.V_drewN | apply Kd.V_drew)); exact (Kd.V_mono (Kd.V_far (p := ⟨gb309, 1, none⟩) (Kd.V_far (p := ⟨gb309, 0, none⟩) (Kd.V_mono HO294.out (fun k_ hk => (⟨hk, hk.2⟩ : _ ∧ k_ ≠ gb309))) (fun _ hk => hk.2) (.int .i64 t304)) (fun _ hk => hk.2) (.slice Ao28 t305.length co28)) (fun _ h_ => h_.1))) hb); replace HO301 := aM (Kd.R_below (qp (R2 HO301.out BK309.out)) hb); replace HO307 := aM (Kd.R_below (qp (R2 HO307.out BK309.out)) hb); replace BK295 := aM (blk_below (f2 (lK BK295.out) NB295_309.out) hb); replace BK303 := aM (blk_below (f2 (lK BK303.out) NB303_309.out) hb); replace BK309 := aM (blk_below (g := gb309) (o := .cells #[.int .i64 t304, .slice Ao28 t305.length co28] 27 (0, 0)) (by exact p2 (lK BK309.out)) hb); replace HB := aM (bj HB.out hb); (try clear hb); have hnb50 := NB303_309.out; have hnc50 := NB309_303.out; obtain ⟨hcz51_0, hcz51_1, hfz51_0, hfz51_1⟩ := cf2 BK303.out; obtain ⟨hcz52_0, hcz52_1, hfz52_0, hfz52_1⟩ := cf2 BK309.out) | (go_at_call 20; (with_reducible refine (laws_coRes.calls kj2 t298 _ _ t299 t304 _ _ t305 true _ ?side1 ?side2 ?side3 ?side4 A31.out).mono ?_); (case side1 => exact lC <| (Kd.R_reads' HO301.out).2.2); (case side2 => exact (Kd.R_reads' HO301.out).2.1); (case side3 => exact lC <| (Kd.R_reads' HO307.out).2.2); (case side4 => exact (Kd.R_reads' HO307.out).2.1); rintro e w53 ⟨rfl, hb⟩; replace HO294 := aM (Kd.V_below (by (with_reducible repeat (first | apply Kd.V_alloc | apply Kd.V_drewN | apply Kd.V_drew)); exact HO294.out) hb); replace HO301 := aM (rb HO301.out hb); replace HO307 := aM (rb HO307.out hb); replace BK295 := aM (bb BK295.out hb); replace BK303 := aM (bb BK303.out hb); replace BK309 := aM (bb BK309.out hb); replace HB := aM (bj HB.out hb); (try clear hb); obtain ⟨hcz54_0, hcz54_1, hfz54_0, hfz54_1⟩ := cf2 BK303.out) | (go_at_call 10; (with_reducible refine (impl_ResText.calls kj2 t298 _ _ t299 t312 _ ?side1 ?side2 A43.out (HTAB.out _ (by exact jB HB.out))).mono ?_); (case side1 => exact lC <| (Kd.R_reads' HO301.out).2.2); (case side2 => exact (Kd.R_reads' HO301.out).2.1); rintro e w55 ⟨rfl, hb⟩; replace HO294 := aM (Kd.V_below (by (with_reducible repeat (first | apply Kd.V_alloc | apply Kd.V_drewN | apply Kd.V_drew)); exact HO294.out) hb); replace HO301 := aM (rb HO301.out hb); replace HO307 := aM (rb HO307.out hb); replace BK295 := aM (bb BK295.out hb); replace BK303 := aM (bb BK303.out hb); replace BK309 := aM (bb BK309.out hb); replace HB := aM (bj HB.out hb); (try clear hb); obtain ⟨hcz56_0, hcz56_1, hfz56_0, hfz56_1⟩ := cf2 BK295.out) | (go_at_call 13; (with_reducible refine (impl_ResOk.calls kj2 t291 _ _ t292 t313 _ ?side1 ?side2 A45.out (HTAB.out _ (by exact jB HB.out))).mono ?_); (case side1 => exact lC <| (Kd.V_reads' HO294.out).2.2); (case side2 => exact (Kd.V_reads' HO294.out).2.1); rintro e w57 ⟨rfl, hb⟩; replace HO294 := aM (Kd.V_below (by (with_reducible repeat (first | apply Kd.V_alloc | apply Kd.V_drewN | apply Kd.V_drew)); exact HO294.out) hb); replace HO301 := aM (rb HO301.out hb); replace HO307 := aM (rb HO307.out hb); replace BK295 := aM (bb BK295.out hb); replace BK303 := aM (bb BK303.out hb); replace BK309 := aM (bb BK309.out hb); replace HB := aM (bj HB.out hb); (try clear hb)))
          go_meet
          case rel => exact ⟨_, ((t313 != (t296.toList != ([] : List UInt8)))), (by first | rfl | (simp; done) | (rw [show (t296.toList != ([] : List UInt8)) = !t296.toList.isEmpty from by cases t296.toList <;> rfl]; generalize t296.toList.isEmpty = z_; cases t313 <;> cases z_ <;> rfl)), H', ⟨by have := HJ2.out; first | omega | exact Nat.le_refl _⟩, ⟨by (with_reducible repeat (first | apply Kd.V_alloc | apply Kd.V_drewN | apply Kd.V_drew)); exact Kd.V_mono HO294.out (fun _ hk => ⟨hk.1.1.1.2, ⟨hk.1.1.1.1.2, ⟨hk.1.1.2, hk.2⟩⟩⟩)⟩, ⟨by exact lR <| Kd.R_mono HO301.out (fun _ hk => hk.2)⟩, ⟨by exact lR <| Kd.R_mono HO307.out (fun _ hk => hk.2)⟩, ⟨by exact lK <| BK295.out⟩, ⟨by exact lK <| BK303.out⟩, ⟨by exact lK <| BK309.out⟩, ⟨by exact jB HB.out⟩⟩
         ·rw [if_neg c44] at H
          have c44b0 := beq_eq_false_iff_ne.mpr c44
          have c44b1 := bne_iff_ne.mpr c44
          have H' := aM H
          clear H
          have hnb58 := NB295_303.out
          have hnc58 := NB303_295.out
          have hnb59 := NB295_309.out
          have hnc59 := NB309_295.out
          obtain ⟨hcz60_0, hcz60_1, hfz60_0, hfz60_1⟩ := cf2 BK295.out
          go_wp2_with (first | ((with_reducible refine gate_callee (f := 8) rfl ?_); refine gL (some 40) Tryd.func8 #[.agg #[.int .i64 t291, .slice Ao15 t292.length co15]] ?_; (with_reducible refine (spec_ResText.calls kj2 t291 _ _ t292 t310 _ ?side1 ?side2 A29.out).mono ?_); (case side1 => refine (Kd.V_reads' (e := 3) (base := w.heap.size) (ok := fun k_ => (((((True ∧ k_ ≠ gb295) ∧ some k_ ≠ ownBlock (.slice Ao22 t299.length co22)) ∧ k_ ≠ gb303) ∧ some k_ ≠ ownBlock (.slice Ao28 t305.length co28)) ∧ k_ ≠ gb309)) (n := t292.length) (c := co15) ?_).2.2; exact (by (with_reducible repeat (first | apply Kd.V_alloc | apply Kd.V_drewN | apply Kd.V_drew)); exact (Kd.V_mono (Kd.V_far (p := ⟨gb309, 1, none⟩) (Kd.V_far (p := ⟨gb309, 0, none⟩) (Kd.V_mono HO294.out (fun k_ hk => (⟨hk, hk.2⟩ : _ ∧ k_ ≠ gb309))) (fun _ hk => hk.2) (.int .i64 t304)) (fun _ hk => hk.2) (.slice Ao28 t305.length co28)) (fun _ h_ => h_.1)))); (case side2 => exact (Kd.V_reads' HO294.out).2.1); rintro e w61 ⟨rfl, hb⟩; refine ⟨_, rfl, ?_⟩; replace HO294 := aM (Kd.V_below (by (with_reducible repeat (first | apply Kd.V_alloc | apply Kd.V_drewN | apply Kd.V_drew)); exact (Kd.V_mono (Kd.V_far (p := ⟨gb309, 1, none⟩) (Kd.V_far (p := ⟨gb309, 0, none⟩) (Kd.V_mono HO294.out (fun k_ hk => (⟨hk, hk.2⟩ : _ ∧ k_ ≠ gb309))) (fun _ hk => hk.2) (.int .i64 t304)) (fun _ hk => hk.2) (.slice Ao28 t305.length co28)) (fun _ h_ => h_.1))) hb); replace HO301 := aM (Kd.R_below (qp (R2 HO301.out BK309.out)) hb); replace HO307 := aM (Kd.R_below (qp (R2 HO307.out BK309.out)) hb); replace BK295 := aM (blk_below (f2 (lK BK295.out) NB295_309.out) hb); replace BK303 := aM (blk_below (f2 (lK BK303.out) NB303_309.out) hb); replace BK309 := aM (blk_below (g := gb309) (o := .cells #[.int .i64 t304, .slice Ao28 t305.length co28] 27 (0, 0)) (by exact p2 (lK BK309.out)) hb); replace HB := aM (bj HB.out hb); (try clear hb); have hnb62 := NB303_309.out; have hnc62 := NB309_303.out; obtain ⟨hcz63_0, hcz63_1, hfz63_0, hfz63_1⟩ := cf2 BK303.out; obtain ⟨hcz64_0, hcz64_1, hfz64_0, hfz64_1⟩ := cf2 BK309.out) | (go_at_call 20; (with_reducible refine (laws_coRes.calls kj2 t298 _ _ t299 t304 _ _ t305 true _ ?side1 ?side2 ?side3 ?side4 A31.out).mono ?_); (case side1 => exact lC <| (Kd.R_reads' HO301.out).2.2); (case side2 => exact (Kd.R_reads' HO301.out).2.1); (case side3 => exact lC <| (Kd.R_reads' HO307.out).2.2); (case side4 => exact (Kd.R_reads' HO307.out).2.1); rintro e w65 ⟨rfl, hb⟩; replace HO294 := aM (Kd.V_below (by (with_reducible repeat (first | apply Kd.V_alloc | apply Kd.V_drewN | apply Kd.V_drew)); exact HO294.out) hb); replace HO301 := aM (rb HO301.out hb); replace HO307 := aM (rb HO307.out hb); replace BK295 := aM (bb BK295.out hb); replace BK303 := aM (bb BK303.out hb); replace BK309 := aM (bb BK309.out hb); replace HB := aM (bj HB.out hb); (try clear hb); obtain ⟨hcz66_0, hcz66_1, hfz66_0, hfz66_1⟩ := cf2 BK303.out) | (go_at_call 10; (with_reducible refine (impl_ResText.calls kj2 t298 _ _ t299 t312 _ ?side1 ?side2 A43.out (HTAB.out _ (by exact jB HB.out))).mono ?_); (case side1 => exact lC <| (Kd.R_reads' HO301.out).2.2); (case side2 => exact (Kd.R_reads' HO301.out).2.1); rintro e w67 ⟨rfl, hb⟩; replace HO294 := aM (Kd.V_below (by (with_reducible repeat (first | apply Kd.V_alloc | apply Kd.V_drewN | apply Kd.V_drew)); exact HO294.out) hb); replace HO301 := aM (rb HO301.out hb); replace HO307 := aM (rb HO307.out hb); replace BK295 := aM (bb BK295.out hb); replace BK303 := aM (bb BK303.out hb); replace BK309 := aM (bb BK309.out hb); replace HB := aM (bj HB.out hb); (try clear hb)))
          go_meet
          case rel => exact ⟨_, (true), (by first | rfl | (simp; done) | (simp [*]; done)), H', ⟨by have := HJ2.out; first | omega | exact Nat.le_refl _⟩, ⟨by (with_reducible repeat (first | apply Kd.V_alloc | apply Kd.V_drewN | apply Kd.V_drew)); exact Kd.V_mono HO294.out (fun _ hk => ⟨hk.1.1.1.2, ⟨hk.1.1.1.1.2, ⟨hk.1.1.2, hk.2⟩⟩⟩)⟩, ⟨by exact lR <| Kd.R_mono HO301.out (fun _ hk => hk.2)⟩, ⟨by exact lR <| Kd.R_mono HO307.out (fun _ hk => hk.2)⟩, ⟨by exact lK <| BK295.out⟩, ⟨by exact lK <| BK303.out⟩, ⟨by exact lK <| BK309.out⟩, ⟨by exact jB HB.out⟩⟩
        ·replace c42 := Bool.eq_false_iff.mpr c42
         subst c42
         rw [if_neg nf] at H
         try dsimp only at H
         obtain ⟨t314, A68, H⟩ := bS H
         try dsimp only at H
         have H' := aM H
         clear H
         have hnb69 := NB295_303.out
         have hnc69 := NB303_295.out
         have hnb70 := NB295_309.out
         have hnc70 := NB309_295.out
         obtain ⟨hcz71_0, hcz71_1, hfz71_0, hfz71_1⟩ := cf2 BK295.out
         go_wp2_with (first | ((with_reducible refine gate_callee (f := 8) rfl ?_); refine gL (some 40) Tryd.func8 #[.agg #[.int .i64 t291, .slice Ao15 t292.length co15]] ?_; (with_reducible refine (spec_ResText.calls kj2 t291 _ _ t292 t310 _ ?side1 ?side2 A29.out).mono ?_); (case side1 => refine (Kd.V_reads' (e := 3) (base := w.heap.size) (ok := fun k_ => (((((True ∧ k_ ≠ gb295) ∧ some k_ ≠ ownBlock (.slice Ao22 t299.length co22)) ∧ k_ ≠ gb303) ∧ some k_ ≠ ownBlock (.slice Ao28 t305.length co28)) ∧ k_ ≠ gb309)) (n := t292.length) (c := co15) ?_).2.2; exact (by (with_reducible repeat (first | apply Kd.V_alloc | apply Kd.V_drewN | apply Kd.V_drew)); exact (Kd.V_mono (Kd.V_far (p := ⟨gb309, 1, none⟩) (Kd.V_far (p := ⟨gb309, 0, none⟩) (Kd.V_mono HO294.out (fun k_ hk => (⟨hk, hk.2⟩ : _ ∧ k_ ≠ gb309))) (fun _ hk => hk.2) (.int .i64 t304)) (fun _ hk => hk.2) (.slice Ao28 t305.length co28)) (fun _ h_ => h_.1)))); (case side2 => exact (Kd.V_reads' HO294.out).2.1); rintro e w72 ⟨rfl, hb⟩; refine ⟨_, rfl, ?_⟩; replace HO294 := aM (Kd.V_below (by (with_reducible repeat (first | apply Kd.V_alloc | apply Kd.V_drewN | apply Kd.V_drew)); exact (Kd.V_mono (Kd.V_far (p := ⟨gb309, 1, none⟩) (Kd.V_far (p := ⟨gb309, 0, none⟩) (Kd.V_mono HO294.out (fun k_ hk => (⟨hk, hk.2⟩ : _ ∧ k_ ≠ gb309))) (fun _ hk => hk.2) (.int .i64 t304)) (fun _ hk => hk.2) (.slice Ao28 t305.length co28)) (fun _ h_ => h_.1))) hb); replace HO301 := aM (Kd.R_below (qp (R2 HO301.out BK309.out)) hb); replace HO307 := aM (Kd.R_below (qp (R2 HO307.out BK309.out)) hb); replace BK295 := aM (blk_below (f2 (lK BK295.out) NB295_309.out) hb); replace BK303 := aM (blk_below (f2 (lK BK303.out) NB303_309.out) hb); replace BK309 := aM (blk_below (g := gb309) (o := .cells #[.int .i64 t304, .slice Ao28 t305.length co28] 27 (0, 0)) (by exact p2 (lK BK309.out)) hb); replace HB := aM (bj HB.out hb); (try clear hb); have hnb73 := NB303_309.out; have hnc73 := NB309_303.out; obtain ⟨hcz74_0, hcz74_1, hfz74_0, hfz74_1⟩ := cf2 BK303.out; obtain ⟨hcz75_0, hcz75_1, hfz75_0, hfz75_1⟩ := cf2 BK309.out) | (go_at_call 20; (with_reducible refine (laws_coRes.calls kj2 t298 _ _ t299 t304 _ _ t305 true _ ?side1 ?side2 ?side3 ?side4 A31.out).mono ?_); (case side1 => exact lC <| (Kd.R_reads' HO301.out).2.2); (case side2 => exact (Kd.R_reads' HO301.out).2.1); (case side3 => exact lC <| (Kd.R_reads' HO307.out).2.2); (case side4 => exact (Kd.R_reads' HO307.out).2.1); rintro e w76 ⟨rfl, hb⟩; replace HO294 := aM (Kd.V_below (by (with_reducible repeat (first | apply Kd.V_alloc | apply Kd.V_drewN | apply Kd.V_drew)); exact HO294.out) hb); replace HO301 := aM (rb HO301.out hb); replace HO307 := aM (rb HO307.out hb); replace BK295 := aM (bb BK295.out hb); replace BK303 := aM (bb BK303.out hb); replace BK309 := aM (bb BK309.out hb); replace HB := aM (bj HB.out hb); (try clear hb); obtain ⟨hcz77_0, hcz77_1, hfz77_0, hfz77_1⟩ := cf2 BK295.out) | (go_at_call 13; (with_reducible refine (impl_ResOk.calls kj2 t291 _ _ t292 t314 _ ?side1 ?side2 A68.out (HTAB.out _ (by exact jB HB.out))).mono ?_); (case side1 => exact lC <| (Kd.V_reads' HO294.out).2.2); (case side2 => exact (Kd.V_reads' HO294.out).2.1); rintro e w78 ⟨rfl, hb⟩; replace HO294 := aM (Kd.V_below (by (with_reducible repeat (first | apply Kd.V_alloc | apply Kd.V_drewN | apply Kd.V_drew)); exact HO294.out) hb); replace HO301 := aM (rb HO301.out hb); replace HO307 := aM (rb HO307.out hb); replace BK295 := aM (bb BK295.out hb); replace BK303 := aM (bb BK303.out hb); replace BK309 := aM (bb BK309.out hb); replace HB := aM (bj HB.out hb); (try clear hb)))
         go_meet
         case rel => exact ⟨_, ((t314 != (t296.toList != ([] : List UInt8)))), (by first | rfl | (simp; done) | (rw [show (t296.toList != ([] : List UInt8)) = !t296.toList.isEmpty from by cases t296.toList <;> rfl]; generalize t296.toList.isEmpty = z_; cases t314 <;> cases z_ <;> rfl)), H', ⟨by have := HJ2.out; first | omega | exact Nat.le_refl _⟩, ⟨by (with_reducible repeat (first | apply Kd.V_alloc | apply Kd.V_drewN | apply Kd.V_drew)); exact Kd.V_mono HO294.out (fun _ hk => ⟨hk.1.1.1.2, ⟨hk.1.1.1.1.2, ⟨hk.1.1.2, hk.2⟩⟩⟩)⟩, ⟨by exact lR <| Kd.R_mono HO301.out (fun _ hk => hk.2)⟩, ⟨by exact lR <| Kd.R_mono HO307.out (fun _ hk => hk.2)⟩, ⟨by exact lK <| BK295.out⟩, ⟨by exact lK <| BK303.out⟩, ⟨by exact lK <| BK309.out⟩, ⟨by exact jB HB.out⟩⟩
      ·replace c32 := Bool.eq_false_iff.mpr c32
       subst c32
       rw [if_neg nf] at H
       try dsimp only at H
       have H' := aM H
       clear H
       have hnb79 := NB295_303.out
       have hnc79 := NB303_295.out
       have hnb80 := NB295_309.out
       have hnc80 := NB309_295.out
       obtain ⟨hcz81_0, hcz81_1, hfz81_0, hfz81_1⟩ := cf2 BK295.out
       go_wp2_with (first | ((with_reducible refine gate_callee (f := 8) rfl ?_); refine gL (some 40) Tryd.func8 #[.agg #[.int .i64 t291, .slice Ao15 t292.length co15]] ?_; (with_reducible refine (spec_ResText.calls kj2 t291 _ _ t292 t310 _ ?side1 ?side2 A29.out).mono ?_); (case side1 => refine (Kd.V_reads' (e := 3) (base := w.heap.size) (ok := fun k_ => (((((True ∧ k_ ≠ gb295) ∧ some k_ ≠ ownBlock (.slice Ao22 t299.length co22)) ∧ k_ ≠ gb303) ∧ some k_ ≠ ownBlock (.slice Ao28 t305.length co28)) ∧ k_ ≠ gb309)) (n := t292.length) (c := co15) ?_).2.2; exact (by (with_reducible repeat (first | apply Kd.V_alloc | apply Kd.V_drewN | apply Kd.V_drew)); exact (Kd.V_mono (Kd.V_far (p := ⟨gb309, 1, none⟩) (Kd.V_far (p := ⟨gb309, 0, none⟩) (Kd.V_mono HO294.out (fun k_ hk => (⟨hk, hk.2⟩ : _ ∧ k_ ≠ gb309))) (fun _ hk => hk.2) (.int .i64 t304)) (fun _ hk => hk.2) (.slice Ao28 t305.length co28)) (fun _ h_ => h_.1)))); (case side2 => exact (Kd.V_reads' HO294.out).2.1); rintro e w82 ⟨rfl, hb⟩; refine ⟨_, rfl, ?_⟩; replace HO294 := aM (Kd.V_below (by (with_reducible repeat (first | apply Kd.V_alloc | apply Kd.V_drewN | apply Kd.V_drew)); exact (Kd.V_mono (Kd.V_far (p := ⟨gb309, 1, none⟩) (Kd.V_far (p := ⟨gb309, 0, none⟩) (Kd.V_mono HO294.out (fun k_ hk => (⟨hk, hk.2⟩ : _ ∧ k_ ≠ gb309))) (fun _ hk => hk.2) (.int .i64 t304)) (fun _ hk => hk.2) (.slice Ao28 t305.length co28)) (fun _ h_ => h_.1))) hb); replace HO301 := aM (Kd.R_below (qp (R2 HO301.out BK309.out)) hb); replace HO307 := aM (Kd.R_below (qp (R2 HO307.out BK309.out)) hb); replace BK295 := aM (blk_below (f2 (lK BK295.out) NB295_309.out) hb); replace BK303 := aM (blk_below (f2 (lK BK303.out) NB303_309.out) hb); replace BK309 := aM (blk_below (g := gb309) (o := .cells #[.int .i64 t304, .slice Ao28 t305.length co28] 27 (0, 0)) (by exact p2 (lK BK309.out)) hb); replace HB := aM (bj HB.out hb); (try clear hb); have hnb83 := NB303_309.out; have hnc83 := NB309_303.out; obtain ⟨hcz84_0, hcz84_1, hfz84_0, hfz84_1⟩ := cf2 BK303.out; obtain ⟨hcz85_0, hcz85_1, hfz85_0, hfz85_1⟩ := cf2 BK309.out) | (go_at_call 20; (with_reducible refine (laws_coRes.calls kj2 t298 _ _ t299 t304 _ _ t305 false _ ?side1 ?side2 ?side3 ?side4 A31.out).mono ?_); (case side1 => exact lC <| (Kd.R_reads' HO301.out).2.2); (case side2 => exact (Kd.R_reads' HO301.out).2.1); (case side3 => exact lC <| (Kd.R_reads' HO307.out).2.2); (case side4 => exact (Kd.R_reads' HO307.out).2.1); rintro e w86 ⟨rfl, hb⟩; replace HO294 := aM (Kd.V_below (by (with_reducible repeat (first | apply Kd.V_alloc | apply Kd.V_drewN | apply Kd.V_drew)); exact HO294.out) hb); replace HO301 := aM (rb HO301.out hb); replace HO307 := aM (rb HO307.out hb); replace BK295 := aM (bb BK295.out hb); replace BK303 := aM (bb BK303.out hb); replace BK309 := aM (bb BK309.out hb); replace HB := aM (bj HB.out hb); (try clear hb)))
       go_meet
       case rel => exact ⟨_, (true), (by first | rfl | (simp; done) | (simp [*]; done)), H', ⟨by have := HJ2.out; first | omega | exact Nat.le_refl _⟩, ⟨by (with_reducible repeat (first | apply Kd.V_alloc | apply Kd.V_drewN | apply Kd.V_drew)); exact Kd.V_mono HO294.out (fun _ hk => ⟨hk.1.1.1.2, ⟨hk.1.1.1.1.2, ⟨hk.1.1.2, hk.2⟩⟩⟩)⟩, ⟨by exact lR <| Kd.R_mono HO301.out (fun _ hk => hk.2)⟩, ⟨by exact lR <| Kd.R_mono HO307.out (fun _ hk => hk.2)⟩, ⟨by exact lK <| BK295.out⟩, ⟨by exact lK <| BK303.out⟩, ⟨by exact lK <| BK309.out⟩, ⟨by exact jB HB.out⟩⟩
     ·rw [if_neg c30] at H
      have c30b0 := beq_eq_false_iff_ne.mpr c30
      have c30b1 := bne_iff_ne.mpr c30
      (first | rw [c30b0] | (simp only [i64_w, i32_w]; rw [c30b0]) | rw [c30b1] | skip)
      have H' := aM H
      clear H
      have hnb87 := NB295_303.out
      have hnc87 := NB303_295.out
      have hnb88 := NB295_309.out
      have hnc88 := NB309_295.out
      obtain ⟨hcz89_0, hcz89_1, hfz89_0, hfz89_1⟩ := cf2 BK295.out
      go_wp2_with (first | ((with_reducible refine gate_callee (f := 8) rfl ?_); refine gL (some 40) Tryd.func8 #[.agg #[.int .i64 t291, .slice Ao15 t292.length co15]] ?_; (with_reducible refine (spec_ResText.calls kj2 t291 _ _ t292 t310 _ ?side1 ?side2 A29.out).mono ?_); (case side1 => refine (Kd.V_reads' (e := 3) (base := w.heap.size) (ok := fun k_ => (((((True ∧ k_ ≠ gb295) ∧ some k_ ≠ ownBlock (.slice Ao22 t299.length co22)) ∧ k_ ≠ gb303) ∧ some k_ ≠ ownBlock (.slice Ao28 t305.length co28)) ∧ k_ ≠ gb309)) (n := t292.length) (c := co15) ?_).2.2; exact (by (with_reducible repeat (first | apply Kd.V_alloc | apply Kd.V_drewN | apply Kd.V_drew)); exact (Kd.V_mono (Kd.V_far (p := ⟨gb309, 1, none⟩) (Kd.V_far (p := ⟨gb309, 0, none⟩) (Kd.V_mono HO294.out (fun k_ hk => (⟨hk, hk.2⟩ : _ ∧ k_ ≠ gb309))) (fun _ hk => hk.2) (.int .i64 t304)) (fun _ hk => hk.2) (.slice Ao28 t305.length co28)) (fun _ h_ => h_.1)))); (case side2 => exact (Kd.V_reads' HO294.out).2.1); rintro e w90 ⟨rfl, hb⟩; refine ⟨_, rfl, ?_⟩; replace HO294 := aM (Kd.V_below (by (with_reducible repeat (first | apply Kd.V_alloc | apply Kd.V_drewN | apply Kd.V_drew)); exact (Kd.V_mono (Kd.V_far (p := ⟨gb309, 1, none⟩) (Kd.V_far (p := ⟨gb309, 0, none⟩) (Kd.V_mono HO294.out (fun k_ hk => (⟨hk, hk.2⟩ : _ ∧ k_ ≠ gb309))) (fun _ hk => hk.2) (.int .i64 t304)) (fun _ hk => hk.2) (.slice Ao28 t305.length co28)) (fun _ h_ => h_.1))) hb); replace HO301 := aM (Kd.R_below (qp (R2 HO301.out BK309.out)) hb); replace HO307 := aM (Kd.R_below (qp (R2 HO307.out BK309.out)) hb); replace BK295 := aM (blk_below (f2 (lK BK295.out) NB295_309.out) hb); replace BK303 := aM (blk_below (f2 (lK BK303.out) NB303_309.out) hb); replace BK309 := aM (blk_below (g := gb309) (o := .cells #[.int .i64 t304, .slice Ao28 t305.length co28] 27 (0, 0)) (by exact p2 (lK BK309.out)) hb); replace HB := aM (bj HB.out hb); (try clear hb)))
      go_meet
      case rel => exact ⟨_, (true), (by first | rfl | (simp; done) | (simp [*]; done)), H', ⟨by have := HJ2.out; first | omega | exact Nat.le_refl _⟩, ⟨by (with_reducible repeat (first | apply Kd.V_alloc | apply Kd.V_drewN | apply Kd.V_drew)); exact Kd.V_mono HO294.out (fun _ hk => ⟨hk.1.1.1.2, ⟨hk.1.1.1.1.2, ⟨hk.1.1.2, hk.2⟩⟩⟩)⟩, ⟨by exact lR <| Kd.R_mono HO301.out (fun _ hk => hk.2)⟩, ⟨by exact lR <| Kd.R_mono HO307.out (fun _ hk => hk.2)⟩, ⟨by exact lK <| BK295.out⟩, ⟨by exact lK <| BK303.out⟩, ⟨by exact lK <| BK309.out⟩, ⟨by exact jB HB.out⟩⟩
    case rest =>
     clear HC11
     try clear c1
     try clear c2
     try clear p2
     try clear c3
     try clear c4
     try clear c4b0
     try clear c4b1
     try clear c5
     try clear c6
     try clear c7
     try clear c8
     try clear c10
     try clear c14
     try clear c15
     try clear c18
     try clear c19
     try clear c20
     try clear c25
     try clear c26
     try clear c30
     try clear c30b0
     try clear c30b1
     try clear c32
     try clear c33
     try clear c33b0
     try clear c33b1
     try clear c33b2
     try clear c34
     try clear c35
     try clear c38
     try clear c42
     try clear c44
     try clear c44b0
     try clear c44b1
     try clear c46
     try clear c47
     try clear c50
     try clear c58
     try clear c59
     try clear c62
     try clear c69
     try clear c70
     try clear c73
     try clear c79
     try clear c80
     try clear c83
     try clear c87
     try clear c88
     try clear hcz14_0
     try clear hcz14_1
     try clear hcz21_0
     try clear hcz21_1
     try clear hcz27_0
     try clear hcz27_1
     try clear hcz36_0
     try clear hcz36_1
     try clear hcz39_0
     try clear hcz39_1
     try clear hcz40_0
     try clear hcz40_1
     try clear hcz48_0
     try clear hcz48_1
     try clear hcz51_0
     try clear hcz51_1
     try clear hcz52_0
     try clear hcz52_1
     try clear hcz54_0
     try clear hcz54_1
     try clear hcz56_0
     try clear hcz56_1
     try clear hcz60_0
     try clear hcz60_1
     try clear hcz63_0
     try clear hcz63_1
     try clear hcz64_0
     try clear hcz64_1
     try clear hcz66_0
     try clear hcz66_1
     try clear hcz71_0
     try clear hcz71_1
     try clear hcz74_0
     try clear hcz74_1
     try clear hcz75_0
     try clear hcz75_1
     try clear hcz77_0
     try clear hcz77_1
     try clear hcz81_0
     try clear hcz81_1
     try clear hcz84_0
     try clear hcz84_1
     try clear hcz85_0
     try clear hcz85_1
     try clear hcz89_0
     try clear hcz89_1
     try clear hfz14_0
     try clear hfz14_1
     try clear hfz21_0
     try clear hfz21_1
     try clear hfz27_0
     try clear hfz27_1
     try clear hfz36_0
     try clear hfz36_1
     try clear hfz39_0
     try clear hfz39_1
     try clear hfz40_0
     try clear hfz40_1
     try clear hfz48_0
     try clear hfz48_1
     try clear hfz51_0
     try clear hfz51_1
     try clear hfz52_0
     try clear hfz52_1
     try clear hfz54_0
     try clear hfz54_1
     try clear hfz56_0
     try clear hfz56_1
     try clear hfz60_0
     try clear hfz60_1
     try clear hfz63_0
     try clear hfz63_1
     try clear hfz64_0
     try clear hfz64_1
     try clear hfz66_0
     try clear hfz66_1
     try clear hfz71_0
     try clear hfz71_1
     try clear hfz74_0
     try clear hfz74_1
     try clear hfz75_0
     try clear hfz75_1
     try clear hfz77_0
     try clear hfz77_1
     try clear hfz81_0
     try clear hfz81_1
     try clear hfz84_0
     try clear hfz84_1
     try clear hfz85_0
     try clear hfz85_1
     try clear hfz89_0
     try clear hfz89_1
     try clear p2
     obtain ⟨kq, x68_10, rfl, HA, HJ10, HO_296001, HO_304001, HO_310001, BK295, BK303, BK309, HB⟩ := hcut
     cases kq with
     | zero => exact absurd HA.out (by simp [laws_FnResText.j1])
     | succ kj10 =>
      have H := HA.out
      clear HA
      simp only [laws_FnResText.j1] at H
      by_cases c91 : x68_10 = true
      ·subst c91
       rw [if_pos rfl] at H
       try dsimp only at H
       exact absurd (Option.some.inj H) (by rw [hr.out]; decide)
      ·replace c91 := Bool.eq_false_iff.mpr c91
       subst c91
       rw [if_neg nf] at H
       try dsimp only at H
       by_cases c92 : t296.toList = ([] : List UInt8)
       ·rw [if_pos c92] at H
        have c92b0 := beq_iff_eq.mpr c92
        have c92b1 := bne_eq_false_iff_eq.mpr c92
        clear c92
        obtain ⟨t315, A93, H⟩ := bS H
        try dsimp only at H
        obtain rfl := Option.some.inj H
        go_wp2_with (first | ((with_reducible refine gate_callee (f := 10) rfl ?_); refine gL (some 72) Tryd.func10 #[.agg #[.int .i64 2, .slice none 0 0]] ?_; (refine (impl_ResText.calls kj10 2 _ _ ([] : List Int) t315 _ ?side1 ?side2 A93.out (HTAB.out _ (by exact jB HB.out))).mono ?_); (case side1 => exact Kd.C_nil _ _); (case side2 => exact Nat.le_refl _); rintro e w94 ⟨rfl, hb⟩; refine ⟨_, rfl, ?_⟩; replace BK295 := aM (bb BK295.out hb); replace BK303 := aM (bb BK303.out hb); replace BK309 := aM (bb BK309.out hb); replace HB := aM (bj HB.out hb); (try clear hb)))
        go_ret
        exact ⟨er, by exact jB HB.out⟩
       ·rw [if_neg c92] at H
        have c92b0 := beq_eq_false_iff_ne.mpr c92
        have c92b1 := bne_iff_ne.mpr c92
        obtain ⟨⟨t316, t317, t320⟩, A95, H⟩ := bS H
        try dsimp only at H
        by_cases c96 : t320 = true
        ·subst c96
         rw [if_pos rfl] at H
         try dsimp only at H
         obtain ⟨t322, A97, H⟩ := bS H
         try dsimp only at H
         obtain rfl := Option.some.inj H
         replace HO_296001 := aM (Kd.V_mono (ok' := fun k_ => (k_ ≠ gb295 ∧ (k_ ≠ gb303 ∧ k_ ≠ gb309))) HO_296001.out (fun _ hk => ⟨hk.2.1, ⟨hk.2.2.1, hk.2.2.2⟩⟩))
         go_wp2_with (first | ((with_reducible refine gate_callee (f := 15) rfl ?_); refine gL (some 76) Tryd.func15 #[.string t296] ?_; (with_reducible refine (impl_ResRead.calls kj10 t296 t316 t317 true _ A95.out (HTAB.out _ (by exact jB HB.out))).mono ?_); rintro e w98 ⟨v318, rfl, ho0, hb⟩; refine ⟨_, rfl, ?_⟩; replace HO_296001 := aM (Kd.V_elder' (by (with_reducible repeat (first | apply Kd.V_alloc | apply Kd.V_drewN | apply Kd.V_drew)); exact HO_296001.out) (Kd.R_base ho0) hb); have HO319 := aM (Kd.R_lower ho0 (below_size (by exact jB HB.out))); replace BK295 := aM (bb BK295.out hb); replace BK303 := aM (bb BK303.out hb); replace BK309 := aM (bb BK309.out hb); replace HB := aM (bj HB.out hb); (try clear hb); (try clear ho0)) | ((with_reducible refine gate_dst (N := 12) rfl ?_); (try (refine gate_guard (by rfl) ?_; dsimp only)); refine bx 12 #[.int .i64 0, .slice none 0 0] 27 ?_; intro gb321 hg w99 hbox hb; replace HO_296001 := aM (Kd.V_below (Kd.V_elderB (by (with_reducible repeat (first | apply Kd.V_alloc | apply Kd.V_drewN | apply Kd.V_drew)); exact HO_296001.out) gb321 (Nat.le_of_eq hg.symm)) hb); replace HO319 := aM (rb HO319.out hb); have BK321 := aM (hbox); have GW321 := aM ((gz hg HB.out)); have IGW321 : Nonempty _ := ⟨GW321.out⟩; have GE321 := aM ((gz hg HB.out)); have IGE321 : Nonempty _ := ⟨GE321.out⟩; replace HB := aM (bj HB.out hb); have NB295_321 := aM ((neL hg (lK BK295.out) : gb295 ≠ gb321)); have NB321_295 := aM ((neG hg (lK BK295.out) : gb321 ≠ gb295)); replace BK295 := aM (bb BK295.out hb); have NB303_321 := aM ((neL hg (lK BK303.out) : gb303 ≠ gb321)); have NB321_303 := aM ((neG hg (lK BK303.out) : gb321 ≠ gb303)); replace BK303 := aM (bb BK303.out hb); have NB309_321 := aM ((neL hg (lK BK309.out) : gb309 ≠ gb321)); have NB321_309 := aM ((neG hg (lK BK309.out) : gb321 ≠ gb309)); replace BK309 := aM (bb BK309.out hb); clear hb hbox hg; have hnb100 := NB321_295.out; have hnc100 := NB295_321.out; have hnb101 := NB321_303.out; have hnc101 := NB303_321.out; have hnb102 := NB321_309.out; have hnc102 := NB309_321.out; obtain ⟨hcz103_0, hcz103_1, hfz103_0, hfz103_1⟩ := cf2 BK321.out; obtain ⟨Ao104, co104, eo104⟩ := Kd.R_slice HO319.out; subst eo104; have hnb105 := NB295_303.out; have hnc105 := NB303_295.out; have hnb106 := NB295_309.out; have hnc106 := NB309_295.out; obtain ⟨hcz107_0, hcz107_1, hfz107_0, hfz107_1⟩ := cf2 BK295.out) | (go_at_call 20; (with_reducible refine (laws_coRes.calls kj10 t316 _ _ t317 t291 _ _ t292 t322 _ ?side1 ?side2 ?side3 ?side4 A97.out).mono ?_); (case side1 => refine (Kd.R_reads' (e := 3) (base := w.heap.size) (ok := fun k_ => True) (n := t317.length) (c := co104) ?_).2.2; exact (qp (R2 HO319.out BK321.out))); (case side2 => exact (Kd.R_reads' HO319.out).2.1); (case side3 => refine (Kd.V_reads' (e := 3) (base := w.heap.size) (ok := fun k_ => (((k_ ≠ gb295 ∧ (k_ ≠ gb303 ∧ k_ ≠ gb309)) ∧ some k_ ≠ ownBlock (.slice Ao104 t317.length co104)) ∧ k_ ≠ gb321)) (n := t292.length) (c := co15) ?_).2.2; exact (by (with_reducible repeat (first | apply Kd.V_alloc | apply Kd.V_drewN | apply Kd.V_drew)); exact (Kd.V_mono (Kd.V_far (p := ⟨gb321, 1, none⟩) (Kd.V_far (p := ⟨gb321, 0, none⟩) (Kd.V_mono HO_296001.out (fun k_ hk => (⟨hk, hk.2⟩ : _ ∧ k_ ≠ gb321))) (fun _ hk => hk.2) (.int .i64 t316)) (fun _ hk => hk.2) (.slice Ao104 t317.length co104)) (fun _ h_ => h_.1)))); (case side4 => exact (Kd.V_reads' HO_296001.out).2.1); rintro e w108 ⟨rfl, hb⟩; replace HO_296001 := aM (Kd.V_below (by (with_reducible repeat (first | apply Kd.V_alloc | apply Kd.V_drewN | apply Kd.V_drew)); exact (Kd.V_mono (Kd.V_far (p := ⟨gb321, 1, none⟩) (Kd.V_far (p := ⟨gb321, 0, none⟩) (Kd.V_mono HO_296001.out (fun k_ hk => (⟨hk, hk.2⟩ : _ ∧ k_ ≠ gb321))) (fun _ hk => hk.2) (.int .i64 t316)) (fun _ hk => hk.2) (.slice Ao104 t317.length co104)) (fun _ h_ => h_.1))) hb); replace HO319 := aM (Kd.R_below (qp (R2 HO319.out BK321.out)) hb); replace BK295 := aM (blk_below (f2 (lK BK295.out) NB295_321.out) hb); replace BK303 := aM (blk_below (f2 (lK BK303.out) NB303_321.out) hb); replace BK309 := aM (blk_below (f2 (lK BK309.out) NB309_321.out) hb); replace BK321 := aM (blk_below (g := gb321) (o := .cells #[.int .i64 t316, .slice Ao104 t317.length co104] 27 (0, 0)) (by exact p2 (lK BK321.out)) hb); replace HB := aM (bj HB.out hb); (try clear hb)))
         go_ret
         exact ⟨er, by exact jB HB.out⟩
        ·replace c96 := Bool.eq_false_iff.mpr c96
         subst c96
         rw [if_neg nf] at H
         try dsimp only at H
         exact absurd (Option.some.inj H) (by rw [hr.out]; decide)

/-- THE ONE PURE STATEMENT of laws_FnResText. -/
def laws_FnResText.Pure : Prop := ∀ (l0 : List Int) (l1 : List Int), (l0.length ≤ 9223372036854775807 ∧ ∀ x0 ∈ l0, (Lit.int .u8 x0).wf = true) → (l1.length ≤ 9223372036854775807 ∧ ∀ x1 ∈ l1, (Lit.int .u8 x1).wf = true) → ∃ k, laws_FnResText.f k l0 l1 = some true
theorem laws_FnResText.walk (P : laws_FnResText.Pure) (A0 : Option Addr) (c0 : Nat) (l0 : List Int) (A1 : Option Addr) (c1 : Nat) (l1 : List Int) (w : World) (hr0 : Kd.C (Kd.int .u8) w A0 l0.length l0) (hc0 : l0.length ≤ c0) (hr1 : Kd.C (Kd.int .u8) w A1 l1.length l1) (hc1 : l1.length ≤ c1) (hw0 : (l0.length ≤ 9223372036854775807 ∧ ∀ x0 ∈ l0, (Lit.int .u8 x0).wf = true)) (hw1 : (l1.length ≤ 9223372036854775807 ∧ ∀ x1 ∈ l1, (Lit.int .u8 x1).wf = true)) (htab : Tryd.TB w) :
  Calls Tryd.prog 6 #[.slice A0 l0.length c0, .slice A1 l1.length c1] w fun e w' => e = .returned (.bool true) ∧ Below w.heap.size w w' := by
 obtain ⟨k, h⟩ := P l0 l1 hw0 hw1
 refine (laws_FnResText.calls k A0 c0 l0 A1 c1 l1 true w ⟨rfl⟩ hr0 hc0 hr1 hc1 h htab).mono ?_
 rintro e w' ⟨rfl, hd⟩
 exact ⟨rfl, hd⟩

end Go.Proofs.YtcafmfmlnfaogaaDoor.QFnResText

-- shorter
