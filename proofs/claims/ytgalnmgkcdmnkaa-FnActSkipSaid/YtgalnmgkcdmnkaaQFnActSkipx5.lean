/- Plain functions, and that the Go code computes them: written by a program of this session over the seat's translation; the conditions stand in each theorem. -/
import Derived.Test.YtgalnmgkcdmnkaaQFnActSkipx0
import Derived.Test.YtgalnmgkcdmnkaaQFnActSkipx1
import Derived.Test.YtgalnmgkcdmnkaaQFnActSkipx2
import Derived.Test.YtgalnmgkcdmnkaaQFnActSkipx4
namespace Go.Proofs.Ytgalnmgkcdmnkaa.QFnActSkip
open Go.RowKit Go.Proofs.YtgalnmgkcdmnkaaW.PrintWords Go.Proofs.YtgalnmgkcdmnkaaW.PrintLast Go.Proofs.YtgalnmgkcdmnkaaW.PrintMore Go.Proofs.Ytgalnmgkcdmnkaa.HWords
open Value (ownBlock)
attribute [local go_sem] max2_int min2_int max_two min_two max_three min_three max_four min_four   -- for this text's walks alone
set_option linter.unusedVariables false
set_option linter.unusedSimpArgs false

/-! ### spec_l20Act: function 53 -/
mutual
def spec_l20Act.j0 : Nat → Int → Int → Bool → List Int → Int → Option ((List (S45)) × Int)
 | 0, _, _, _, _, _ => none
 | k + 1, x3, x10, x11, x1000, x1001 => if x11 = true then ((spec_l20Num.f (-1) 0 0).bind fun bt234 => ((spec_l20With.f bt234.1 bt234.2.1 bt234.2.2 x3 1).bind fun bt241 => ((spec_l20Num.f (-1) 0 0).bind fun bt248 => ((spec_l20Num.f 1 0 0).bind fun bt255 => ((spec_l20Num.f 1 0 (-9)).bind fun bt262 => (some ((([(⟨1, 0, 2, (⟨bt241.1, bt241.2.1, bt241.2.2⟩ : S43)⟩ : S45), (⟨2, x3, 0, (⟨bt248.1, bt248.2.1, bt248.2.2⟩ : S43)⟩ : S45), (⟨3, 0, 0, (⟨bt255.1, bt255.2.1, bt255.2.2⟩ : S43)⟩ : S45), (⟨1, 0, 1, (⟨bt262.1, bt262.2.1, bt262.2.2⟩ : S43)⟩ : S45), (⟨4, 0, 0, (⟨([] : List Int), ([] : List Int), 0⟩ : S43)⟩ : S45)] : List (S45))), x1001))))))) else (if x10 = 2 then ((spec_l20Num.f 1 0 0).bind fun bt272 => (some ((([(⟨2, x3, 0, (⟨bt272.1, bt272.2.1, bt272.2.2⟩ : S43)⟩ : S45)] : List (S45))), x1001))) else (if x10 = 3 then ((spec_l20Num.f (-1) 0 0).bind fun bt282 => ((spec_l20With.f bt282.1 bt282.2.1 bt282.2.2 x3 1).bind fun bt289 => ((spec_l20Num.f (-1) 0 0).bind fun bt296 => ((spec_l20Num.f 1 0 0).bind fun bt303 => (some ((([(⟨1, 0, 2, (⟨bt289.1, bt289.2.1, bt289.2.2⟩ : S43)⟩ : S45), (⟨2, x3, 0, (⟨bt296.1, bt296.2.1, bt296.2.2⟩ : S43)⟩ : S45), (⟨2, wrap64 (1 - x3), 0, (⟨bt303.1, bt303.2.1, bt303.2.2⟩ : S43)⟩ : S45)] : List (S45))), x1001)))))) else (if x10 = 4 then ((spec_l20Num.f 0 0 0).bind fun bt313 => ((spec_l20With.f bt313.1 bt313.2.1 bt313.2.2 2 1).bind fun bt320 => (some ((([(⟨3, 0, 0, (⟨bt320.1, bt320.2.1, bt320.2.2⟩ : S43)⟩ : S45)] : List (S45))), x1001)))) else (if x10 = 5 then ((spec_l20Num.f 0 1 5).bind fun bt330 => ((spec_l20With.f bt330.1 bt330.2.1 bt330.2.2 0 1).bind fun bt337 => ((spec_l20With.f bt337.1 bt337.2.1 bt337.2.2 1 (-1)).bind fun bt344 => ((spec_l20Num.f 0 0 1).bind fun bt351 => (some ((([(⟨1, 0, 1, (⟨bt344.1, bt344.2.1, bt344.2.2⟩ : S43)⟩ : S45), (⟨2, 2, 0, (⟨bt351.1, bt351.2.1, bt351.2.2⟩ : S43)⟩ : S45)] : List (S45))), x1001)))))) else ((spec_l20Rd_pick.f k x1000 x1001 5).bind fun bt364 => (spec_l20Act.l0 k (([] : List (S45))) (wrap64 (1 + bt364.1)) x1000 bt364.2))))))
def spec_l20Act.l0 : Nat → List (S45) → Int → List Int → Int → Option ((List (S45)) × Int)
 | 0, _, _, _, _ => none
 | k + 1, x4, x5, x1000, x1001 => if x5 > 0 then ((spec_l20Line.f k x1000 x1001).bind fun bt366 => ((some (([] : List (S45)) : List (S45))).bind fun y378 => (if y378.length + x4.length < 1759218604441 then ((some (y378 ++ x4 : List (S45))).bind fun y381 => ((some (([(⟨bt366.1, bt366.2.1, bt366.2.2.1, (⟨bt366.2.2.2.1, bt366.2.2.2.2.1, bt366.2.2.2.2.2.1⟩ : S43)⟩ : S45)] : List (S45)) : List (S45))).bind fun y384 => (if y381.length + y384.length < 1759218604441 then ((spec_ActOk.f k (y381 ++ y384)).bind fun t390 => (if t390 = true then ((some (([(⟨bt366.1, bt366.2.1, bt366.2.2.1, (⟨bt366.2.2.2.1, bt366.2.2.2.2.1, bt366.2.2.2.2.2.1⟩ : S43)⟩ : S45)] : List (S45)) : List (S45))).bind fun y391 => (if x4.length + y391.length < 1759218604441 then (spec_l20Act.l0 k (x4 ++ y391) (wrap64 (x5 - 1)) x1000 bt366.2.2.2.2.2.2) else (none))) else (spec_l20Act.l0 k x4 (wrap64 (x5 - 1)) x1000 bt366.2.2.2.2.2.2))) else (none)))) else (none)))) else (some (x4, x1001))
end
def spec_l20Act.f (k : Nat) (s0_0 : List Int) (s0_1 : Int) : Option ((List (S45)) × Int) := (spec_l20Rd_pick.f k s0_0 s0_1 2).bind fun bt230 => ((spec_l20Rd_pick.f k s0_0 bt230.2 8).bind fun bt232 => (if bt232.1 = 0 then (spec_l20Act.j0 k bt230.1 bt232.1 (bt232.1 == 0) s0_0 bt232.2) else (spec_l20Act.j0 k bt230.1 bt232.1 (bt232.1 == 1) s0_0 bt232.2)))
theorem spec_l20Act.mono_l : ∀ k, (∀ y0 y1 y2 y3 y4, LeO (spec_l20Act.j0 k y0 y1 y2 y3 y4) (spec_l20Act.j0 (k + 1) y0 y1 y2 y3 y4)) ∧ (∀ y0 y1 y2 y3, LeO (spec_l20Act.l0 k y0 y1 y2 y3) (spec_l20Act.l0 (k + 1) y0 y1 y2 y3))
 | 0 => ⟨fun _ _ _ _ _ r h => by simp [spec_l20Act.j0] at h, fun _ _ _ _ r h => by simp [spec_l20Act.l0] at h⟩
 | k + 1 => by
  obtain ⟨ih0, ih1⟩ := spec_l20Act.mono_l k
  refine ⟨?_, ?_⟩
  ·intro y0 y1 y2 y3 y4
   unfold spec_l20Act.j0
   repeat' first
   | (with_reducible exact ih0 _ _ _ _ _)
   | (with_reducible exact ih1 _ _ _ _)
   | (with_reducible exact spec_ActOk.mono _ _)
   | (with_reducible exact spec_l20Line.mono _ _ _)
   | (with_reducible exact spec_l20Rd_pick.mono _ _ _ _)
   | (with_reducible exact LeO.refl _)
   | (with_reducible exact LeO.none _)
   | (with_reducible refine LeO.ite ?_ ?_)
   | (with_reducible refine LeO.bind ?_ (fun _ => ?_))
   | exact LeO.none _
   | refine LeO.ite ?_ ?_
   | refine LeO.bind ?_ (fun _ => ?_)
  ·intro y0 y1 y2 y3
   unfold spec_l20Act.l0
   repeat' first
   | (with_reducible exact ih0 _ _ _ _ _)
   | (with_reducible exact ih1 _ _ _ _)
   | (with_reducible exact spec_ActOk.mono _ _)
   | (with_reducible exact spec_l20Line.mono _ _ _)
   | (with_reducible exact spec_l20Rd_pick.mono _ _ _ _)
   | (with_reducible exact LeO.refl _)
   | (with_reducible exact LeO.none _)
   | (with_reducible refine LeO.ite ?_ ?_)
   | (with_reducible refine LeO.bind ?_ (fun _ => ?_))
   | exact LeO.none _
   | refine LeO.ite ?_ ?_
   | refine LeO.bind ?_ (fun _ => ?_)
theorem spec_l20Act.mono : ∀ a0 a1 k, LeO (spec_l20Act.f k a0 a1) (spec_l20Act.f (k + 1) a0 a1) := by
 intro a0 a1 k
 obtain ⟨ih0, ih1⟩ := spec_l20Act.mono_l k
 unfold spec_l20Act.f
 repeat' first
   | (with_reducible exact ih0 _ _ _ _ _)
   | (with_reducible exact ih1 _ _ _ _)
   | (with_reducible exact spec_ActOk.mono _ _)
   | (with_reducible exact spec_l20Line.mono _ _ _)
   | (with_reducible exact spec_l20Rd_pick.mono _ _ _ _)
   | (with_reducible exact LeO.refl _)
   | (with_reducible exact LeO.none _)
   | (with_reducible refine LeO.ite ?_ ?_)
   | (with_reducible refine LeO.bind ?_ (fun _ => ?_))
   | exact LeO.none _
   | refine LeO.ite ?_ ?_
   | refine LeO.bind ?_ (fun _ => ?_)
set_option maxHeartbeats 8000000 in
set_option maxRecDepth 100000 in
theorem spec_l20Act.calls (k : Nat) (g : Nat) (s0_0 : List Int) (s0_1 : Int) (r1 : List (S45)) (r2 : Int) (w0 w : World) (hI : IsS69 w0 w g s0_0 s0_1) (hB : Below w0.heap.size w0 w) (h : spec_l20Act.f k s0_0 s0_1 = some (r1, r2)) :
  Calls Try.prog 53 #[.pointer (some ⟨g, 0, none⟩)] w fun e w' => ∃ v0_ : Value, e = .returned (v0_) ∧ Kd.N k45 45 w' w.heap.size (fun k_ => (w.heap.size ≤ k_)) v0_ r1 ∧ IsS69 w0 w' g s0_0 r2 ∧ Below w0.heap.size w0 w' ∧ KeepBut w w' g none := by
 have hu45 := Try.underlying45
 have HI0 := Aside0.mk hI
 have IHI0 : Nonempty _ := ⟨IsS69.ge hI⟩
 have HK := Aside0.mk (KeepBut.refl w g none)
 have HL := Aside0.mk hB.size
 clear hI
 have HW0 := Aside0.mk hB.size
 have HB := Aside0.mk hB
 clear hB
 have H : ((spec_l20Rd_pick.f k s0_0 s0_1 2).bind fun bt230 => ((spec_l20Rd_pick.f k s0_0 bt230.2 8).bind fun bt232 => (if bt232.1 = 0 then (spec_l20Act.j0 k bt230.1 bt232.1 (bt232.1 == 0) s0_0 bt232.2) else (spec_l20Act.j0 k bt230.1 bt232.1 (bt232.1 == 1) s0_0 bt232.2)))) = some (r1, r2) := h
 clear h
 obtain ⟨⟨t230, t231⟩, A2, H⟩ := bS H
 try dsimp only at H
 obtain ⟨⟨t232, t233⟩, A3, H⟩ := bS H
 try dsimp only at H
 have HC4 := Aside0.mk H
 clear H
 go_enter Try.func53, Try.ntmps53
 go_upto_if 11 with (first | ((with_reducible refine gate_callee (f := 20) rfl ?_); refine gL (some 8) Try.func20 #[.pointer (some ⟨g, 0, none⟩), .int .i64 2] ?_; (with_reducible refine (spec_l20Rd_pick.calls k g s0_0 s0_1 2 t230 t231 w0 _ ?side1 ?side2 A2.out).mono ?_); (case side1 => exact IsS69.j HI0.out); (case side2 => exact jB HB.out); rintro e w5 ⟨rfl, hi, hb, hk⟩; refine ⟨_, rfl, ?_⟩; replace HK := Aside0.mk (kt HK.out hk); replace HB := Aside0.mk (hb); replace HI0 := Aside0.mk (hi); (try clear hb hk hi)) | ((with_reducible refine gate_callee (f := 20) rfl ?_); refine gL (some 10) Try.func20 #[.pointer (some ⟨g, 0, none⟩), .int .i64 8] ?_; (with_reducible refine (spec_l20Rd_pick.calls k g s0_0 t231 8 t232 t233 w0 _ ?side1 ?side2 A3.out).mono ?_); (case side1 => exact IsS69.j HI0.out); (case side2 => exact jB HB.out); rintro e w6 ⟨rfl, hi, hb, hk⟩; refine ⟨_, rfl, ?_⟩; replace HK := Aside0.mk (kt HK.out hk); replace HB := Aside0.mk (hb); replace HI0 := Aside0.mk (hi); (try clear hb hk hi)))
 (try simp only [Act.put, sA, s0, sS])
 go_cut [11] (fun v11 wc => ∃ (kq : Nat) (x11_3 : Bool), v11 = .bool x11_3 ∧ Aside0 (spec_l20Act.j0 kq t230 t232 x11_3 s0_0 t233 = some (r1, r2)) ∧ Aside0 (kq ≤ k) ∧ Aside0 (IsS69 w0 wc g s0_0 t233) ∧ Aside0 (KeepBut w wc g none) ∧ Aside0 (Below w0.heap.size w0 wc))
 case first =>
  have H := HC4.out
  clear HC4
  by_cases c7 : t232 = 0
  ·rw [if_pos c7] at H
   have c7b0 := beq_iff_eq.mpr c7
   have c7b1 := bne_eq_false_iff_eq.mpr c7
   clear c7
   (first | rw [c7b0] | (simp only [i64_w, i32_w]; rw [c7b0]) | skip)
   have H' := Aside0.mk H
   clear H
   go_wp2
   go_meet
   case rel => exact ⟨_, ((t232 == 0)), (by first | rfl | (simp; done) | (simp [*]; done)), H', ⟨by first | omega | exact Nat.le_refl _⟩, ⟨by exact IsS69.j HI0.out⟩, ⟨by exact jK HK.out⟩, ⟨by exact jB HB.out⟩⟩
  ·rw [if_neg c7] at H
   have c7b0 := beq_eq_false_iff_ne.mpr c7
   have c7b1 := bne_iff_ne.mpr c7
   (first | rw [c7b0] | (simp only [i64_w, i32_w]; rw [c7b0]) | skip)
   have H' := Aside0.mk H
   clear H
   go_wp2
   go_meet
   case rel => exact ⟨_, ((t232 == 1)), (by first | rfl | (simp; done) | (simp [*]; done)), H', ⟨by first | omega | exact Nat.le_refl _⟩, ⟨by exact IsS69.j HI0.out⟩, ⟨by exact jK HK.out⟩, ⟨by exact jB HB.out⟩⟩
 case rest =>
  clear HC4
  try clear c2
  try clear p2
  try clear c5
  try clear c7
  try clear c7b0
  try clear c7b1
  obtain ⟨kq, x11_3, rfl, HA, HJ3, HI0, HK, HB⟩ := hcut
  cases kq with
  | zero => exact absurd HA.out (by simp [spec_l20Act.j0])
  | succ kj3 =>
   have H := HA.out
   clear HA
   simp only [spec_l20Act.j0] at H
   by_cases c8 : x11_3 = true
   ·subst c8
    have H1 : ((spec_l20Num.f (-1) 0 0).bind fun bt234 => ((spec_l20With.f bt234.1 bt234.2.1 bt234.2.2 t230 1).bind fun bt241 => ((spec_l20Num.f (-1) 0 0).bind fun bt248 => ((spec_l20Num.f 1 0 0).bind fun bt255 => ((spec_l20Num.f 1 0 (-9)).bind fun bt262 => (some ((([(⟨1, 0, 2, (⟨bt241.1, bt241.2.1, bt241.2.2⟩ : S43)⟩ : S45), (⟨2, t230, 0, (⟨bt248.1, bt248.2.1, bt248.2.2⟩ : S43)⟩ : S45), (⟨3, 0, 0, (⟨bt255.1, bt255.2.1, bt255.2.2⟩ : S43)⟩ : S45), (⟨1, 0, 1, (⟨bt262.1, bt262.2.1, bt262.2.2⟩ : S43)⟩ : S45), (⟨4, 0, 0, (⟨([] : List Int), ([] : List Int), 0⟩ : S43)⟩ : S45)] : List (S45))), t233))))))) = some (r1, r2) := by rw [if_pos rfl] at H; exact H
    clear H
    have H := H1
    clear H1
    obtain ⟨⟨t234, t237, t240⟩, A9, H⟩ := bS H
    try dsimp only at H
    obtain ⟨⟨t241, t244, t247⟩, A10, H⟩ := bS H
    try dsimp only at H
    obtain ⟨⟨t248, t251, t254⟩, A11, H⟩ := bS H
    try dsimp only at H
    obtain ⟨⟨t255, t258, t261⟩, A12, H⟩ := bS H
    try dsimp only at H
    obtain ⟨⟨t262, t265, t268⟩, A13, H⟩ := bS H
    try dsimp only at H
    obtain ⟨y269, hy269⟩ : ∃ y_ : List (S45), y_ = (([(⟨1, 0, 2, (⟨t241, t244, t247⟩ : S43)⟩ : S45), (⟨2, t230, 0, (⟨t248, t251, t254⟩ : S43)⟩ : S45), (⟨3, 0, 0, (⟨t255, t258, t261⟩ : S43)⟩ : S45), (⟨1, 0, 1, (⟨t262, t265, t268⟩ : S43)⟩ : S45), (⟨4, 0, 0, (⟨([] : List Int), ([] : List Int), 0⟩ : S43)⟩ : S45)] : List (S45))) := ⟨_, rfl⟩
    replace H : (some (y269, t233)) = some (r1, r2) := by first | (rw [hy269]; exact H) | exact H
    have Ny269 := Aside0.mk hy269
    clear hy269
    simp only [Option.some.injEq, Prod.mk.injEq] at H
    obtain ⟨rfl, rfl⟩ := H
    go_wp2_with (first | ((with_reducible refine gate_callee (f := 64) rfl ?_); refine gL (some 14) Try.func64 #[.int .i64 (-1), .int .i64 0, .int .i64 0] ?_; (with_reducible refine (spec_l20Num.calls (-1) 0 0 t234 t237 t240 _ A9.out).mono ?_); rintro e w14 ⟨v235, v238, rfl, ho0, ho1, hb⟩; refine ⟨_, rfl, ?_⟩; have HO236 := Aside0.mk (lwM ho0 HK.out); have HO239 := Aside0.mk (lwM ho1 HK.out); replace HI0 := Aside0.mk (IsS69.below (by exact IsS69.j HI0.out) hb); replace HK := Aside0.mk (kbl HK.out hb); replace HB := Aside0.mk (bj HB.out hb); (try clear hb); (try clear ho0); (try clear ho1); obtain ⟨Ao15, co15, eo15⟩ := Kd.R_slice HO236.out; subst eo15; obtain ⟨Ao16, co16, eo16⟩ := Kd.R_slice HO239.out; subst eo16) | ((with_reducible refine gate_callee (f := 63) rfl ?_); refine gL (some 16) Try.func63 #[.agg #[.slice Ao15 t234.length co15, .slice Ao16 t237.length co16, .int .i64 t240], .int .i64 t230, .int .i64 1] ?_; (with_reducible refine (spec_l20With.calls (fun k_ => some k_ = (.slice Ao15 t234.length co15 : Value).ownBlock) (.slice Ao15 t234.length co15) t234 (fun k_ => some k_ = (.slice Ao16 t237.length co16 : Value).ownBlock) (.slice Ao16 t237.length co16) t237 t240 t230 1 t241 t244 t247 w0 _ ?side1 ?side2 ?side3 ?side4 ?side5 A10.out).mono ?_); (case side1 => exact jB HB.out); (case side2 => exact Kd.R_lower (Kd.R_tight rfl HO236.out) HL.out); (case side3 => exact fun k_ e_ => (HO236.out.1 k_ e_.symm).2); (case side4 => exact Kd.R_lower (Kd.R_tight rfl HO239.out) HL.out); (case side5 => exact fun k_ e_ => (HO239.out.1 k_ e_.symm).2); rintro e w17 ⟨v242, v245, rfl, ho0, ho1, hb, hkp⟩; refine ⟨_, rfl, ?_⟩; replace HI0 := Aside0.mk (IsS69.kept (by exact IsS69.j HI0.out) hkp (fun hs_ => Or.elim hs_ (fun e_ => (fun e_ => (IsS69.own_ne HI0.out HO236.out (by decide)) e_) e_) (fun e_ => (fun e_ => (IsS69.own_ne HI0.out HO239.out (by decide)) e_) e_))); have HO243 := Aside0.mk (Kd.R_mono (ok' := fun k_ => (w.heap.size ≤ k_) ∧ some k_ ≠ v245.ownBlock) (Kd.R_raise (d := (Kd.int .i64)) (b := w0.heap.size) (b' := w.heap.size) (fun _ _ _ _ h_ => h_) ho0 (fun k_ e_ => Or.elim (ho0.1 k_ e_).1 (fun hs_ => Or.elim hs_ (fun e_ => (fun e_ => Kd.R_base HO236.out k_ e_.symm) e_) (fun e_ => (fun e_ => Kd.R_base HO239.out k_ e_.symm) e_)) (fun hn_ => Nat.le_trans (keep_size (w := w) (g := g) (row := none) (by exact jK HK.out)) hn_))) (fun k_ hk_ => ⟨Or.elim hk_.1 (fun hs_ => Or.elim hs_ (fun hs_ => (HO236.out.1 k_ (hs_).symm).1) (fun hs_ => (HO239.out.1 k_ (hs_).symm).1)) (fun hn_ => (Nat.le_trans (keep_size (w := w) (g := g) (row := none) (by exact jK HK.out)) hn_)), hk_.2⟩)); have HO246 := Aside0.mk (Kd.R_mono (ok' := fun k_ => (w.heap.size ≤ k_) ∧ some k_ ≠ v242.ownBlock) (Kd.R_raise (d := (Kd.int .i64)) (b := w0.heap.size) (b' := w.heap.size) (fun _ _ _ _ h_ => h_) ho1 (fun k_ e_ => Or.elim (ho1.1 k_ e_).1 (fun hs_ => Or.elim hs_ (fun e_ => (fun e_ => Kd.R_base HO236.out k_ e_.symm) e_) (fun e_ => (fun e_ => Kd.R_base HO239.out k_ e_.symm) e_)) (fun hn_ => Nat.le_trans (keep_size (w := w) (g := g) (row := none) (by exact jK HK.out)) hn_))) (fun k_ hk_ => ⟨Or.elim hk_.1 (fun hs_ => Or.elim hs_ (fun hs_ => (HO236.out.1 k_ (hs_).symm).1) (fun hs_ => (HO239.out.1 k_ (hs_).symm).1)) (fun hn_ => (Nat.le_trans (keep_size (w := w) (g := g) (row := none) (by exact jK HK.out)) hn_)), hk_.2⟩)); replace HK := Aside0.mk (Kept.keepG (by exact jK HK.out) hkp (fun k_ hs_ => Or.elim hs_ (fun e_ => (fun e_ => .inr (Kd.R_base HO236.out k_ e_.symm)) e_) (fun e_ => (fun e_ => .inr (Kd.R_base HO239.out k_ e_.symm)) e_))); replace HB := Aside0.mk (hb); clear HO236 HO239; (try clear hb); (try clear hkp); (try clear ho0); (try clear ho1); obtain ⟨Ao18, co18, eo18⟩ := Kd.R_slice HO246.out; subst eo18; obtain ⟨Ao19, co19, eo19⟩ := Kd.R_slice HO243.out; subst eo19) | ((with_reducible refine gate_callee (f := 64) rfl ?_); refine gL (some 19) Try.func64 #[.int .i64 (-1), .int .i64 0, .int .i64 0] ?_; (with_reducible refine (spec_l20Num.calls (-1) 0 0 t248 t251 t254 _ A11.out).mono ?_); rintro e w20 ⟨v249, v252, rfl, ho0, ho1, hb⟩; refine ⟨_, rfl, ?_⟩; have HO250 := Aside0.mk (Kd.R_lower (Kd.R_new' (Kd.R_new' (Kd.R_newM (M := fun k_ => (w.heap.size ≤ k_)) ho0 (keep_size (w := w) (g := g) (row := none) (by exact jK HK.out)) (fun k_ h_ => h_)) (rl HO243.out)) (rl HO246.out)) (keep_size (w := w) (g := g) (row := none) (by exact jK HK.out))); have HO253 := Aside0.mk (Kd.R_lower (Kd.R_new' (Kd.R_new' (Kd.R_newM (M := fun k_ => (w.heap.size ≤ k_)) ho1 (keep_size (w := w) (g := g) (row := none) (by exact jK HK.out)) (fun k_ h_ => h_)) (rl HO243.out)) (rl HO246.out)) (keep_size (w := w) (g := g) (row := none) (by exact jK HK.out))); replace HO243 := Aside0.mk (o2 HO243.out hb ho0 ho1); replace HO246 := Aside0.mk (o2 HO246.out hb ho0 ho1); replace HI0 := Aside0.mk (IsS69.below (by exact IsS69.j HI0.out) hb); replace HK := Aside0.mk (kbl HK.out hb); replace HB := Aside0.mk (bj HB.out hb); (try clear hb); (try clear ho0); (try clear ho1); obtain ⟨Ao21, co21, eo21⟩ := Kd.R_slice HO253.out; subst eo21; obtain ⟨Ao22, co22, eo22⟩ := Kd.R_slice HO250.out; subst eo22) | ((with_reducible refine gate_callee (f := 64) rfl ?_); refine gL (some 21) Try.func64 #[.int .i64 1, .int .i64 0, .int .i64 0] ?_; (with_reducible refine (spec_l20Num.calls 1 0 0 t255 t258 t261 _ A12.out).mono ?_); rintro e w23 ⟨v256, v259, rfl, ho0, ho1, hb⟩; refine ⟨_, rfl, ?_⟩; have HO257 := Aside0.mk (Kd.R_lower (Kd.R_new' (Kd.R_new' (Kd.R_new' (Kd.R_new' (Kd.R_newM (M := fun k_ => (w.heap.size ≤ k_)) ho0 (keep_size (w := w) (g := g) (row := none) (by exact jK HK.out)) (fun k_ h_ => h_)) (rl HO243.out)) (rl HO246.out)) (rl HO250.out)) (rl HO253.out)) (keep_size (w := w) (g := g) (row := none) (by exact jK HK.out))); have HO260 := Aside0.mk (Kd.R_lower (Kd.R_new' (Kd.R_new' (Kd.R_new' (Kd.R_new' (Kd.R_newM (M := fun k_ => (w.heap.size ≤ k_)) ho1 (keep_size (w := w) (g := g) (row := none) (by exact jK HK.out)) (fun k_ h_ => h_)) (rl HO243.out)) (rl HO246.out)) (rl HO250.out)) (rl HO253.out)) (keep_size (w := w) (g := g) (row := none) (by exact jK HK.out))); replace HO243 := Aside0.mk (o2 HO243.out hb ho0 ho1); replace HO246 := Aside0.mk (o2 HO246.out hb ho0 ho1); replace HO250 := Aside0.mk (o2 HO250.out hb ho0 ho1); replace HO253 := Aside0.mk (o2 HO253.out hb ho0 ho1); replace HI0 := Aside0.mk (IsS69.below (by exact IsS69.j HI0.out) hb); replace HK := Aside0.mk (kbl HK.out hb); replace HB := Aside0.mk (bj HB.out hb); (try clear hb); (try clear ho0); (try clear ho1); obtain ⟨Ao24, co24, eo24⟩ := Kd.R_slice HO260.out; subst eo24; obtain ⟨Ao25, co25, eo25⟩ := Kd.R_slice HO257.out; subst eo25) | ((with_reducible refine gate_callee (f := 64) rfl ?_); refine gL (some 23) Try.func64 #[.int .i64 1, .int .i64 0, .int .i64 (-9)] ?_; (with_reducible refine (spec_l20Num.calls 1 0 (-9) t262 t265 t268 _ A13.out).mono ?_); rintro e w26 ⟨v263, v266, rfl, ho0, ho1, hb⟩; refine ⟨_, rfl, ?_⟩; have HO264 := Aside0.mk (Kd.R_lower (Kd.R_new' (Kd.R_new' (Kd.R_new' (Kd.R_new' (Kd.R_new' (Kd.R_new' (Kd.R_newM (M := fun k_ => (w.heap.size ≤ k_)) ho0 (keep_size (w := w) (g := g) (row := none) (by exact jK HK.out)) (fun k_ h_ => h_)) (rl HO243.out)) (rl HO246.out)) (rl HO250.out)) (rl HO253.out)) (rl HO257.out)) (rl HO260.out)) (keep_size (w := w) (g := g) (row := none) (by exact jK HK.out))); have HO267 := Aside0.mk (Kd.R_lower (Kd.R_new' (Kd.R_new' (Kd.R_new' (Kd.R_new' (Kd.R_new' (Kd.R_new' (Kd.R_newM (M := fun k_ => (w.heap.size ≤ k_)) ho1 (keep_size (w := w) (g := g) (row := none) (by exact jK HK.out)) (fun k_ h_ => h_)) (rl HO243.out)) (rl HO246.out)) (rl HO250.out)) (rl HO253.out)) (rl HO257.out)) (rl HO260.out)) (keep_size (w := w) (g := g) (row := none) (by exact jK HK.out))); replace HO243 := Aside0.mk (o2 HO243.out hb ho0 ho1); replace HO246 := Aside0.mk (o2 HO246.out hb ho0 ho1); replace HO250 := Aside0.mk (o2 HO250.out hb ho0 ho1); replace HO253 := Aside0.mk (o2 HO253.out hb ho0 ho1); replace HO257 := Aside0.mk (o2 HO257.out hb ho0 ho1); replace HO260 := Aside0.mk (o2 HO260.out hb ho0 ho1); replace HI0 := Aside0.mk (IsS69.below (by exact IsS69.j HI0.out) hb); replace HK := Aside0.mk (kbl HK.out hb); replace HB := Aside0.mk (bj HB.out hb); (try clear hb); (try clear ho0); (try clear ho1); obtain ⟨Ao27, co27, eo27⟩ := Kd.R_slice HO267.out; subst eo27; obtain ⟨Ao28, co28, eo28⟩ := Kd.R_slice HO264.out; subst eo28) | ((with_reducible refine gate_dst (N := 26) rfl ?_); refine Kd.N_lit k45 _ 45 ?hg (N' := 26) ?hd (xs := ([(⟨1, 0, 2, (⟨t241, t244, t247⟩ : S43)⟩ : S45), (⟨2, t230, 0, (⟨t248, t251, t254⟩ : S43)⟩ : S45), (⟨3, 0, 0, (⟨t255, t258, t261⟩ : S43)⟩ : S45), (⟨1, 0, 1, (⟨t262, t265, t268⟩ : S43)⟩ : S45), (⟨4, 0, 0, (⟨([] : List Int), ([] : List Int), 0⟩ : S43)⟩ : S45)] : List (S45))) (inner := [.int .i64 1, .int .i64 0, .int .i64 2, .slice Ao19 t241.length co19, .slice Ao18 t244.length co18, .int .i64 t247, .int .i64 2, .int .i64 t230, .int .i64 0, .slice Ao22 t248.length co22, .slice Ao21 t251.length co21, .int .i64 t254, .int .i64 3, .int .i64 0, .int .i64 0, .slice Ao25 t255.length co25, .slice Ao24 t258.length co24, .int .i64 t261, .int .i64 1, .int .i64 0, .int .i64 1, .slice Ao28 t262.length co28, .slice Ao27 t265.length co27, .int .i64 t268, .int .i64 4, .int .i64 0, .int .i64 0, .slice none 0 0, .slice none 0 0, .int .i64 0]) (ok := (fun k_ => (w.heap.size ≤ k_) ∧ k_ ≠ g)) (okp := (fun k_ => (w.heap.size ≤ k_) ∧ k_ ≠ g)) ?hr ?hp (fun _ hk => hk) ((show ∀ k_, w26.heap.size ≤ k_ → (fun k_ => (w.heap.size ≤ k_) ∧ k_ ≠ g) k_ from fun k_ hk => ⟨(Nat.le_trans (keep_size (w := w) (g := g) (row := none) (by exact jK HK.out)) hk), IsS69.fresh (by exact IsS69.j HI0.out) k_ hk⟩) _ (Nat.le_refl _)) (Below.refl _ _) (Nat.le_refl _) (by simp) ?_; (case hd => rfl); (case hg => rfl); (case hr => first | (go_simp; done) | (go_simp; rfl)); (case hp => exact (Reps.c6 (show Kd.FK k45 _ _ (⟨1, 0, 2, (⟨t241, t244, t247⟩ : S43)⟩ : S45) [.int .i64 1, .int .i64 0, .int .i64 2, .slice Ao19 t241.length co19, .slice Ao18 t244.length co18, .int .i64 t247] from (k45_mkF _ _ (⟨1, 0, 2, (⟨t241, t244, t247⟩ : S43)⟩ : S45) (Kd.R_reads' (Kd.R_mono (ok' := (fun k_ => (w.heap.size ≤ k_) ∧ k_ ≠ g)) (IsS69.apart HI0.out (HO243.out) (by decide)) (fun k_ hk => ⟨hk.1.1.1.1.1.1.1.1, hk.2⟩))).2.1 (Kd.R_F (Kd.R_mono (ok' := (fun k_ => (w.heap.size ≤ k_) ∧ k_ ≠ g)) (IsS69.apart HI0.out (HO243.out) (by decide)) (fun k_ hk => ⟨hk.1.1.1.1.1.1.1.1, hk.2⟩))) (Kd.R_reads' (Kd.R_mono (ok' := (fun k_ => (w.heap.size ≤ k_) ∧ k_ ≠ g)) (IsS69.apart HI0.out (HO246.out) (by decide)) (fun k_ hk => ⟨hk.1.1.1.1.1.1.1.1, hk.2⟩))).2.1 (Kd.R_F (Kd.R_mono (ok' := (fun k_ => (w.heap.size ≤ k_) ∧ k_ ≠ g)) (IsS69.apart HI0.out (HO246.out) (by decide)) (fun k_ hk => ⟨hk.1.1.1.1.1.1.1.1, hk.2⟩))))) (Reps.c6 (show Kd.FK k45 _ _ (⟨2, t230, 0, (⟨t248, t251, t254⟩ : S43)⟩ : S45) [.int .i64 2, .int .i64 t230, .int .i64 0, .slice Ao22 t248.length co22, .slice Ao21 t251.length co21, .int .i64 t254] from (k45_mkF _ _ (⟨2, t230, 0, (⟨t248, t251, t254⟩ : S43)⟩ : S45) (Kd.R_reads' (Kd.R_mono (ok' := (fun k_ => (w.heap.size ≤ k_) ∧ k_ ≠ g)) (IsS69.apart HI0.out (HO250.out) (by decide)) (fun k_ hk => ⟨hk.1.1.1.1.1.1.1.1, hk.2⟩))).2.1 (Kd.R_F (Kd.R_mono (ok' := (fun k_ => (w.heap.size ≤ k_) ∧ k_ ≠ g)) (IsS69.apart HI0.out (HO250.out) (by decide)) (fun k_ hk => ⟨hk.1.1.1.1.1.1.1.1, hk.2⟩))) (Kd.R_reads' (Kd.R_mono (ok' := (fun k_ => (w.heap.size ≤ k_) ∧ k_ ≠ g)) (IsS69.apart HI0.out (HO253.out) (by decide)) (fun k_ hk => ⟨hk.1.1.1.1.1.1.1.1, hk.2⟩))).2.1 (Kd.R_F (Kd.R_mono (ok' := (fun k_ => (w.heap.size ≤ k_) ∧ k_ ≠ g)) (IsS69.apart HI0.out (HO253.out) (by decide)) (fun k_ hk => ⟨hk.1.1.1.1.1.1.1.1, hk.2⟩))))) (Reps.c6 (show Kd.FK k45 _ _ (⟨3, 0, 0, (⟨t255, t258, t261⟩ : S43)⟩ : S45) [.int .i64 3, .int .i64 0, .int .i64 0, .slice Ao25 t255.length co25, .slice Ao24 t258.length co24, .int .i64 t261] from (k45_mkF _ _ (⟨3, 0, 0, (⟨t255, t258, t261⟩ : S43)⟩ : S45) (Kd.R_reads' (Kd.R_mono (ok' := (fun k_ => (w.heap.size ≤ k_) ∧ k_ ≠ g)) (IsS69.apart HI0.out (HO257.out) (by decide)) (fun k_ hk => ⟨hk.1.1.1.1.1.1.1.1, hk.2⟩))).2.1 (Kd.R_F (Kd.R_mono (ok' := (fun k_ => (w.heap.size ≤ k_) ∧ k_ ≠ g)) (IsS69.apart HI0.out (HO257.out) (by decide)) (fun k_ hk => ⟨hk.1.1.1.1.1.1.1.1, hk.2⟩))) (Kd.R_reads' (Kd.R_mono (ok' := (fun k_ => (w.heap.size ≤ k_) ∧ k_ ≠ g)) (IsS69.apart HI0.out (HO260.out) (by decide)) (fun k_ hk => ⟨hk.1.1.1.1.1.1.1.1, hk.2⟩))).2.1 (Kd.R_F (Kd.R_mono (ok' := (fun k_ => (w.heap.size ≤ k_) ∧ k_ ≠ g)) (IsS69.apart HI0.out (HO260.out) (by decide)) (fun k_ hk => ⟨hk.1.1.1.1.1.1.1.1, hk.2⟩))))) (Reps.c6 (show Kd.FK k45 _ _ (⟨1, 0, 1, (⟨t262, t265, t268⟩ : S43)⟩ : S45) [.int .i64 1, .int .i64 0, .int .i64 1, .slice Ao28 t262.length co28, .slice Ao27 t265.length co27, .int .i64 t268] from (k45_mkF _ _ (⟨1, 0, 1, (⟨t262, t265, t268⟩ : S43)⟩ : S45) (Kd.R_reads' (Kd.R_mono (ok' := (fun k_ => (w.heap.size ≤ k_) ∧ k_ ≠ g)) (IsS69.apart HI0.out (HO264.out) (by decide)) (fun k_ hk => ⟨hk.1.1.1.1.1.1.1.1, hk.2⟩))).2.1 (Kd.R_F (Kd.R_mono (ok' := (fun k_ => (w.heap.size ≤ k_) ∧ k_ ≠ g)) (IsS69.apart HI0.out (HO264.out) (by decide)) (fun k_ hk => ⟨hk.1.1.1.1.1.1.1.1, hk.2⟩))) (Kd.R_reads' (Kd.R_mono (ok' := (fun k_ => (w.heap.size ≤ k_) ∧ k_ ≠ g)) (IsS69.apart HI0.out (HO267.out) (by decide)) (fun k_ hk => ⟨hk.1.1.1.1.1.1.1.1, hk.2⟩))).2.1 (Kd.R_F (Kd.R_mono (ok' := (fun k_ => (w.heap.size ≤ k_) ∧ k_ ≠ g)) (IsS69.apart HI0.out (HO267.out) (by decide)) (fun k_ hk => ⟨hk.1.1.1.1.1.1.1.1, hk.2⟩))))) (Reps.c6 (show Kd.FK k45 _ _ (⟨4, 0, 0, (⟨([] : List Int), ([] : List Int), 0⟩ : S43)⟩ : S45) [.int .i64 4, .int .i64 0, .int .i64 0, .slice none 0 0, .slice none 0 0, .int .i64 0] from (k45_mkF _ _ (⟨4, 0, 0, (⟨([] : List Int), ([] : List Int), 0⟩ : S43)⟩ : S45) (Nat.le_refl _) (Kd.F_nil _ _ _) (Nat.le_refl _) (Kd.F_nil _ _ _))) (Reps.none _ _))))))); intro v270 w29 ho30 hb hg_ hnew_; clear hg_ hnew_; (first | rw [← Ny269.out] at ho30 | (simp only [Int.reduceToNat] at ho30; rw [← Ny269.out] at ho30)); replace HO243 := Aside0.mk (rb HO243.out hb); replace HO246 := Aside0.mk (rb HO246.out hb); replace HO250 := Aside0.mk (rb HO250.out hb); replace HO253 := Aside0.mk (rb HO253.out hb); replace HO257 := Aside0.mk (rb HO257.out hb); replace HO260 := Aside0.mk (rb HO260.out hb); replace HO264 := Aside0.mk (rb HO264.out hb); replace HO267 := Aside0.mk (rb HO267.out hb); have HO271 := Aside0.mk (Kd.N_lower ho30 (keep_size (w := w) (g := g) (row := none) (by exact jK HK.out))); replace HI0 := Aside0.mk (IsS69.below (by exact IsS69.j HI0.out) hb); replace HK := Aside0.mk (kbl HK.out hb); replace HB := Aside0.mk (bj HB.out hb); clear hb ho30))
    go_ret
    exact ⟨_, by first | rfl | (simp [errW_none, errW_some] <;> rfl) | (simp [*, errW_none, errW_some] <;> rfl), by exact lN <| Kd.N_mono HO271.out (fun _ hk => hk.1), by exact IsS69.j HI0.out, by exact jB HB.out, by exact jK HK.out⟩
   ·replace c8 := Bool.eq_false_iff.mpr c8
    subst c8
    have H1 : (if t232 = 2 then ((spec_l20Num.f 1 0 0).bind fun bt272 => (some ((([(⟨2, t230, 0, (⟨bt272.1, bt272.2.1, bt272.2.2⟩ : S43)⟩ : S45)] : List (S45))), t233))) else (if t232 = 3 then ((spec_l20Num.f (-1) 0 0).bind fun bt282 => ((spec_l20With.f bt282.1 bt282.2.1 bt282.2.2 t230 1).bind fun bt289 => ((spec_l20Num.f (-1) 0 0).bind fun bt296 => ((spec_l20Num.f 1 0 0).bind fun bt303 => (some ((([(⟨1, 0, 2, (⟨bt289.1, bt289.2.1, bt289.2.2⟩ : S43)⟩ : S45), (⟨2, t230, 0, (⟨bt296.1, bt296.2.1, bt296.2.2⟩ : S43)⟩ : S45), (⟨2, wrap64 (1 - t230), 0, (⟨bt303.1, bt303.2.1, bt303.2.2⟩ : S43)⟩ : S45)] : List (S45))), t233)))))) else (if t232 = 4 then ((spec_l20Num.f 0 0 0).bind fun bt313 => ((spec_l20With.f bt313.1 bt313.2.1 bt313.2.2 2 1).bind fun bt320 => (some ((([(⟨3, 0, 0, (⟨bt320.1, bt320.2.1, bt320.2.2⟩ : S43)⟩ : S45)] : List (S45))), t233)))) else (if t232 = 5 then ((spec_l20Num.f 0 1 5).bind fun bt330 => ((spec_l20With.f bt330.1 bt330.2.1 bt330.2.2 0 1).bind fun bt337 => ((spec_l20With.f bt337.1 bt337.2.1 bt337.2.2 1 (-1)).bind fun bt344 => ((spec_l20Num.f 0 0 1).bind fun bt351 => (some ((([(⟨1, 0, 1, (⟨bt344.1, bt344.2.1, bt344.2.2⟩ : S43)⟩ : S45), (⟨2, 2, 0, (⟨bt351.1, bt351.2.1, bt351.2.2⟩ : S43)⟩ : S45)] : List (S45))), t233)))))) else ((spec_l20Rd_pick.f kj3 s0_0 t233 5).bind fun bt364 => (spec_l20Act.l0 kj3 (([] : List (S45))) (wrap64 (1 + bt364.1)) s0_0 bt364.2)))))) = some (r1, r2) := by rw [if_neg (show ¬ (false = true) by decide)] at H; exact H
    clear H
    have H := H1
    clear H1
    by_cases c31 : t232 = 2
    ·rw [if_pos c31] at H
     have c31b0 := beq_iff_eq.mpr c31
     have c31b1 := bne_eq_false_iff_eq.mpr c31
     clear c31
     obtain ⟨⟨t272, t275, t278⟩, A32, H⟩ := bS H
     try dsimp only at H
     obtain ⟨y279, hy279⟩ : ∃ y_ : List (S45), y_ = (([(⟨2, t230, 0, (⟨t272, t275, t278⟩ : S43)⟩ : S45)] : List (S45))) := ⟨_, rfl⟩
     replace H : (some (y279, t233)) = some (r1, r2) := by first | (rw [hy279]; exact H) | exact H
     have Ny279 := Aside0.mk hy279
     clear hy279
     simp only [Option.some.injEq, Prod.mk.injEq] at H
     obtain ⟨rfl, rfl⟩ := H
     go_wp2_with (first | ((with_reducible refine gate_callee (f := 64) rfl ?_); refine gL (some 30) Try.func64 #[.int .i64 1, .int .i64 0, .int .i64 0] ?_; (with_reducible refine (spec_l20Num.calls 1 0 0 t272 t275 t278 _ A32.out).mono ?_); rintro e w33 ⟨v273, v276, rfl, ho0, ho1, hb⟩; refine ⟨_, rfl, ?_⟩; have HO274 := Aside0.mk (lwM ho0 HK.out); have HO277 := Aside0.mk (lwM ho1 HK.out); replace HI0 := Aside0.mk (IsS69.below (by exact IsS69.j HI0.out) hb); replace HK := Aside0.mk (kbl HK.out hb); replace HB := Aside0.mk (bj HB.out hb); (try clear hb); (try clear ho0); (try clear ho1); obtain ⟨Ao34, co34, eo34⟩ := Kd.R_slice HO277.out; subst eo34; obtain ⟨Ao35, co35, eo35⟩ := Kd.R_slice HO274.out; subst eo35) | ((with_reducible refine gate_dst (N := 32) rfl ?_); refine Kd.N_lit k45 _ 45 ?hg (N' := 32) ?hd (xs := ([(⟨2, t230, 0, (⟨t272, t275, t278⟩ : S43)⟩ : S45)] : List (S45))) (inner := [.int .i64 2, .int .i64 t230, .int .i64 0, .slice Ao35 t272.length co35, .slice Ao34 t275.length co34, .int .i64 t278]) (ok := (fun k_ => (w.heap.size ≤ k_) ∧ k_ ≠ g)) (okp := (fun k_ => (w.heap.size ≤ k_) ∧ k_ ≠ g)) ?hr ?hp (fun _ hk => hk) ((show ∀ k_, w33.heap.size ≤ k_ → (fun k_ => (w.heap.size ≤ k_) ∧ k_ ≠ g) k_ from fun k_ hk => ⟨(Nat.le_trans (keep_size (w := w) (g := g) (row := none) (by exact jK HK.out)) hk), IsS69.fresh (by exact IsS69.j HI0.out) k_ hk⟩) _ (Nat.le_refl _)) (Below.refl _ _) (Nat.le_refl _) (by simp) ?_; (case hd => rfl); (case hg => rfl); (case hr => first | (go_simp; done) | (go_simp; rfl)); (case hp => exact (Reps.c6 (show Kd.FK k45 _ _ (⟨2, t230, 0, (⟨t272, t275, t278⟩ : S43)⟩ : S45) [.int .i64 2, .int .i64 t230, .int .i64 0, .slice Ao35 t272.length co35, .slice Ao34 t275.length co34, .int .i64 t278] from (k45_mkF _ _ (⟨2, t230, 0, (⟨t272, t275, t278⟩ : S43)⟩ : S45) (Kd.R_reads' (Kd.R_mono (ok' := (fun k_ => (w.heap.size ≤ k_) ∧ k_ ≠ g)) (IsS69.apart HI0.out (HO274.out) (by decide)) (fun k_ hk => ⟨hk.1.1, hk.2⟩))).2.1 (Kd.R_F (Kd.R_mono (ok' := (fun k_ => (w.heap.size ≤ k_) ∧ k_ ≠ g)) (IsS69.apart HI0.out (HO274.out) (by decide)) (fun k_ hk => ⟨hk.1.1, hk.2⟩))) (Kd.R_reads' (Kd.R_mono (ok' := (fun k_ => (w.heap.size ≤ k_) ∧ k_ ≠ g)) (IsS69.apart HI0.out (HO277.out) (by decide)) (fun k_ hk => ⟨hk.1.1, hk.2⟩))).2.1 (Kd.R_F (Kd.R_mono (ok' := (fun k_ => (w.heap.size ≤ k_) ∧ k_ ≠ g)) (IsS69.apart HI0.out (HO277.out) (by decide)) (fun k_ hk => ⟨hk.1.1, hk.2⟩))))) (Reps.none _ _))); intro v280 w36 ho37 hb hg_ hnew_; clear hg_ hnew_; (first | rw [← Ny279.out] at ho37 | (simp only [Int.reduceToNat] at ho37; rw [← Ny279.out] at ho37)); replace HO274 := Aside0.mk (rb HO274.out hb); replace HO277 := Aside0.mk (rb HO277.out hb); have HO281 := Aside0.mk (Kd.N_lower ho37 (keep_size (w := w) (g := g) (row := none) (by exact jK HK.out))); replace HI0 := Aside0.mk (IsS69.below (by exact IsS69.j HI0.out) hb); replace HK := Aside0.mk (kbl HK.out hb); replace HB := Aside0.mk (bj HB.out hb); clear hb ho37))
     go_ret
     exact ⟨_, by first | rfl | (simp [errW_none, errW_some] <;> rfl) | (simp [*, errW_none, errW_some] <;> rfl), by exact lN <| Kd.N_mono HO281.out (fun _ hk => hk.1), by exact IsS69.j HI0.out, by exact jB HB.out, by exact jK HK.out⟩
    ·rw [if_neg c31] at H
     have c31b0 := beq_eq_false_iff_ne.mpr c31
     have c31b1 := bne_iff_ne.mpr c31
     by_cases c38 : t232 = 3
     ·rw [if_pos c38] at H
      have c38b0 := beq_iff_eq.mpr c38
      have c38b1 := bne_eq_false_iff_eq.mpr c38
      clear c38
      obtain ⟨⟨t282, t285, t288⟩, A39, H⟩ := bS H
      try dsimp only at H
      obtain ⟨⟨t289, t292, t295⟩, A40, H⟩ := bS H
      try dsimp only at H
      obtain ⟨⟨t296, t299, t302⟩, A41, H⟩ := bS H
      try dsimp only at H
      obtain ⟨⟨t303, t306, t309⟩, A42, H⟩ := bS H
      try dsimp only at H
      obtain ⟨y310, hy310⟩ : ∃ y_ : List (S45), y_ = (([(⟨1, 0, 2, (⟨t289, t292, t295⟩ : S43)⟩ : S45), (⟨2, t230, 0, (⟨t296, t299, t302⟩ : S43)⟩ : S45), (⟨2, wrap64 (1 - t230), 0, (⟨t303, t306, t309⟩ : S43)⟩ : S45)] : List (S45))) := ⟨_, rfl⟩
      replace H : (some (y310, t233)) = some (r1, r2) := by first | (rw [hy310]; exact H) | exact H
      have Ny310 := Aside0.mk hy310
      clear hy310
      simp only [Option.some.injEq, Prod.mk.injEq] at H
      obtain ⟨rfl, rfl⟩ := H
      go_wp2_with (first | ((with_reducible refine gate_callee (f := 64) rfl ?_); refine gL (some 35) Try.func64 #[.int .i64 (-1), .int .i64 0, .int .i64 0] ?_; (with_reducible refine (spec_l20Num.calls (-1) 0 0 t282 t285 t288 _ A39.out).mono ?_); rintro e w43 ⟨v283, v286, rfl, ho0, ho1, hb⟩; refine ⟨_, rfl, ?_⟩; have HO284 := Aside0.mk (lwM ho0 HK.out); have HO287 := Aside0.mk (lwM ho1 HK.out); replace HI0 := Aside0.mk (IsS69.below (by exact IsS69.j HI0.out) hb); replace HK := Aside0.mk (kbl HK.out hb); replace HB := Aside0.mk (bj HB.out hb); (try clear hb); (try clear ho0); (try clear ho1); obtain ⟨Ao44, co44, eo44⟩ := Kd.R_slice HO284.out; subst eo44; obtain ⟨Ao45, co45, eo45⟩ := Kd.R_slice HO287.out; subst eo45) | ((with_reducible refine gate_callee (f := 63) rfl ?_); refine gL (some 37) Try.func63 #[.agg #[.slice Ao44 t282.length co44, .slice Ao45 t285.length co45, .int .i64 t288], .int .i64 t230, .int .i64 1] ?_; (with_reducible refine (spec_l20With.calls (fun k_ => some k_ = (.slice Ao44 t282.length co44 : Value).ownBlock) (.slice Ao44 t282.length co44) t282 (fun k_ => some k_ = (.slice Ao45 t285.length co45 : Value).ownBlock) (.slice Ao45 t285.length co45) t285 t288 t230 1 t289 t292 t295 w0 _ ?side1 ?side2 ?side3 ?side4 ?side5 A40.out).mono ?_); (case side1 => exact jB HB.out); (case side2 => exact Kd.R_lower (Kd.R_tight rfl HO284.out) HL.out); (case side3 => exact fun k_ e_ => (HO284.out.1 k_ e_.symm).2); (case side4 => exact Kd.R_lower (Kd.R_tight rfl HO287.out) HL.out); (case side5 => exact fun k_ e_ => (HO287.out.1 k_ e_.symm).2); rintro e w46 ⟨v290, v293, rfl, ho0, ho1, hb, hkp⟩; refine ⟨_, rfl, ?_⟩; replace HI0 := Aside0.mk (IsS69.kept (by exact IsS69.j HI0.out) hkp (fun hs_ => Or.elim hs_ (fun e_ => (fun e_ => (IsS69.own_ne HI0.out HO284.out (by decide)) e_) e_) (fun e_ => (fun e_ => (IsS69.own_ne HI0.out HO287.out (by decide)) e_) e_))); have HO291 := Aside0.mk (Kd.R_mono (ok' := fun k_ => (w.heap.size ≤ k_) ∧ some k_ ≠ v293.ownBlock) (Kd.R_raise (d := (Kd.int .i64)) (b := w0.heap.size) (b' := w.heap.size) (fun _ _ _ _ h_ => h_) ho0 (fun k_ e_ => Or.elim (ho0.1 k_ e_).1 (fun hs_ => Or.elim hs_ (fun e_ => (fun e_ => Kd.R_base HO284.out k_ e_.symm) e_) (fun e_ => (fun e_ => Kd.R_base HO287.out k_ e_.symm) e_)) (fun hn_ => Nat.le_trans (keep_size (w := w) (g := g) (row := none) (by exact jK HK.out)) hn_))) (fun k_ hk_ => ⟨Or.elim hk_.1 (fun hs_ => Or.elim hs_ (fun hs_ => (HO284.out.1 k_ (hs_).symm).1) (fun hs_ => (HO287.out.1 k_ (hs_).symm).1)) (fun hn_ => (Nat.le_trans (keep_size (w := w) (g := g) (row := none) (by exact jK HK.out)) hn_)), hk_.2⟩)); have HO294 := Aside0.mk (Kd.R_mono (ok' := fun k_ => (w.heap.size ≤ k_) ∧ some k_ ≠ v290.ownBlock) (Kd.R_raise (d := (Kd.int .i64)) (b := w0.heap.size) (b' := w.heap.size) (fun _ _ _ _ h_ => h_) ho1 (fun k_ e_ => Or.elim (ho1.1 k_ e_).1 (fun hs_ => Or.elim hs_ (fun e_ => (fun e_ => Kd.R_base HO284.out k_ e_.symm) e_) (fun e_ => (fun e_ => Kd.R_base HO287.out k_ e_.symm) e_)) (fun hn_ => Nat.le_trans (keep_size (w := w) (g := g) (row := none) (by exact jK HK.out)) hn_))) (fun k_ hk_ => ⟨Or.elim hk_.1 (fun hs_ => Or.elim hs_ (fun hs_ => (HO284.out.1 k_ (hs_).symm).1) (fun hs_ => (HO287.out.1 k_ (hs_).symm).1)) (fun hn_ => (Nat.le_trans (keep_size (w := w) (g := g) (row := none) (by exact jK HK.out)) hn_)), hk_.2⟩)); replace HK := Aside0.mk (Kept.keepG (by exact jK HK.out) hkp (fun k_ hs_ => Or.elim hs_ (fun e_ => (fun e_ => .inr (Kd.R_base HO284.out k_ e_.symm)) e_) (fun e_ => (fun e_ => .inr (Kd.R_base HO287.out k_ e_.symm)) e_))); replace HB := Aside0.mk (hb); clear HO284 HO287; (try clear hb); (try clear hkp); (try clear ho0); (try clear ho1); obtain ⟨Ao47, co47, eo47⟩ := Kd.R_slice HO294.out; subst eo47; obtain ⟨Ao48, co48, eo48⟩ := Kd.R_slice HO291.out; subst eo48) | ((with_reducible refine gate_callee (f := 64) rfl ?_); refine gL (some 40) Try.func64 #[.int .i64 (-1), .int .i64 0, .int .i64 0] ?_; (with_reducible refine (spec_l20Num.calls (-1) 0 0 t296 t299 t302 _ A41.out).mono ?_); rintro e w49 ⟨v297, v300, rfl, ho0, ho1, hb⟩; refine ⟨_, rfl, ?_⟩; have HO298 := Aside0.mk (Kd.R_lower (Kd.R_new' (Kd.R_new' (Kd.R_newM (M := fun k_ => (w.heap.size ≤ k_)) ho0 (keep_size (w := w) (g := g) (row := none) (by exact jK HK.out)) (fun k_ h_ => h_)) (rl HO291.out)) (rl HO294.out)) (keep_size (w := w) (g := g) (row := none) (by exact jK HK.out))); have HO301 := Aside0.mk (Kd.R_lower (Kd.R_new' (Kd.R_new' (Kd.R_newM (M := fun k_ => (w.heap.size ≤ k_)) ho1 (keep_size (w := w) (g := g) (row := none) (by exact jK HK.out)) (fun k_ h_ => h_)) (rl HO291.out)) (rl HO294.out)) (keep_size (w := w) (g := g) (row := none) (by exact jK HK.out))); replace HO291 := Aside0.mk (o2 HO291.out hb ho0 ho1); replace HO294 := Aside0.mk (o2 HO294.out hb ho0 ho1); replace HI0 := Aside0.mk (IsS69.below (by exact IsS69.j HI0.out) hb); replace HK := Aside0.mk (kbl HK.out hb); replace HB := Aside0.mk (bj HB.out hb); (try clear hb); (try clear ho0); (try clear ho1); obtain ⟨Ao50, co50, eo50⟩ := Kd.R_slice HO301.out; subst eo50; obtain ⟨Ao51, co51, eo51⟩ := Kd.R_slice HO298.out; subst eo51) | ((with_reducible refine gate_callee (f := 64) rfl ?_); refine gL (some 44) Try.func64 #[.int .i64 1, .int .i64 0, .int .i64 0] ?_; (with_reducible refine (spec_l20Num.calls 1 0 0 t303 t306 t309 _ A42.out).mono ?_); rintro e w52 ⟨v304, v307, rfl, ho0, ho1, hb⟩; refine ⟨_, rfl, ?_⟩; have HO305 := Aside0.mk (Kd.R_lower (Kd.R_new' (Kd.R_new' (Kd.R_new' (Kd.R_new' (Kd.R_newM (M := fun k_ => (w.heap.size ≤ k_)) ho0 (keep_size (w := w) (g := g) (row := none) (by exact jK HK.out)) (fun k_ h_ => h_)) (rl HO291.out)) (rl HO294.out)) (rl HO298.out)) (rl HO301.out)) (keep_size (w := w) (g := g) (row := none) (by exact jK HK.out))); have HO308 := Aside0.mk (Kd.R_lower (Kd.R_new' (Kd.R_new' (Kd.R_new' (Kd.R_new' (Kd.R_newM (M := fun k_ => (w.heap.size ≤ k_)) ho1 (keep_size (w := w) (g := g) (row := none) (by exact jK HK.out)) (fun k_ h_ => h_)) (rl HO291.out)) (rl HO294.out)) (rl HO298.out)) (rl HO301.out)) (keep_size (w := w) (g := g) (row := none) (by exact jK HK.out))); replace HO291 := Aside0.mk (o2 HO291.out hb ho0 ho1); replace HO294 := Aside0.mk (o2 HO294.out hb ho0 ho1); replace HO298 := Aside0.mk (o2 HO298.out hb ho0 ho1); replace HO301 := Aside0.mk (o2 HO301.out hb ho0 ho1); replace HI0 := Aside0.mk (IsS69.below (by exact IsS69.j HI0.out) hb); replace HK := Aside0.mk (kbl HK.out hb); replace HB := Aside0.mk (bj HB.out hb); (try clear hb); (try clear ho0); (try clear ho1); obtain ⟨Ao53, co53, eo53⟩ := Kd.R_slice HO308.out; subst eo53; obtain ⟨Ao54, co54, eo54⟩ := Kd.R_slice HO305.out; subst eo54) | ((with_reducible refine gate_dst (N := 46) rfl ?_); refine Kd.N_lit k45 _ 45 ?hg (N' := 46) ?hd (xs := ([(⟨1, 0, 2, (⟨t289, t292, t295⟩ : S43)⟩ : S45), (⟨2, t230, 0, (⟨t296, t299, t302⟩ : S43)⟩ : S45), (⟨2, wrap64 (1 - t230), 0, (⟨t303, t306, t309⟩ : S43)⟩ : S45)] : List (S45))) (inner := [.int .i64 1, .int .i64 0, .int .i64 2, .slice Ao48 t289.length co48, .slice Ao47 t292.length co47, .int .i64 t295, .int .i64 2, .int .i64 t230, .int .i64 0, .slice Ao51 t296.length co51, .slice Ao50 t299.length co50, .int .i64 t302, .int .i64 2, .int .i64 (wrap64 (1 - t230)), .int .i64 0, .slice Ao54 t303.length co54, .slice Ao53 t306.length co53, .int .i64 t309]) (ok := (fun k_ => (w.heap.size ≤ k_) ∧ k_ ≠ g)) (okp := (fun k_ => (w.heap.size ≤ k_) ∧ k_ ≠ g)) ?hr ?hp (fun _ hk => hk) ((show ∀ k_, w52.heap.size ≤ k_ → (fun k_ => (w.heap.size ≤ k_) ∧ k_ ≠ g) k_ from fun k_ hk => ⟨(Nat.le_trans (keep_size (w := w) (g := g) (row := none) (by exact jK HK.out)) hk), IsS69.fresh (by exact IsS69.j HI0.out) k_ hk⟩) _ (Nat.le_refl _)) (Below.refl _ _) (Nat.le_refl _) (by simp) ?_; (case hd => rfl); (case hg => rfl); (case hr => first | (go_simp; done) | (go_simp; rfl)); (case hp => exact (Reps.c6 (show Kd.FK k45 _ _ (⟨1, 0, 2, (⟨t289, t292, t295⟩ : S43)⟩ : S45) [.int .i64 1, .int .i64 0, .int .i64 2, .slice Ao48 t289.length co48, .slice Ao47 t292.length co47, .int .i64 t295] from (k45_mkF _ _ (⟨1, 0, 2, (⟨t289, t292, t295⟩ : S43)⟩ : S45) (Kd.R_reads' (Kd.R_mono (ok' := (fun k_ => (w.heap.size ≤ k_) ∧ k_ ≠ g)) (IsS69.apart HI0.out (HO291.out) (by decide)) (fun k_ hk => ⟨hk.1.1.1.1.1.1, hk.2⟩))).2.1 (Kd.R_F (Kd.R_mono (ok' := (fun k_ => (w.heap.size ≤ k_) ∧ k_ ≠ g)) (IsS69.apart HI0.out (HO291.out) (by decide)) (fun k_ hk => ⟨hk.1.1.1.1.1.1, hk.2⟩))) (Kd.R_reads' (Kd.R_mono (ok' := (fun k_ => (w.heap.size ≤ k_) ∧ k_ ≠ g)) (IsS69.apart HI0.out (HO294.out) (by decide)) (fun k_ hk => ⟨hk.1.1.1.1.1.1, hk.2⟩))).2.1 (Kd.R_F (Kd.R_mono (ok' := (fun k_ => (w.heap.size ≤ k_) ∧ k_ ≠ g)) (IsS69.apart HI0.out (HO294.out) (by decide)) (fun k_ hk => ⟨hk.1.1.1.1.1.1, hk.2⟩))))) (Reps.c6 (show Kd.FK k45 _ _ (⟨2, t230, 0, (⟨t296, t299, t302⟩ : S43)⟩ : S45) [.int .i64 2, .int .i64 t230, .int .i64 0, .slice Ao51 t296.length co51, .slice Ao50 t299.length co50, .int .i64 t302] from (k45_mkF _ _ (⟨2, t230, 0, (⟨t296, t299, t302⟩ : S43)⟩ : S45) (Kd.R_reads' (Kd.R_mono (ok' := (fun k_ => (w.heap.size ≤ k_) ∧ k_ ≠ g)) (IsS69.apart HI0.out (HO298.out) (by decide)) (fun k_ hk => ⟨hk.1.1.1.1.1.1, hk.2⟩))).2.1 (Kd.R_F (Kd.R_mono (ok' := (fun k_ => (w.heap.size ≤ k_) ∧ k_ ≠ g)) (IsS69.apart HI0.out (HO298.out) (by decide)) (fun k_ hk => ⟨hk.1.1.1.1.1.1, hk.2⟩))) (Kd.R_reads' (Kd.R_mono (ok' := (fun k_ => (w.heap.size ≤ k_) ∧ k_ ≠ g)) (IsS69.apart HI0.out (HO301.out) (by decide)) (fun k_ hk => ⟨hk.1.1.1.1.1.1, hk.2⟩))).2.1 (Kd.R_F (Kd.R_mono (ok' := (fun k_ => (w.heap.size ≤ k_) ∧ k_ ≠ g)) (IsS69.apart HI0.out (HO301.out) (by decide)) (fun k_ hk => ⟨hk.1.1.1.1.1.1, hk.2⟩))))) (Reps.c6 (show Kd.FK k45 _ _ (⟨2, wrap64 (1 - t230), 0, (⟨t303, t306, t309⟩ : S43)⟩ : S45) [.int .i64 2, .int .i64 (wrap64 (1 - t230)), .int .i64 0, .slice Ao54 t303.length co54, .slice Ao53 t306.length co53, .int .i64 t309] from (k45_mkF _ _ (⟨2, wrap64 (1 - t230), 0, (⟨t303, t306, t309⟩ : S43)⟩ : S45) (Kd.R_reads' (Kd.R_mono (ok' := (fun k_ => (w.heap.size ≤ k_) ∧ k_ ≠ g)) (IsS69.apart HI0.out (HO305.out) (by decide)) (fun k_ hk => ⟨hk.1.1.1.1.1.1, hk.2⟩))).2.1 (Kd.R_F (Kd.R_mono (ok' := (fun k_ => (w.heap.size ≤ k_) ∧ k_ ≠ g)) (IsS69.apart HI0.out (HO305.out) (by decide)) (fun k_ hk => ⟨hk.1.1.1.1.1.1, hk.2⟩))) (Kd.R_reads' (Kd.R_mono (ok' := (fun k_ => (w.heap.size ≤ k_) ∧ k_ ≠ g)) (IsS69.apart HI0.out (HO308.out) (by decide)) (fun k_ hk => ⟨hk.1.1.1.1.1.1, hk.2⟩))).2.1 (Kd.R_F (Kd.R_mono (ok' := (fun k_ => (w.heap.size ≤ k_) ∧ k_ ≠ g)) (IsS69.apart HI0.out (HO308.out) (by decide)) (fun k_ hk => ⟨hk.1.1.1.1.1.1, hk.2⟩))))) (Reps.none _ _))))); intro v311 w55 ho56 hb hg_ hnew_; clear hg_ hnew_; (first | rw [← Ny310.out] at ho56 | (simp only [Int.reduceToNat] at ho56; rw [← Ny310.out] at ho56)); replace HO291 := Aside0.mk (rb HO291.out hb); replace HO294 := Aside0.mk (rb HO294.out hb); replace HO298 := Aside0.mk (rb HO298.out hb); replace HO301 := Aside0.mk (rb HO301.out hb); replace HO305 := Aside0.mk (rb HO305.out hb); replace HO308 := Aside0.mk (rb HO308.out hb); have HO312 := Aside0.mk (Kd.N_lower ho56 (keep_size (w := w) (g := g) (row := none) (by exact jK HK.out))); replace HI0 := Aside0.mk (IsS69.below (by exact IsS69.j HI0.out) hb); replace HK := Aside0.mk (kbl HK.out hb); replace HB := Aside0.mk (bj HB.out hb); clear hb ho56))
      go_ret
      exact ⟨_, by first | rfl | (simp [errW_none, errW_some] <;> rfl) | (simp [*, errW_none, errW_some] <;> rfl), by exact lN <| Kd.N_mono HO312.out (fun _ hk => hk.1), by exact IsS69.j HI0.out, by exact jB HB.out, by exact jK HK.out⟩
     ·rw [if_neg c38] at H
      have c38b0 := beq_eq_false_iff_ne.mpr c38
      have c38b1 := bne_iff_ne.mpr c38
      by_cases c57 : t232 = 4
      ·rw [if_pos c57] at H
       have c57b0 := beq_iff_eq.mpr c57
       have c57b1 := bne_eq_false_iff_eq.mpr c57
       clear c57
       obtain ⟨⟨t313, t316, t319⟩, A58, H⟩ := bS H
       try dsimp only at H
       obtain ⟨⟨t320, t323, t326⟩, A59, H⟩ := bS H
       try dsimp only at H
       obtain ⟨y327, hy327⟩ : ∃ y_ : List (S45), y_ = (([(⟨3, 0, 0, (⟨t320, t323, t326⟩ : S43)⟩ : S45)] : List (S45))) := ⟨_, rfl⟩
       replace H : (some (y327, t233)) = some (r1, r2) := by first | (rw [hy327]; exact H) | exact H
       have Ny327 := Aside0.mk hy327
       clear hy327
       simp only [Option.some.injEq, Prod.mk.injEq] at H
       obtain ⟨rfl, rfl⟩ := H
       go_wp2_with (first | ((with_reducible refine gate_callee (f := 64) rfl ?_); refine gL (some 49) Try.func64 #[.int .i64 0, .int .i64 0, .int .i64 0] ?_; (with_reducible refine (spec_l20Num.calls 0 0 0 t313 t316 t319 _ A58.out).mono ?_); rintro e w60 ⟨v314, v317, rfl, ho0, ho1, hb⟩; refine ⟨_, rfl, ?_⟩; have HO315 := Aside0.mk (lwM ho0 HK.out); have HO318 := Aside0.mk (lwM ho1 HK.out); replace HI0 := Aside0.mk (IsS69.below (by exact IsS69.j HI0.out) hb); replace HK := Aside0.mk (kbl HK.out hb); replace HB := Aside0.mk (bj HB.out hb); (try clear hb); (try clear ho0); (try clear ho1); obtain ⟨Ao61, co61, eo61⟩ := Kd.R_slice HO315.out; subst eo61; obtain ⟨Ao62, co62, eo62⟩ := Kd.R_slice HO318.out; subst eo62) | ((with_reducible refine gate_callee (f := 63) rfl ?_); refine gL (some 50) Try.func63 #[.agg #[.slice Ao61 t313.length co61, .slice Ao62 t316.length co62, .int .i64 t319], .int .i64 2, .int .i64 1] ?_; (with_reducible refine (spec_l20With.calls (fun k_ => some k_ = (.slice Ao61 t313.length co61 : Value).ownBlock) (.slice Ao61 t313.length co61) t313 (fun k_ => some k_ = (.slice Ao62 t316.length co62 : Value).ownBlock) (.slice Ao62 t316.length co62) t316 t319 2 1 t320 t323 t326 w0 _ ?side1 ?side2 ?side3 ?side4 ?side5 A59.out).mono ?_); (case side1 => exact jB HB.out); (case side2 => exact Kd.R_lower (Kd.R_tight rfl HO315.out) HL.out); (case side3 => exact fun k_ e_ => (HO315.out.1 k_ e_.symm).2); (case side4 => exact Kd.R_lower (Kd.R_tight rfl HO318.out) HL.out); (case side5 => exact fun k_ e_ => (HO318.out.1 k_ e_.symm).2); rintro e w63 ⟨v321, v324, rfl, ho0, ho1, hb, hkp⟩; refine ⟨_, rfl, ?_⟩; replace HI0 := Aside0.mk (IsS69.kept (by exact IsS69.j HI0.out) hkp (fun hs_ => Or.elim hs_ (fun e_ => (fun e_ => (IsS69.own_ne HI0.out HO315.out (by decide)) e_) e_) (fun e_ => (fun e_ => (IsS69.own_ne HI0.out HO318.out (by decide)) e_) e_))); have HO322 := Aside0.mk (Kd.R_mono (ok' := fun k_ => (w.heap.size ≤ k_) ∧ some k_ ≠ v324.ownBlock) (Kd.R_raise (d := (Kd.int .i64)) (b := w0.heap.size) (b' := w.heap.size) (fun _ _ _ _ h_ => h_) ho0 (fun k_ e_ => Or.elim (ho0.1 k_ e_).1 (fun hs_ => Or.elim hs_ (fun e_ => (fun e_ => Kd.R_base HO315.out k_ e_.symm) e_) (fun e_ => (fun e_ => Kd.R_base HO318.out k_ e_.symm) e_)) (fun hn_ => Nat.le_trans (keep_size (w := w) (g := g) (row := none) (by exact jK HK.out)) hn_))) (fun k_ hk_ => ⟨Or.elim hk_.1 (fun hs_ => Or.elim hs_ (fun hs_ => (HO315.out.1 k_ (hs_).symm).1) (fun hs_ => (HO318.out.1 k_ (hs_).symm).1)) (fun hn_ => (Nat.le_trans (keep_size (w := w) (g := g) (row := none) (by exact jK HK.out)) hn_)), hk_.2⟩)); have HO325 := Aside0.mk (Kd.R_mono (ok' := fun k_ => (w.heap.size ≤ k_) ∧ some k_ ≠ v321.ownBlock) (Kd.R_raise (d := (Kd.int .i64)) (b := w0.heap.size) (b' := w.heap.size) (fun _ _ _ _ h_ => h_) ho1 (fun k_ e_ => Or.elim (ho1.1 k_ e_).1 (fun hs_ => Or.elim hs_ (fun e_ => (fun e_ => Kd.R_base HO315.out k_ e_.symm) e_) (fun e_ => (fun e_ => Kd.R_base HO318.out k_ e_.symm) e_)) (fun hn_ => Nat.le_trans (keep_size (w := w) (g := g) (row := none) (by exact jK HK.out)) hn_))) (fun k_ hk_ => ⟨Or.elim hk_.1 (fun hs_ => Or.elim hs_ (fun hs_ => (HO315.out.1 k_ (hs_).symm).1) (fun hs_ => (HO318.out.1 k_ (hs_).symm).1)) (fun hn_ => (Nat.le_trans (keep_size (w := w) (g := g) (row := none) (by exact jK HK.out)) hn_)), hk_.2⟩)); replace HK := Aside0.mk (Kept.keepG (by exact jK HK.out) hkp (fun k_ hs_ => Or.elim hs_ (fun e_ => (fun e_ => .inr (Kd.R_base HO315.out k_ e_.symm)) e_) (fun e_ => (fun e_ => .inr (Kd.R_base HO318.out k_ e_.symm)) e_))); replace HB := Aside0.mk (hb); clear HO315 HO318; (try clear hb); (try clear hkp); (try clear ho0); (try clear ho1); obtain ⟨Ao64, co64, eo64⟩ := Kd.R_slice HO325.out; subst eo64; obtain ⟨Ao65, co65, eo65⟩ := Kd.R_slice HO322.out; subst eo65) | ((with_reducible refine gate_dst (N := 52) rfl ?_); refine Kd.N_lit k45 _ 45 ?hg (N' := 52) ?hd (xs := ([(⟨3, 0, 0, (⟨t320, t323, t326⟩ : S43)⟩ : S45)] : List (S45))) (inner := [.int .i64 3, .int .i64 0, .int .i64 0, .slice Ao65 t320.length co65, .slice Ao64 t323.length co64, .int .i64 t326]) (ok := (fun k_ => (w.heap.size ≤ k_) ∧ k_ ≠ g)) (okp := (fun k_ => (w.heap.size ≤ k_) ∧ k_ ≠ g)) ?hr ?hp (fun _ hk => hk) ((show ∀ k_, w63.heap.size ≤ k_ → (fun k_ => (w.heap.size ≤ k_) ∧ k_ ≠ g) k_ from fun k_ hk => ⟨(Nat.le_trans (keep_size (w := w) (g := g) (row := none) (by exact jK HK.out)) hk), IsS69.fresh (by exact IsS69.j HI0.out) k_ hk⟩) _ (Nat.le_refl _)) (Below.refl _ _) (Nat.le_refl _) (by simp) ?_; (case hd => rfl); (case hg => rfl); (case hr => first | (go_simp; done) | (go_simp; rfl)); (case hp => exact (Reps.c6 (show Kd.FK k45 _ _ (⟨3, 0, 0, (⟨t320, t323, t326⟩ : S43)⟩ : S45) [.int .i64 3, .int .i64 0, .int .i64 0, .slice Ao65 t320.length co65, .slice Ao64 t323.length co64, .int .i64 t326] from (k45_mkF _ _ (⟨3, 0, 0, (⟨t320, t323, t326⟩ : S43)⟩ : S45) (Kd.R_reads' (Kd.R_mono (ok' := (fun k_ => (w.heap.size ≤ k_) ∧ k_ ≠ g)) (IsS69.apart HI0.out (HO322.out) (by decide)) (fun k_ hk => ⟨hk.1.1, hk.2⟩))).2.1 (Kd.R_F (Kd.R_mono (ok' := (fun k_ => (w.heap.size ≤ k_) ∧ k_ ≠ g)) (IsS69.apart HI0.out (HO322.out) (by decide)) (fun k_ hk => ⟨hk.1.1, hk.2⟩))) (Kd.R_reads' (Kd.R_mono (ok' := (fun k_ => (w.heap.size ≤ k_) ∧ k_ ≠ g)) (IsS69.apart HI0.out (HO325.out) (by decide)) (fun k_ hk => ⟨hk.1.1, hk.2⟩))).2.1 (Kd.R_F (Kd.R_mono (ok' := (fun k_ => (w.heap.size ≤ k_) ∧ k_ ≠ g)) (IsS69.apart HI0.out (HO325.out) (by decide)) (fun k_ hk => ⟨hk.1.1, hk.2⟩))))) (Reps.none _ _))); intro v328 w66 ho67 hb hg_ hnew_; clear hg_ hnew_; (first | rw [← Ny327.out] at ho67 | (simp only [Int.reduceToNat] at ho67; rw [← Ny327.out] at ho67)); replace HO322 := Aside0.mk (rb HO322.out hb); replace HO325 := Aside0.mk (rb HO325.out hb); have HO329 := Aside0.mk (Kd.N_lower ho67 (keep_size (w := w) (g := g) (row := none) (by exact jK HK.out))); replace HI0 := Aside0.mk (IsS69.below (by exact IsS69.j HI0.out) hb); replace HK := Aside0.mk (kbl HK.out hb); replace HB := Aside0.mk (bj HB.out hb); clear hb ho67))
       go_ret
       exact ⟨_, by first | rfl | (simp [errW_none, errW_some] <;> rfl) | (simp [*, errW_none, errW_some] <;> rfl), by exact lN <| Kd.N_mono HO329.out (fun _ hk => hk.1), by exact IsS69.j HI0.out, by exact jB HB.out, by exact jK HK.out⟩
      ·rw [if_neg c57] at H
       have c57b0 := beq_eq_false_iff_ne.mpr c57
       have c57b1 := bne_iff_ne.mpr c57
       by_cases c68 : t232 = 5
       ·rw [if_pos c68] at H
        have c68b0 := beq_iff_eq.mpr c68
        have c68b1 := bne_eq_false_iff_eq.mpr c68
        clear c68
        obtain ⟨⟨t330, t333, t336⟩, A69, H⟩ := bS H
        try dsimp only at H
        obtain ⟨⟨t337, t340, t343⟩, A70, H⟩ := bS H
        try dsimp only at H
        obtain ⟨⟨t344, t347, t350⟩, A71, H⟩ := bS H
        try dsimp only at H
        obtain ⟨⟨t351, t354, t357⟩, A72, H⟩ := bS H
        try dsimp only at H
        obtain ⟨y358, hy358⟩ : ∃ y_ : List (S45), y_ = (([(⟨1, 0, 1, (⟨t344, t347, t350⟩ : S43)⟩ : S45), (⟨2, 2, 0, (⟨t351, t354, t357⟩ : S43)⟩ : S45)] : List (S45))) := ⟨_, rfl⟩
        replace H : (some (y358, t233)) = some (r1, r2) := by first | (rw [hy358]; exact H) | exact H
        have Ny358 := Aside0.mk hy358
        clear hy358
        simp only [Option.some.injEq, Prod.mk.injEq] at H
        obtain ⟨rfl, rfl⟩ := H
        go_wp2_with (first | ((with_reducible refine gate_callee (f := 64) rfl ?_); refine gL (some 55) Try.func64 #[.int .i64 0, .int .i64 1, .int .i64 5] ?_; (with_reducible refine (spec_l20Num.calls 0 1 5 t330 t333 t336 _ A69.out).mono ?_); rintro e w73 ⟨v331, v334, rfl, ho0, ho1, hb⟩; refine ⟨_, rfl, ?_⟩; have HO332 := Aside0.mk (lwM ho0 HK.out); have HO335 := Aside0.mk (lwM ho1 HK.out); replace HI0 := Aside0.mk (IsS69.below (by exact IsS69.j HI0.out) hb); replace HK := Aside0.mk (kbl HK.out hb); replace HB := Aside0.mk (bj HB.out hb); (try clear hb); (try clear ho0); (try clear ho1); obtain ⟨Ao74, co74, eo74⟩ := Kd.R_slice HO332.out; subst eo74; obtain ⟨Ao75, co75, eo75⟩ := Kd.R_slice HO335.out; subst eo75) | ((with_reducible refine gate_callee (f := 63) rfl ?_); refine gL (some 56) Try.func63 #[.agg #[.slice Ao74 t330.length co74, .slice Ao75 t333.length co75, .int .i64 t336], .int .i64 0, .int .i64 1] ?_; (with_reducible refine (spec_l20With.calls (fun k_ => some k_ = (.slice Ao74 t330.length co74 : Value).ownBlock) (.slice Ao74 t330.length co74) t330 (fun k_ => some k_ = (.slice Ao75 t333.length co75 : Value).ownBlock) (.slice Ao75 t333.length co75) t333 t336 0 1 t337 t340 t343 w0 _ ?side1 ?side2 ?side3 ?side4 ?side5 A70.out).mono ?_); (case side1 => exact jB HB.out); (case side2 => exact Kd.R_lower (Kd.R_tight rfl HO332.out) HL.out); (case side3 => exact fun k_ e_ => (HO332.out.1 k_ e_.symm).2); (case side4 => exact Kd.R_lower (Kd.R_tight rfl HO335.out) HL.out); (case side5 => exact fun k_ e_ => (HO335.out.1 k_ e_.symm).2); rintro e w76 ⟨v338, v341, rfl, ho0, ho1, hb, hkp⟩; refine ⟨_, rfl, ?_⟩; replace HI0 := Aside0.mk (IsS69.kept (by exact IsS69.j HI0.out) hkp (fun hs_ => Or.elim hs_ (fun e_ => (fun e_ => (IsS69.own_ne HI0.out HO332.out (by decide)) e_) e_) (fun e_ => (fun e_ => (IsS69.own_ne HI0.out HO335.out (by decide)) e_) e_))); have HO339 := Aside0.mk (Kd.R_mono (ok' := fun k_ => (w.heap.size ≤ k_) ∧ some k_ ≠ v341.ownBlock) (Kd.R_raise (d := (Kd.int .i64)) (b := w0.heap.size) (b' := w.heap.size) (fun _ _ _ _ h_ => h_) ho0 (fun k_ e_ => Or.elim (ho0.1 k_ e_).1 (fun hs_ => Or.elim hs_ (fun e_ => (fun e_ => Kd.R_base HO332.out k_ e_.symm) e_) (fun e_ => (fun e_ => Kd.R_base HO335.out k_ e_.symm) e_)) (fun hn_ => Nat.le_trans (keep_size (w := w) (g := g) (row := none) (by exact jK HK.out)) hn_))) (fun k_ hk_ => ⟨Or.elim hk_.1 (fun hs_ => Or.elim hs_ (fun hs_ => (HO332.out.1 k_ (hs_).symm).1) (fun hs_ => (HO335.out.1 k_ (hs_).symm).1)) (fun hn_ => (Nat.le_trans (keep_size (w := w) (g := g) (row := none) (by exact jK HK.out)) hn_)), hk_.2⟩)); have HO342 := Aside0.mk (Kd.R_mono (ok' := fun k_ => (w.heap.size ≤ k_) ∧ some k_ ≠ v338.ownBlock) (Kd.R_raise (d := (Kd.int .i64)) (b := w0.heap.size) (b' := w.heap.size) (fun _ _ _ _ h_ => h_) ho1 (fun k_ e_ => Or.elim (ho1.1 k_ e_).1 (fun hs_ => Or.elim hs_ (fun e_ => (fun e_ => Kd.R_base HO332.out k_ e_.symm) e_) (fun e_ => (fun e_ => Kd.R_base HO335.out k_ e_.symm) e_)) (fun hn_ => Nat.le_trans (keep_size (w := w) (g := g) (row := none) (by exact jK HK.out)) hn_))) (fun k_ hk_ => ⟨Or.elim hk_.1 (fun hs_ => Or.elim hs_ (fun hs_ => (HO332.out.1 k_ (hs_).symm).1) (fun hs_ => (HO335.out.1 k_ (hs_).symm).1)) (fun hn_ => (Nat.le_trans (keep_size (w := w) (g := g) (row := none) (by exact jK HK.out)) hn_)), hk_.2⟩)); replace HK := Aside0.mk (Kept.keepG (by exact jK HK.out) hkp (fun k_ hs_ => Or.elim hs_ (fun e_ => (fun e_ => .inr (Kd.R_base HO332.out k_ e_.symm)) e_) (fun e_ => (fun e_ => .inr (Kd.R_base HO335.out k_ e_.symm)) e_))); replace HB := Aside0.mk (hb); clear HO332 HO335; (try clear hb); (try clear hkp); (try clear ho0); (try clear ho1); obtain ⟨Ao77, co77, eo77⟩ := Kd.R_slice HO339.out; subst eo77; obtain ⟨Ao78, co78, eo78⟩ := Kd.R_slice HO342.out; subst eo78) | ((with_reducible refine gate_callee (f := 63) rfl ?_); refine gL (some 57) Try.func63 #[.agg #[.slice Ao77 t337.length co77, .slice Ao78 t340.length co78, .int .i64 t343], .int .i64 1, .int .i64 (-1)] ?_; (with_reducible refine (spec_l20With.calls (fun k_ => some k_ = (.slice Ao77 t337.length co77 : Value).ownBlock) (.slice Ao77 t337.length co77) t337 (fun k_ => some k_ = (.slice Ao78 t340.length co78 : Value).ownBlock) (.slice Ao78 t340.length co78) t340 t343 1 (-1) t344 t347 t350 w0 _ ?side1 ?side2 ?side3 ?side4 ?side5 A71.out).mono ?_); (case side1 => exact jB HB.out); (case side2 => exact Kd.R_lower (Kd.R_tight rfl HO339.out) HL.out); (case side3 => exact fun k_ e_ => (HO339.out.1 k_ e_.symm).2); (case side4 => exact Kd.R_lower (Kd.R_tight rfl HO342.out) HL.out); (case side5 => exact fun k_ e_ => (HO342.out.1 k_ e_.symm).2); rintro e w79 ⟨v345, v348, rfl, ho0, ho1, hb, hkp⟩; refine ⟨_, rfl, ?_⟩; replace HI0 := Aside0.mk (IsS69.kept (by exact IsS69.j HI0.out) hkp (fun hs_ => Or.elim hs_ (fun e_ => (fun e_ => (IsS69.own_ne HI0.out HO339.out (by decide)) e_) e_) (fun e_ => (fun e_ => (IsS69.own_ne HI0.out HO342.out (by decide)) e_) e_))); have HO346 := Aside0.mk (Kd.R_mono (ok' := fun k_ => (w.heap.size ≤ k_) ∧ some k_ ≠ v348.ownBlock) (Kd.R_raise (d := (Kd.int .i64)) (b := w0.heap.size) (b' := w.heap.size) (fun _ _ _ _ h_ => h_) ho0 (fun k_ e_ => Or.elim (ho0.1 k_ e_).1 (fun hs_ => Or.elim hs_ (fun e_ => (fun e_ => Kd.R_base HO339.out k_ e_.symm) e_) (fun e_ => (fun e_ => Kd.R_base HO342.out k_ e_.symm) e_)) (fun hn_ => Nat.le_trans (keep_size (w := w) (g := g) (row := none) (by exact jK HK.out)) hn_))) (fun k_ hk_ => ⟨Or.elim hk_.1 (fun hs_ => Or.elim hs_ (fun hs_ => (HO339.out.1 k_ (hs_).symm).1) (fun hs_ => (HO342.out.1 k_ (hs_).symm).1)) (fun hn_ => (Nat.le_trans (keep_size (w := w) (g := g) (row := none) (by exact jK HK.out)) hn_)), hk_.2⟩)); have HO349 := Aside0.mk (Kd.R_mono (ok' := fun k_ => (w.heap.size ≤ k_) ∧ some k_ ≠ v345.ownBlock) (Kd.R_raise (d := (Kd.int .i64)) (b := w0.heap.size) (b' := w.heap.size) (fun _ _ _ _ h_ => h_) ho1 (fun k_ e_ => Or.elim (ho1.1 k_ e_).1 (fun hs_ => Or.elim hs_ (fun e_ => (fun e_ => Kd.R_base HO339.out k_ e_.symm) e_) (fun e_ => (fun e_ => Kd.R_base HO342.out k_ e_.symm) e_)) (fun hn_ => Nat.le_trans (keep_size (w := w) (g := g) (row := none) (by exact jK HK.out)) hn_))) (fun k_ hk_ => ⟨Or.elim hk_.1 (fun hs_ => Or.elim hs_ (fun hs_ => (HO339.out.1 k_ (hs_).symm).1) (fun hs_ => (HO342.out.1 k_ (hs_).symm).1)) (fun hn_ => (Nat.le_trans (keep_size (w := w) (g := g) (row := none) (by exact jK HK.out)) hn_)), hk_.2⟩)); replace HK := Aside0.mk (Kept.keepG (by exact jK HK.out) hkp (fun k_ hs_ => Or.elim hs_ (fun e_ => (fun e_ => .inr (Kd.R_base HO339.out k_ e_.symm)) e_) (fun e_ => (fun e_ => .inr (Kd.R_base HO342.out k_ e_.symm)) e_))); replace HB := Aside0.mk (hb); clear HO339 HO342; (try clear hb); (try clear hkp); (try clear ho0); (try clear ho1); obtain ⟨Ao80, co80, eo80⟩ := Kd.R_slice HO349.out; subst eo80; obtain ⟨Ao81, co81, eo81⟩ := Kd.R_slice HO346.out; subst eo81) | ((with_reducible refine gate_callee (f := 64) rfl ?_); refine gL (some 59) Try.func64 #[.int .i64 0, .int .i64 0, .int .i64 1] ?_; (with_reducible refine (spec_l20Num.calls 0 0 1 t351 t354 t357 _ A72.out).mono ?_); rintro e w82 ⟨v352, v355, rfl, ho0, ho1, hb⟩; refine ⟨_, rfl, ?_⟩; have HO353 := Aside0.mk (Kd.R_lower (Kd.R_new' (Kd.R_new' (Kd.R_newM (M := fun k_ => (w.heap.size ≤ k_)) ho0 (keep_size (w := w) (g := g) (row := none) (by exact jK HK.out)) (fun k_ h_ => h_)) (rl HO346.out)) (rl HO349.out)) (keep_size (w := w) (g := g) (row := none) (by exact jK HK.out))); have HO356 := Aside0.mk (Kd.R_lower (Kd.R_new' (Kd.R_new' (Kd.R_newM (M := fun k_ => (w.heap.size ≤ k_)) ho1 (keep_size (w := w) (g := g) (row := none) (by exact jK HK.out)) (fun k_ h_ => h_)) (rl HO346.out)) (rl HO349.out)) (keep_size (w := w) (g := g) (row := none) (by exact jK HK.out))); replace HO346 := Aside0.mk (o2 HO346.out hb ho0 ho1); replace HO349 := Aside0.mk (o2 HO349.out hb ho0 ho1); replace HI0 := Aside0.mk (IsS69.below (by exact IsS69.j HI0.out) hb); replace HK := Aside0.mk (kbl HK.out hb); replace HB := Aside0.mk (bj HB.out hb); (try clear hb); (try clear ho0); (try clear ho1); obtain ⟨Ao83, co83, eo83⟩ := Kd.R_slice HO356.out; subst eo83; obtain ⟨Ao84, co84, eo84⟩ := Kd.R_slice HO353.out; subst eo84) | ((with_reducible refine gate_dst (N := 61) rfl ?_); refine Kd.N_lit k45 _ 45 ?hg (N' := 61) ?hd (xs := ([(⟨1, 0, 1, (⟨t344, t347, t350⟩ : S43)⟩ : S45), (⟨2, 2, 0, (⟨t351, t354, t357⟩ : S43)⟩ : S45)] : List (S45))) (inner := [.int .i64 1, .int .i64 0, .int .i64 1, .slice Ao81 t344.length co81, .slice Ao80 t347.length co80, .int .i64 t350, .int .i64 2, .int .i64 2, .int .i64 0, .slice Ao84 t351.length co84, .slice Ao83 t354.length co83, .int .i64 t357]) (ok := (fun k_ => (w.heap.size ≤ k_) ∧ k_ ≠ g)) (okp := (fun k_ => (w.heap.size ≤ k_) ∧ k_ ≠ g)) ?hr ?hp (fun _ hk => hk) ((show ∀ k_, w82.heap.size ≤ k_ → (fun k_ => (w.heap.size ≤ k_) ∧ k_ ≠ g) k_ from fun k_ hk => ⟨(Nat.le_trans (keep_size (w := w) (g := g) (row := none) (by exact jK HK.out)) hk), IsS69.fresh (by exact IsS69.j HI0.out) k_ hk⟩) _ (Nat.le_refl _)) (Below.refl _ _) (Nat.le_refl _) (by simp) ?_; (case hd => rfl); (case hg => rfl); (case hr => first | (go_simp; done) | (go_simp; rfl)); (case hp => exact (Reps.c6 (show Kd.FK k45 _ _ (⟨1, 0, 1, (⟨t344, t347, t350⟩ : S43)⟩ : S45) [.int .i64 1, .int .i64 0, .int .i64 1, .slice Ao81 t344.length co81, .slice Ao80 t347.length co80, .int .i64 t350] from (k45_mkF _ _ (⟨1, 0, 1, (⟨t344, t347, t350⟩ : S43)⟩ : S45) (Kd.R_reads' (Kd.R_mono (ok' := (fun k_ => (w.heap.size ≤ k_) ∧ k_ ≠ g)) (IsS69.apart HI0.out (HO346.out) (by decide)) (fun k_ hk => ⟨hk.1.1.1.1, hk.2⟩))).2.1 (Kd.R_F (Kd.R_mono (ok' := (fun k_ => (w.heap.size ≤ k_) ∧ k_ ≠ g)) (IsS69.apart HI0.out (HO346.out) (by decide)) (fun k_ hk => ⟨hk.1.1.1.1, hk.2⟩))) (Kd.R_reads' (Kd.R_mono (ok' := (fun k_ => (w.heap.size ≤ k_) ∧ k_ ≠ g)) (IsS69.apart HI0.out (HO349.out) (by decide)) (fun k_ hk => ⟨hk.1.1.1.1, hk.2⟩))).2.1 (Kd.R_F (Kd.R_mono (ok' := (fun k_ => (w.heap.size ≤ k_) ∧ k_ ≠ g)) (IsS69.apart HI0.out (HO349.out) (by decide)) (fun k_ hk => ⟨hk.1.1.1.1, hk.2⟩))))) (Reps.c6 (show Kd.FK k45 _ _ (⟨2, 2, 0, (⟨t351, t354, t357⟩ : S43)⟩ : S45) [.int .i64 2, .int .i64 2, .int .i64 0, .slice Ao84 t351.length co84, .slice Ao83 t354.length co83, .int .i64 t357] from (k45_mkF _ _ (⟨2, 2, 0, (⟨t351, t354, t357⟩ : S43)⟩ : S45) (Kd.R_reads' (Kd.R_mono (ok' := (fun k_ => (w.heap.size ≤ k_) ∧ k_ ≠ g)) (IsS69.apart HI0.out (HO353.out) (by decide)) (fun k_ hk => ⟨hk.1.1.1.1, hk.2⟩))).2.1 (Kd.R_F (Kd.R_mono (ok' := (fun k_ => (w.heap.size ≤ k_) ∧ k_ ≠ g)) (IsS69.apart HI0.out (HO353.out) (by decide)) (fun k_ hk => ⟨hk.1.1.1.1, hk.2⟩))) (Kd.R_reads' (Kd.R_mono (ok' := (fun k_ => (w.heap.size ≤ k_) ∧ k_ ≠ g)) (IsS69.apart HI0.out (HO356.out) (by decide)) (fun k_ hk => ⟨hk.1.1.1.1, hk.2⟩))).2.1 (Kd.R_F (Kd.R_mono (ok' := (fun k_ => (w.heap.size ≤ k_) ∧ k_ ≠ g)) (IsS69.apart HI0.out (HO356.out) (by decide)) (fun k_ hk => ⟨hk.1.1.1.1, hk.2⟩))))) (Reps.none _ _)))); intro v359 w85 ho86 hb hg_ hnew_; clear hg_ hnew_; (first | rw [← Ny358.out] at ho86 | (simp only [Int.reduceToNat] at ho86; rw [← Ny358.out] at ho86)); replace HO346 := Aside0.mk (rb HO346.out hb); replace HO349 := Aside0.mk (rb HO349.out hb); replace HO353 := Aside0.mk (rb HO353.out hb); replace HO356 := Aside0.mk (rb HO356.out hb); have HO360 := Aside0.mk (Kd.N_lower ho86 (keep_size (w := w) (g := g) (row := none) (by exact jK HK.out))); replace HI0 := Aside0.mk (IsS69.below (by exact IsS69.j HI0.out) hb); replace HK := Aside0.mk (kbl HK.out hb); replace HB := Aside0.mk (bj HB.out hb); clear hb ho86))
        go_ret
        exact ⟨_, by first | rfl | (simp [errW_none, errW_some] <;> rfl) | (simp [*, errW_none, errW_some] <;> rfl), by exact lN <| Kd.N_mono HO360.out (fun _ hk => hk.1), by exact IsS69.j HI0.out, by exact jB HB.out, by exact jK HK.out⟩
       ·rw [if_neg c68] at H
        have c68b0 := beq_eq_false_iff_ne.mpr c68
        have c68b1 := bne_iff_ne.mpr c68
        obtain ⟨y361, hy361⟩ : ∃ y_ : List (S45), y_ = (([] : List (S45))) := ⟨_, rfl⟩
        replace H : ((spec_l20Rd_pick.f kj3 s0_0 t233 5).bind fun bt364 => (spec_l20Act.l0 kj3 y361 (wrap64 (1 + bt364.1)) s0_0 bt364.2)) = some (r1, r2) := by first | (rw [hy361]; exact H) | exact H
        have Ny361 := Aside0.mk hy361
        clear hy361
        obtain ⟨⟨t364, t365⟩, A87, H⟩ := bS H
        try dsimp only at H
        have H' := Aside0.mk H
        clear H
        go_wp2_with (first | ((with_reducible refine gate_dst (N := 62) rfl ?_); refine Kd.N_lit k45 _ 45 ?hg (N' := 62) ?hd (xs := ([] : List (S45))) (inner := []) (ok := (fun k_ => (w.heap.size ≤ k_) ∧ k_ ≠ g)) (okp := (fun k_ => (w.heap.size ≤ k_) ∧ k_ ≠ g)) ?hr ?hp (fun _ hk => hk) ((show ∀ k_, wc.heap.size ≤ k_ → (fun k_ => (w.heap.size ≤ k_) ∧ k_ ≠ g) k_ from fun k_ hk => ⟨(Nat.le_trans (keep_size (w := w) (g := g) (row := none) (by exact jK HK.out)) hk), IsS69.fresh (by exact IsS69.j HI0.out) k_ hk⟩) _ (Nat.le_refl _)) (Below.refl _ _) (Nat.le_refl _) (by simp) ?_; (case hd => rfl); (case hg => rfl); (case hr => first | (go_simp; done) | (go_simp; rfl)); (case hp => exact (Reps.none _ _)); intro v362 w88 ho89 hb hg_ hnew_; clear hg_ hnew_; (first | rw [← Ny361.out] at ho89 | (simp only [Int.reduceToNat] at ho89; rw [← Ny361.out] at ho89)); have HO363 := Aside0.mk (Kd.N_lower ho89 (keep_size (w := w) (g := g) (row := none) (by exact jK HK.out))); replace HI0 := Aside0.mk (IsS69.below (by exact IsS69.j HI0.out) hb); replace HK := Aside0.mk (kbl HK.out hb); replace HB := Aside0.mk (bj HB.out hb); clear hb ho89) | ((with_reducible refine gate_callee (f := 20) rfl ?_); refine gL (some 64) Try.func20 #[.pointer (some ⟨g, 0, none⟩), .int .i64 5] ?_; (with_reducible refine (spec_l20Rd_pick.calls kj3 g s0_0 t233 5 t364 t365 w0 _ ?side1 ?side2 A87.out).mono ?_); (case side1 => exact IsS69.j HI0.out); (case side2 => exact jB HB.out); rintro e w90 ⟨rfl, hi, hb, hk⟩; refine ⟨_, rfl, ?_⟩; replace HO363 := Aside0.mk (Kd.N_mono (Kd.N_keep (Kd.N_mono (ok := fun k_ => (((w.heap.size ≤ k_)) ∧ k_ ≠ g)) (by exact lN <| HO363.out) (fun k_ hk_ => (⟨hk_, hk_.2⟩ : _ ∧ k_ ≠ g))) hk (fun _ h => h.2)) (fun _ h => h.1)); replace HK := Aside0.mk (kt HK.out hk); replace HB := Aside0.mk (hb); replace HI0 := Aside0.mk (hi); (try clear hb hk hi)))
        go_loopg [4, 5] kj3 (fun kq v4 v5 w' => ∃ (x4_2 : List (S45)) (x5_2 : Int) (x1001_2 : Int), v5 = .int .i64 x5_2 ∧ Aside0 (spec_l20Act.l0 kq x4_2 x5_2 s0_0 x1001_2 = some (r1, r2)) ∧ Aside0 (kq ≤ kj3) ∧ Aside0 (Kd.N k45 45 w' w.heap.size (fun k_ => (w.heap.size ≤ k_) ∧ k_ ≠ g) v4 x4_2) ∧ Aside0 (IsS69 w0 w' g s0_0 x1001_2) ∧ Aside0 (KeepBut w w' g none) ∧ Aside0 (Below w0.heap.size w0 w'))
        case atStart => exact ⟨(y361), (wrap64 (1 + t364)), (t365), (by first | rfl | (simp; done) | (simp [*]; done)), H', ⟨Nat.le_refl _⟩, ⟨by exact lN <| HO363.out⟩, ⟨by exact IsS69.j HI0.out⟩, ⟨by exact jK HK.out⟩, ⟨by exact jB HB.out⟩⟩
        case round =>
         clear H'
         try clear c2
         try clear p2
         try clear c3
         try clear c5
         try clear c6
         try clear p6
         try clear c7
         try clear c7b0
         try clear c7b1
         try clear c8
         try clear c20
         try clear c31
         try clear c31b0
         try clear c31b1
         try clear c38
         try clear c38b0
         try clear c38b1
         try clear c53
         try clear c57
         try clear c57b0
         try clear c57b1
         try clear c63
         try clear c64
         try clear p64
         try clear c68
         try clear c68b0
         try clear c68b1
         try clear p2
         obtain ⟨x4_2, x5_2, x1001_2, rfl, HA, HK2, HO_4, HI0, HK, HB⟩ := hrel
         cases gk with
         | zero => exact absurd HA.out (by simp [spec_l20Act.l0])
         | succ k2 =>
          have H := HA.out
          clear HA
          simp only [spec_l20Act.l0] at H
          by_cases c91 : x5_2 > 0
          ·rw [if_pos c91] at H
           have c91b0 := decide_eq_true c91
           clear c91
           obtain ⟨⟨t366, t367, t368, t369, t372, t375, t376⟩, A92, H⟩ := bS H
           try dsimp only at H
           obtain ⟨y378, hy378⟩ : ∃ y_ : List (S45), y_ = (([] : List (S45))) := ⟨_, rfl⟩
           replace H : (if y378.length + x4_2.length < 1759218604441 then ((some (y378 ++ x4_2 : List (S45))).bind fun y381 => ((some (([(⟨t366, t367, t368, (⟨t369, t372, t375⟩ : S43)⟩ : S45)] : List (S45)) : List (S45))).bind fun y384 => (if y381.length + y384.length < 1759218604441 then ((spec_ActOk.f k2 (y381 ++ y384)).bind fun t390 => (if t390 = true then ((some (([(⟨t366, t367, t368, (⟨t369, t372, t375⟩ : S43)⟩ : S45)] : List (S45)) : List (S45))).bind fun y391 => (if x4_2.length + y391.length < 1759218604441 then (spec_l20Act.l0 k2 (x4_2 ++ y391) (wrap64 (x5_2 - 1)) s0_0 t376) else (none))) else (spec_l20Act.l0 k2 x4_2 (wrap64 (x5_2 - 1)) s0_0 t376))) else (none)))) else (none)) = some (r1, r2) := by first | (rw [hy378]; exact H) | exact H
           have Ny378 := Aside0.mk hy378
           clear hy378
           by_cases c93 : y378.length + x4_2.length < 1759218604441
           ·rw [if_pos c93] at H
            have LMc93 := Aside0.mk c93
            clear c93
            obtain ⟨y381, hy381⟩ : ∃ y_ : List (S45), y_ = (y378 ++ x4_2) := ⟨_, rfl⟩
            replace H : ((some (([(⟨t366, t367, t368, (⟨t369, t372, t375⟩ : S43)⟩ : S45)] : List (S45)) : List (S45))).bind fun y384 => (if y381.length + y384.length < 1759218604441 then ((spec_ActOk.f k2 (y381 ++ y384)).bind fun t390 => (if t390 = true then ((some (([(⟨t366, t367, t368, (⟨t369, t372, t375⟩ : S43)⟩ : S45)] : List (S45)) : List (S45))).bind fun y391 => (if x4_2.length + y391.length < 1759218604441 then (spec_l20Act.l0 k2 (x4_2 ++ y391) (wrap64 (x5_2 - 1)) s0_0 t376) else (none))) else (spec_l20Act.l0 k2 x4_2 (wrap64 (x5_2 - 1)) s0_0 t376))) else (none))) = some (r1, r2) := by first | (rw [hy381]; exact H) | exact H
            have Ny381 := Aside0.mk hy381
            clear hy381
            obtain ⟨y384, hy384⟩ : ∃ y_ : List (S45), y_ = (([(⟨t366, t367, t368, (⟨t369, t372, t375⟩ : S43)⟩ : S45)] : List (S45))) := ⟨_, rfl⟩
            replace H : (if y381.length + y384.length < 1759218604441 then ((spec_ActOk.f k2 (y381 ++ y384)).bind fun t390 => (if t390 = true then ((some (([(⟨t366, t367, t368, (⟨t369, t372, t375⟩ : S43)⟩ : S45)] : List (S45)) : List (S45))).bind fun y391 => (if x4_2.length + y391.length < 1759218604441 then (spec_l20Act.l0 k2 (x4_2 ++ y391) (wrap64 (x5_2 - 1)) s0_0 t376) else (none))) else (spec_l20Act.l0 k2 x4_2 (wrap64 (x5_2 - 1)) s0_0 t376))) else (none)) = some (r1, r2) := by first | (rw [hy384]; exact H) | exact H
            have Ny384 := Aside0.mk hy384
            clear hy384
            by_cases c94 : y381.length + y384.length < 1759218604441
            ·rw [if_pos c94] at H
             have LMc94 := Aside0.mk c94
             clear c94
             obtain ⟨y387, hy387⟩ : ∃ y_ : List (S45), y_ = (y381 ++ y384) := ⟨_, rfl⟩
             replace H : ((spec_ActOk.f k2 y387).bind fun t390 => (if t390 = true then ((some (([(⟨t366, t367, t368, (⟨t369, t372, t375⟩ : S43)⟩ : S45)] : List (S45)) : List (S45))).bind fun y391 => (if x4_2.length + y391.length < 1759218604441 then (spec_l20Act.l0 k2 (x4_2 ++ y391) (wrap64 (x5_2 - 1)) s0_0 t376) else (none))) else (spec_l20Act.l0 k2 x4_2 (wrap64 (x5_2 - 1)) s0_0 t376))) = some (r1, r2) := by first | (rw [hy387]; exact H) | exact H
             have Ny387 := Aside0.mk hy387
             clear hy387
             obtain ⟨t390, A95, H⟩ := bS H
             try dsimp only at H
             by_cases c96 : t390 = true
             ·subst c96
              have H1 : ((some (([(⟨t366, t367, t368, (⟨t369, t372, t375⟩ : S43)⟩ : S45)] : List (S45)) : List (S45))).bind fun y391 => (if x4_2.length + y391.length < 1759218604441 then (spec_l20Act.l0 k2 (x4_2 ++ y391) (wrap64 (x5_2 - 1)) s0_0 t376) else (none))) = some (r1, r2) := by rw [if_pos rfl] at H; exact H
              clear H
              have H := H1
              clear H1
              obtain ⟨y391, hy391⟩ : ∃ y_ : List (S45), y_ = (([(⟨t366, t367, t368, (⟨t369, t372, t375⟩ : S43)⟩ : S45)] : List (S45))) := ⟨_, rfl⟩
              replace H : (if x4_2.length + y391.length < 1759218604441 then (spec_l20Act.l0 k2 (x4_2 ++ y391) (wrap64 (x5_2 - 1)) s0_0 t376) else (none)) = some (r1, r2) := by first | (rw [hy391]; exact H) | exact H
              have Ny391 := Aside0.mk hy391
              clear hy391
              by_cases c97 : x4_2.length + y391.length < 1759218604441
              ·rw [if_pos c97] at H
               have LMc97 := Aside0.mk c97
               clear c97
               obtain ⟨y394, hy394⟩ : ∃ y_ : List (S45), y_ = (x4_2 ++ y391) := ⟨_, rfl⟩
               replace H : (spec_l20Act.l0 k2 y394 (wrap64 (x5_2 - 1)) s0_0 t376) = some (r1, r2) := by first | (rw [hy394]; exact H) | exact H
               have Ny394 := Aside0.mk hy394
               clear hy394
               have H' := Aside0.mk H
               clear H
               try go_wp2_with (first | ((with_reducible refine gate_callee (f := 65) rfl ?_); refine gL (some 71) Try.func65 #[.pointer (some ⟨g, 0, none⟩)] ?_; (with_reducible refine (spec_l20Line.calls k2 g s0_0 x1001_2 t366 t367 t368 t369 t372 t375 t376 w0 _ ?side1 ?side2 A92.out).mono ?_); (case side1 => exact IsS69.j HI0.out); (case side2 => exact jB HB.out); rintro e w98 ⟨v370, v373, rfl, ho0, ho1, hi, hb, hk⟩; refine ⟨_, rfl, ?_⟩; replace HO_4 := Aside0.mk (Kd.N_mono (Kd.N_told (Kd.N_told (Kd.N_oldK (Kd.N_mono (ok := fun k_ => (((w.heap.size ≤ k_)) ∧ k_ ≠ g)) (by exact lN <| HO_4.out) (fun k_ hk_ => (⟨hk_, hk_.2⟩ : _ ∧ k_ ≠ g))) hk) (Kd.R_base ho0)) (Kd.R_base ho1)) (fun _ h_ => h_.1)); have HO371 := Aside0.mk (lwM ho0 HK.out); have HO374 := Aside0.mk (lwM ho1 HK.out); replace HK := Aside0.mk (kt HK.out hk); replace HB := Aside0.mk (hb); replace HI0 := Aside0.mk (hi); (try clear hb hk hi); (try clear ho0); (try clear ho1)) | ((with_reducible refine gate_dst (N := 6) rfl ?_); refine bx 6 #[.int .i64 0, .int .i64 0, .int .i64 0, .slice none 0 0, .slice none 0 0, .int .i64 0] 45 ?_; intro gb377 hg w99 hbox hb; replace HO_4 := Aside0.mk (Kd.N_below (Kd.N_elderB (by exact lN <| HO_4.out) gb377 (Nat.le_of_eq hg.symm)) hb); replace HO371 := Aside0.mk (rb HO371.out hb); replace HO374 := Aside0.mk (rb HO374.out hb); replace HB := Aside0.mk (bj HB.out hb); have BK377 := Aside0.mk (hbox); have GW377 := Aside0.mk ((gk hg HK.out)); have IGW377 : Nonempty _ := ⟨GW377.out⟩; have GE377 := Aside0.mk ((Nat.le_trans HW0.out (gk hg HK.out) : w0.heap.size ≤ gb377)); have IGE377 : Nonempty _ := ⟨GE377.out⟩; replace HK := Aside0.mk (kbl HK.out hb); have NB0_377 := Aside0.mk ((by rw [hg]; exact Nat.ne_of_lt (IsS69.lt (show IsS69 w0 _ g s0_0 t376 from by exact IsS69.j HI0.out)) : g ≠ gb377)); have INB0_377 : Nonempty _ := ⟨NB0_377.out⟩; have NB377_0 := Aside0.mk ((by rw [hg]; exact Nat.ne_of_gt (IsS69.lt (show IsS69 w0 _ g s0_0 t376 from by exact IsS69.j HI0.out)) : gb377 ≠ g)); replace HI0 := Aside0.mk (IsS69.below (by exact IsS69.j HI0.out) hb); clear hb hbox hg; have hnb100 := NB377_0.out; have hnc100 := NB0_377.out; obtain ⟨hcz101_0, hcz101_1, hcz101_2, hcz101_3, hcz101_4, hcz101_5, hfz101_0, hfz101_1, hfz101_2, hfz101_3, hfz101_4, hfz101_5⟩ := cf6 BK377.out; obtain ⟨Ao102, co102, eo102⟩ := Kd.R_slice HO371.out; subst eo102; obtain ⟨Ao103, co103, eo103⟩ := Kd.R_slice HO374.out; subst eo103; obtain ⟨Ao104, co104, eo104⟩ := Kd.N_slice HO_4.out; subst eo104))
               have n0_ : Aside0 (Kd.N k45 45 ((((((w99.setCell ⟨gb377, 0, none⟩ (.int .i64 t366)).setCell ⟨gb377, 1, none⟩ (.int .i64 t367)).setCell ⟨gb377, 2, none⟩ (.int .i64 t368)).setCell ⟨gb377, 3, none⟩ (.slice Ao102 t369.length co102)).setCell ⟨gb377, 4, none⟩ (.slice Ao103 t372.length co103)).setCell ⟨gb377, 5, none⟩ (.int .i64 t375)) w.heap.size (fun k_ => (w.heap.size ≤ k_) ∧ some k_ ≠ ownBlock (.slice Ao102 t369.length co102) ∧ some k_ ≠ ownBlock (.slice Ao103 t372.length co103) ∧ k_ ≠ g ∧ k_ ≠ gb377) (.slice Ao104 x4_2.length co104) x4_2) := ⟨by exact lN <| Kd.N_mono (Kd.N_far (p := ⟨gb377, 5, none⟩) (Kd.N_far (p := ⟨gb377, 4, none⟩) (Kd.N_far (p := ⟨gb377, 3, none⟩) (Kd.N_far (p := ⟨gb377, 2, none⟩) (Kd.N_far (p := ⟨gb377, 1, none⟩) (Kd.N_far (p := ⟨gb377, 0, none⟩) (Kd.N_mono HO_4.out (fun k_ hk => (⟨hk, hk.2⟩ : _ ∧ k_ ≠ gb377))) (fun _ hk => hk.2) (.int .i64 t366)) (fun _ hk => hk.2) (.int .i64 t367)) (fun _ hk => hk.2) (.int .i64 t368)) (fun _ hk => hk.2) (.slice Ao102 t369.length co102)) (fun _ hk => hk.2) (.slice Ao103 t372.length co103)) (fun _ hk => hk.2) (.int .i64 t375)) (fun _ hk => ⟨hk.1.1.1.1.1, ⟨hk.1.1.1.2, ⟨hk.1.1.2, ⟨hk.1.1.1.1.2, hk.1.2⟩⟩⟩⟩)⟩
               have n1_ := Aside0.mk (Kd.R_mono (ok' := (fun k_ => (w.heap.size ≤ k_) ∧ some k_ ≠ ownBlock (.slice Ao103 t372.length co103))) (R6 (w := w99) (x := (.int .i64 t366)) (y := (.int .i64 t367)) (z := (.int .i64 t368)) (u := (.slice Ao102 t369.length co102)) (v := (.slice Ao103 t372.length co103)) (t := (.int .i64 t375)) (lR HO371.out) (lK BK377.out)) (fun _ hk => ⟨hk.1, hk.2⟩))
               have n2_ := Aside0.mk (Kd.R_mono (ok' := (fun k_ => (w.heap.size ≤ k_) ∧ some k_ ≠ ownBlock (.slice Ao102 t369.length co102))) (R6 (w := w99) (x := (.int .i64 t366)) (y := (.int .i64 t367)) (z := (.int .i64 t368)) (u := (.slice Ao102 t369.length co102)) (v := (.slice Ao103 t372.length co103)) (t := (.int .i64 t375)) (lR HO374.out) (lK BK377.out)) (fun _ hk => ⟨hk.1, hk.2⟩))
               have n3_ := Aside0.mk (p6 (w := w99) (x := (.int .i64 t366)) (y := (.int .i64 t367)) (z := (.int .i64 t368)) (u := (.slice Ao102 t369.length co102)) (v := (.slice Ao103 t372.length co103)) (t := (.int .i64 t375)) (lK BK377.out))
               have n4_ : Aside0 (IsS69 w0 ((((((w99.setCell ⟨gb377, 0, none⟩ (.int .i64 t366)).setCell ⟨gb377, 1, none⟩ (.int .i64 t367)).setCell ⟨gb377, 2, none⟩ (.int .i64 t368)).setCell ⟨gb377, 3, none⟩ (.slice Ao102 t369.length co102)).setCell ⟨gb377, 4, none⟩ (.slice Ao103 t372.length co103)).setCell ⟨gb377, 5, none⟩ (.int .i64 t375)) g s0_0 t376) := ⟨by exact IsS69.j HI0.out⟩
               have n5_ : Aside0 (KeepBut w ((((((w99.setCell ⟨gb377, 0, none⟩ (.int .i64 t366)).setCell ⟨gb377, 1, none⟩ (.int .i64 t367)).setCell ⟨gb377, 2, none⟩ (.int .i64 t368)).setCell ⟨gb377, 3, none⟩ (.slice Ao102 t369.length co102)).setCell ⟨gb377, 4, none⟩ (.slice Ao103 t372.length co103)).setCell ⟨gb377, 5, none⟩ (.int .i64 t375)) g none) := ⟨by exact jK HK.out⟩
               have n6_ : Aside0 (Below w0.heap.size w0 ((((((w99.setCell ⟨gb377, 0, none⟩ (.int .i64 t366)).setCell ⟨gb377, 1, none⟩ (.int .i64 t367)).setCell ⟨gb377, 2, none⟩ (.int .i64 t368)).setCell ⟨gb377, 3, none⟩ (.slice Ao102 t369.length co102)).setCell ⟨gb377, 4, none⟩ (.slice Ao103 t372.length co103)).setCell ⟨gb377, 5, none⟩ (.int .i64 t375))) := ⟨by exact jB HB.out⟩
               (try clear HO_4)
               (try clear HO371)
               (try clear HO374)
               (try clear BK377)
               (try clear HI0)
               (try clear HK)
               (try clear HB)
               generalize ((((((w99.setCell ⟨gb377, 0, none⟩ (.int .i64 t366)).setCell ⟨gb377, 1, none⟩ (.int .i64 t367)).setCell ⟨gb377, 2, none⟩ (.int .i64 t368)).setCell ⟨gb377, 3, none⟩ (.slice Ao102 t369.length co102)).setCell ⟨gb377, 4, none⟩ (.slice Ao103 t372.length co103)).setCell ⟨gb377, 5, none⟩ (.int .i64 t375)) = w105 at n0_ n1_ n2_ n3_ n4_ n5_ n6_ ⊢
               have HO_4 := n0_
               have HO371 := n1_
               have HO374 := n2_
               have BK377 := n3_
               have HI0 := n4_
               have HK := n5_
               have HB := n6_
               clear n0_ n1_ n2_ n3_ n4_ n5_ n6_
               replace HO_4 := Aside0.mk (Kd.N_drew HO_4.out)
               replace HO371 := Aside0.mk (Kd.R_drew HO371.out)
               replace HO374 := Aside0.mk (Kd.R_drew HO374.out)
               replace BK377 := Aside0.mk (blk_drew BK377.out)
               replace HI0 := Aside0.mk (IsS69.drew HI0.out)
               replace HK := Aside0.mk (keep_drew HK.out)
               replace HB := Aside0.mk (below_drew1 HB.out)
               refine start_ (n := 7) (S := fun w' => w'.cell? ⟨gb377, 0, none⟩ = some (.int .i64 t366) ∧ w'.cell? ⟨gb377, 1, none⟩ = some (.int .i64 t367) ∧ w'.cell? ⟨gb377, 2, none⟩ = some (.int .i64 t368) ∧ w'.cell? ⟨gb377, 3, none⟩ = some (.slice Ao102 t369.length co102) ∧ w'.cell? ⟨gb377, 4, none⟩ = some (.slice Ao103 t372.length co103) ∧ w'.cell? ⟨gb377, 5, none⟩ = some (.int .i64 t375)) (ds := []) #[false, false, false, false, false, false, false] (by kernel_rfl) rfl rfl (cz6 BK377.out) (fun hHeld => ?_)
               generalize w105.drew = w106 at HO_4 HO371 HO374 BK377 HI0 HK HB hHeld ⊢
               refine pure_ (i := 1) (N := some 73) (v := ?_) (a' := ?_) #[false, true, false, false, false, false, false] rfl rfl (by kernel_rfl) (fun _ _ _ h => h) (Or.inl ⟨by rfl, ?_⟩) ?_ ?_
               rotate_left
               ·intro w'
                go_simp
                with_reducible rfl
               rotate_left
               ·simp only [Act.put, sA, s0, sS, i64_w, i32_w]
                rfl
               refine take_ (i := 3) (N := some 75) (v := ?_) (a' := ?_) #[false, true, false, true, false, false, false] rfl rfl (by kernel_rfl) (fun _ _ _ h => h) (Or.inl ⟨by rfl, ?_⟩) hHeld ?_ ?_
               rotate_left
               ·rintro w' ⟨s0, s1, s2, s3, s4, s5⟩
                go_simp
                with_reducible rfl
               rotate_left
               ·simp only [Act.put, sA, s0, sS, i64_w, i32_w]
                rfl
               refine join_ (σ := Value × Value × Value) 2 #[true, true, true, true, true, false, false] (fun s_ => [(72, s_.1), (74, s_.2.1), (76, s_.2.2)]) (fun s_ w' => (w'.cell? ⟨gb377, 0, none⟩ = some (.int .i64 t366) ∧ w'.cell? ⟨gb377, 1, none⟩ = some (.int .i64 t367) ∧ w'.cell? ⟨gb377, 2, none⟩ = some (.int .i64 t368) ∧ w'.cell? ⟨gb377, 3, none⟩ = some (.slice Ao102 t369.length co102) ∧ w'.cell? ⟨gb377, 4, none⟩ = some (.slice Ao103 t372.length co103) ∧ w'.cell? ⟨gb377, 5, none⟩ = some (.int .i64 t375)) ∧ (Kd.R (Kd.int .i64) 3 w' w.heap.size (fun k_ => (w.heap.size ≤ k_) ∧ some k_ ≠ ownBlock (.slice Ao103 t372.length co103)) (.slice Ao102 t369.length co102) t369) ∧ (Kd.R (Kd.int .i64) 3 w' w.heap.size (fun k_ => (w.heap.size ≤ k_) ∧ some k_ ≠ ownBlock (.slice Ao102 t369.length co102)) (.slice Ao103 t372.length co103) t372) ∧ (Kd.N k45 45 w' w.heap.size (fun k_ => (w.heap.size ≤ k_) ∧ some k_ ≠ ownBlock (.slice Ao102 t369.length co102) ∧ some k_ ≠ ownBlock (.slice Ao103 t372.length co103) ∧ some k_ ≠ (s_.2.2 : Value).ownBlock ∧ k_ ≠ g ∧ k_ ≠ gb377) s_.2.1 y381) ∧ (Kd.N k45 45 w' w.heap.size (fun k_ => (w.heap.size ≤ k_) ∧ some k_ ≠ (s_.2.1 : Value).ownBlock ∧ some k_ ≠ ownBlock (.slice Ao104 x4_2.length co104) ∧ k_ ≠ g ∧ k_ ≠ gb377) s_.2.2 y384) ∧ (Kd.N k45 45 w' w.heap.size (fun k_ => (w.heap.size ≤ k_) ∧ some k_ ≠ ownBlock (.slice Ao102 t369.length co102) ∧ some k_ ≠ ownBlock (.slice Ao103 t372.length co103) ∧ some k_ ≠ (s_.2.1 : Value).ownBlock ∧ some k_ ≠ (s_.2.2 : Value).ownBlock ∧ k_ ≠ g ∧ k_ ≠ gb377) (.slice Ao104 x4_2.length co104) x4_2) ∧ (w'.heap[gb377]? = some (.cells #[.int .i64 t366, .int .i64 t367, .int .i64 t368, .slice Ao102 t369.length co102, .slice Ao103 t372.length co103, .int .i64 t375] 45 (0, 0))) ∧ (IsS69 w0 w' g s0_0 t376) ∧ (KeepBut w w' g none) ∧ (Below w0.heap.size w0 w')) ?_ ?_
               rotate_left
               ·intro hCont
                refine two_ (i := 0) (j := 4) (Ni := some 72) (Nj := some 76) #[true, true, false, true, false, false, false] #[false, true, false, true, true, false, false] rfl rfl rfl rfl (by kernel_rfl) (by decide) (by decide) (fun K hK => ?_) (fun K hK => ?_)
                ·skip
                 refine Kd.N_lit_step k45 _ 45 ?hg (N' := 72) ?hd (xs := ([] : List (S45))) (inner := []) (ok := (fun k_ => (w.heap.size ≤ k_) ∧ some k_ ≠ ownBlock (.slice Ao104 x4_2.length co104) ∧ some k_ ≠ ownBlock (.slice Ao102 t369.length co102) ∧ some k_ ≠ ownBlock (.slice Ao103 t372.length co103) ∧ k_ ≠ gb377 ∧ k_ ≠ g)) (okp := (fun k_ => (w.heap.size ≤ k_) ∧ some k_ ≠ ownBlock (.slice Ao104 x4_2.length co104) ∧ some k_ ≠ ownBlock (.slice Ao102 t369.length co102) ∧ some k_ ≠ ownBlock (.slice Ao103 t372.length co103) ∧ k_ ≠ gb377 ∧ k_ ≠ g)) ?hr ?hp (fun _ hk => hk) ((show ∀ k_, w106.heap.size ≤ k_ → (fun k_ => (w.heap.size ≤ k_) ∧ some k_ ≠ ownBlock (.slice Ao104 x4_2.length co104) ∧ some k_ ≠ ownBlock (.slice Ao102 t369.length co102) ∧ some k_ ≠ ownBlock (.slice Ao103 t372.length co103) ∧ k_ ≠ gb377 ∧ k_ ≠ g) k_ from fun k_ hk => ⟨(Nat.le_trans (keep_size (w := w) (g := g) (row := none) (by exact jK HK.out)) hk), Kd.fresh' (Kd.N_lt (by exact lN <| HO_4.out)) k_ hk, Kd.fresh' (rl HO371.out) k_ hk, Kd.fresh' (rl HO374.out) k_ hk, Kd.freshB (g := gb377) (o := .cells #[.int .i64 t366, .int .i64 t367, .int .i64 t368, .slice Ao102 t369.length co102, .slice Ao103 t372.length co103, .int .i64 t375] 45 (0, 0)) (by exact lK BK377.out) k_ hk, IsS69.fresh (by exact IsS69.j HI0.out) k_ hk⟩) _ (Nat.le_refl _)) (Below.refl _ _) (Nat.le_refl _) (by simp) ?_; (case hd => rfl); (case hg => rfl); (case hr => first | (go_simp; done) | (go_simp; rfl)); (case hp => exact (Reps.none _ _))
                 intro v379 w107 ho108 hb hg_ hnew_
                 clear hg_ hnew_
                 (first | rw [← Ny378.out] at ho108 | (simp only [Int.reduceToNat] at ho108; rw [← Ny378.out] at ho108))
                 replace HO_4 := Aside0.mk (Kd.N_elder' (by exact lN <| HO_4.out) (Kd.N_base ho108) hb)
                 replace HO371 := Aside0.mk (rb HO371.out hb)
                 replace HO374 := Aside0.mk (rb HO374.out hb)
                 have HO380 := Aside0.mk (Kd.N_lower ho108 (keep_size (w := w) (g := g) (row := none) (by exact jK HK.out)))
                 replace HI0 := Aside0.mk (IsS69.below (by exact IsS69.j HI0.out) hb)
                 replace BK377 := Aside0.mk (bb BK377.out hb)
                 replace HK := Aside0.mk (kbl HK.out hb)
                 replace HB := Aside0.mk (bj HB.out hb)
                 clear hb ho108
                 refine hK.out _ _ (cz6 BK377.out) (fun hHeld => ?_)
                 clear hK K
                 refine norm_ (a' := ?_) ?_ ?_
                 rotate_left
                 ·show Act.put _ (some 72) _ = _
                  simp only [Act.put, sA, s0, sS, i64_w, i32_w]
                  rfl
                 refine two_ (i := 2) (j := 4) (Ni := some 74) (Nj := some 76) #[true, true, true, true, false, false, false] #[true, true, false, true, true, false, false] rfl rfl rfl rfl (by kernel_rfl) (by decide) (by decide) (fun K hK => ?_) (fun K hK => ?_)
                 ·skip
                  refine Kd.N_append_rows_step k45 w.heap.size (by rfl) (.tmp 72) (.tmp 73) 33 45 (.agg #[(.int .i64 0), (.int .i64 0), (.int .i64 0), (.slice none 0 0), (.slice none 0 0), (.int .i64 0)]) 80 rfl Try.underlying33 info45 rfl (by decide) (by omega) v379 y378 x4_2 _ _ _ (fun k_ => (w.heap.size ≤ k_) ∧ some k_ ≠ ownBlock (.slice Ao102 t369.length co102) ∧ some k_ ≠ ownBlock (.slice Ao103 t372.length co103) ∧ k_ ≠ gb377 ∧ k_ ≠ g) (fun k_ => ((fun k_ => (w.heap.size ≤ k_) ∧ some k_ ≠ ownBlock (.slice Ao102 t369.length co102) ∧ some k_ ≠ ownBlock (.slice Ao103 t372.length co103) ∧ k_ ≠ gb377 ∧ k_ ≠ g)) k_ ∧ some k_ ≠ v379.ownBlock) rfl rfl ?aO ?aR (fun _ hk => hk) ?aF (Below.refl _ _) ?aS ?aL ?_
                  (case aR => exact (by skip; exact Kd.N_F (Kd.N_mono (ok' := (fun k_ => ((fun k_ => (w.heap.size ≤ k_) ∧ some k_ ≠ ownBlock (.slice Ao102 t369.length co102) ∧ some k_ ≠ ownBlock (.slice Ao103 t372.length co103) ∧ k_ ≠ gb377 ∧ k_ ≠ g)) k_ ∧ some k_ ≠ v379.ownBlock)) (HO_4.out) (fun k_ hk => ⟨⟨hk.1.1, ⟨hk.1.2.1, ⟨hk.1.2.2.1, ⟨hk.1.2.2.2.2, hk.1.2.2.2.1⟩⟩⟩⟩, hk.2⟩))))
                  (case aF => exact (fun k_ hk => ⟨(Nat.le_trans (keep_size (w := w) (g := g) (row := none) (by exact jK HK.out)) hk), Kd.fresh' (rl HO371.out) k_ hk, Kd.fresh' (rl HO374.out) k_ hk, Kd.freshB (g := gb377) (o := .cells #[.int .i64 t366, .int .i64 t367, .int .i64 t368, .slice Ao102 t369.length co102, .slice Ao103 t372.length co103, .int .i64 t375] 45 (0, 0)) (by exact lK BK377.out) k_ hk, IsS69.fresh (by exact IsS69.j HI0.out) k_ hk⟩))
                  (case aO => exact (by exact lN <| Kd.N_mono HO380.out (fun _ hk => ⟨hk.1, ⟨hk.2.2.1, ⟨hk.2.2.2.1, ⟨hk.2.2.2.2.1, hk.2.2.2.2.2⟩⟩⟩⟩)))
                  (case aS => exact (keep_size (w := w) (g := g) (row := none) (by exact jK HK.out)))
                  (case aL => have := LMc93.out; omega)
                  intro v382 w109 ho hb hg hat
                  rw [← Ny381.out] at ho
                  replace HO_4 := Aside0.mk (Kd.N_afterv (ok := (fun k_ => (w.heap.size ≤ k_) ∧ some k_ ≠ ownBlock (.slice Ao102 t369.length co102) ∧ some k_ ≠ ownBlock (.slice Ao103 t372.length co103) ∧ k_ ≠ g ∧ k_ ≠ gb377)) (by exact lN <| HO_4.out) hg hat)
                  replace HI0 := Aside0.mk (IsS69.grown (by exact IsS69.j HI0.out) hg (IsS69.own_neN HI0.out HO380.out (by decide)))
                  replace HO371 := Aside0.mk (Kd.R_over' (by exact lR HO371.out) (Kd.N_typed (by exact lN <| HO380.out)) (by decide) hg)
                  replace HO374 := Aside0.mk (Kd.R_over' (by exact lR HO374.out) (Kd.N_typed (by exact lN <| HO380.out)) (by decide) hg)
                  replace BK377 := Aside0.mk (blk_grown (g := gb377) (o := .cells #[.int .i64 t366, .int .i64 t367, .int .i64 t368, .slice Ao102 t369.length co102, .slice Ao103 t372.length co103, .int .i64 t375] 45 (0, 0)) (by exact lK BK377.out) hg (Kd.N_away HO380.out (fun _ hk => hk.2.2.2.2.1)))
                  replace HB := Aside0.mk (below_weaken (by exact jB HB.out) HL.out hb)
                  replace HK := Aside0.mk (KeepBut.trans (by exact jK HK.out) (KeepBut.of_grown hg g) (Kd.N_base2 HO380.out))
                  have HO383 := Aside0.mk (ho)
                  clear HO380 ho hb hg hat
                  refine hK.out _ _ (cz6 BK377.out) (fun hHeld => ?_)
                  clear hK K
                  refine norm_ (a' := ?_) ?_ ?_
                  rotate_left
                  ·show Act.put _ (some 74) _ = _
                   simp only [Act.put, sA, s0, sS, i64_w, i32_w]
                   rfl
                  refine one_ (i := 4) (N := some 76) #[true, true, true, true, true, false, false] rfl rfl (by kernel_rfl) (by decide) (fun K hK => ?_)
                  refine Kd.N_lit_step k45 _ 45 ?hg (N' := 76) ?hd (xs := ([(⟨t366, t367, t368, (⟨t369, t372, t375⟩ : S43)⟩ : S45)] : List (S45))) (inner := [.int .i64 t366, .int .i64 t367, .int .i64 t368, .slice Ao102 t369.length co102, .slice Ao103 t372.length co103, .int .i64 t375]) (ok := (fun k_ => (w.heap.size ≤ k_) ∧ some k_ ≠ ownBlock (.slice Ao104 x4_2.length co104) ∧ some k_ ≠ v382.ownBlock ∧ k_ ≠ gb377 ∧ k_ ≠ g)) (okp := (fun k_ => (w.heap.size ≤ k_) ∧ some k_ ≠ ownBlock (.slice Ao104 x4_2.length co104) ∧ some k_ ≠ v382.ownBlock ∧ k_ ≠ gb377 ∧ k_ ≠ g)) ?hr ?hp (fun _ hk => hk) ((show ∀ k_, w109.heap.size ≤ k_ → (fun k_ => (w.heap.size ≤ k_) ∧ some k_ ≠ ownBlock (.slice Ao104 x4_2.length co104) ∧ some k_ ≠ v382.ownBlock ∧ k_ ≠ gb377 ∧ k_ ≠ g) k_ from fun k_ hk => ⟨(Nat.le_trans (keep_size (w := w) (g := g) (row := none) (by exact jK HK.out)) hk), Kd.fresh' (Kd.N_lt (by exact lN <| HO_4.out)) k_ hk, Kd.fresh' (Kd.N_lt (by exact lN <| HO383.out)) k_ hk, Kd.freshB (g := gb377) (o := .cells #[.int .i64 t366, .int .i64 t367, .int .i64 t368, .slice Ao102 t369.length co102, .slice Ao103 t372.length co103, .int .i64 t375] 45 (0, 0)) (by exact lK BK377.out) k_ hk, IsS69.fresh (by exact IsS69.j HI0.out) k_ hk⟩) _ (Nat.le_refl _)) (Below.refl _ _) (Nat.le_refl _) (by simp) ?_; (case hd => rfl); (case hg => rfl); (case hr => first | (go_simp; done) | (go_simp; rfl)); (case hp => exact (Reps.c6 (show Kd.FK k45 _ _ (⟨t366, t367, t368, (⟨t369, t372, t375⟩ : S43)⟩ : S45) [.int .i64 t366, .int .i64 t367, .int .i64 t368, .slice Ao102 t369.length co102, .slice Ao103 t372.length co103, .int .i64 t375] from (k45_mkF _ _ (⟨t366, t367, t368, (⟨t369, t372, t375⟩ : S43)⟩ : S45) (Kd.R_reads' (Kd.R_mono (ok' := (fun k_ => (w.heap.size ≤ k_) ∧ some k_ ≠ ownBlock (.slice Ao104 x4_2.length co104) ∧ some k_ ≠ v382.ownBlock ∧ k_ ≠ gb377 ∧ k_ ≠ g)) (IsS69.apart HI0.out (Kd.R_types (Kd.R_apart' (Kd.R_apart' (HO371.out) (Kd.N_typed HO_4.out) (show ∀ q_, q_ ∈ 3 :: ((Kd.int .i64)).E → q_ ≠ 45 from by decide)) (Kd.N_typed HO383.out) (show ∀ q_, q_ ∈ 3 :: ((Kd.int .i64)).E → q_ ≠ 45 from by decide)) BK377.out (by decide)) (by decide)) (fun k_ hk => ⟨hk.1.1.1.1.1, ⟨hk.1.1.1.2, ⟨hk.1.1.2, ⟨hk.1.2, hk.2⟩⟩⟩⟩))).2.1 (Kd.R_F (Kd.R_mono (ok' := (fun k_ => (w.heap.size ≤ k_) ∧ some k_ ≠ ownBlock (.slice Ao104 x4_2.length co104) ∧ some k_ ≠ v382.ownBlock ∧ k_ ≠ gb377 ∧ k_ ≠ g)) (IsS69.apart HI0.out (Kd.R_types (Kd.R_apart' (Kd.R_apart' (HO371.out) (Kd.N_typed HO_4.out) (show ∀ q_, q_ ∈ 3 :: ((Kd.int .i64)).E → q_ ≠ 45 from by decide)) (Kd.N_typed HO383.out) (show ∀ q_, q_ ∈ 3 :: ((Kd.int .i64)).E → q_ ≠ 45 from by decide)) BK377.out (by decide)) (by decide)) (fun k_ hk => ⟨hk.1.1.1.1.1, ⟨hk.1.1.1.2, ⟨hk.1.1.2, ⟨hk.1.2, hk.2⟩⟩⟩⟩))) (Kd.R_reads' (Kd.R_mono (ok' := (fun k_ => (w.heap.size ≤ k_) ∧ some k_ ≠ ownBlock (.slice Ao104 x4_2.length co104) ∧ some k_ ≠ v382.ownBlock ∧ k_ ≠ gb377 ∧ k_ ≠ g)) (IsS69.apart HI0.out (Kd.R_types (Kd.R_apart' (Kd.R_apart' (HO374.out) (Kd.N_typed HO_4.out) (show ∀ q_, q_ ∈ 3 :: ((Kd.int .i64)).E → q_ ≠ 45 from by decide)) (Kd.N_typed HO383.out) (show ∀ q_, q_ ∈ 3 :: ((Kd.int .i64)).E → q_ ≠ 45 from by decide)) BK377.out (by decide)) (by decide)) (fun k_ hk => ⟨hk.1.1.1.1.1, ⟨hk.1.1.1.2, ⟨hk.1.1.2, ⟨hk.1.2, hk.2⟩⟩⟩⟩))).2.1 (Kd.R_F (Kd.R_mono (ok' := (fun k_ => (w.heap.size ≤ k_) ∧ some k_ ≠ ownBlock (.slice Ao104 x4_2.length co104) ∧ some k_ ≠ v382.ownBlock ∧ k_ ≠ gb377 ∧ k_ ≠ g)) (IsS69.apart HI0.out (Kd.R_types (Kd.R_apart' (Kd.R_apart' (HO374.out) (Kd.N_typed HO_4.out) (show ∀ q_, q_ ∈ 3 :: ((Kd.int .i64)).E → q_ ≠ 45 from by decide)) (Kd.N_typed HO383.out) (show ∀ q_, q_ ∈ 3 :: ((Kd.int .i64)).E → q_ ≠ 45 from by decide)) BK377.out (by decide)) (by decide)) (fun k_ hk => ⟨hk.1.1.1.1.1, ⟨hk.1.1.1.2, ⟨hk.1.1.2, ⟨hk.1.2, hk.2⟩⟩⟩⟩))))) (Reps.none _ _)))
                  intro v385 w110 ho111 hb hg_ hnew_
                  clear hg_ hnew_
                  (first | rw [← Ny384.out] at ho111 | (simp only [Int.reduceToNat] at ho111; rw [← Ny384.out] at ho111))
                  replace HO_4 := Aside0.mk (Kd.N_elder' (by exact lN <| HO_4.out) (Kd.N_base ho111) hb)
                  replace HO371 := Aside0.mk (rb HO371.out hb)
                  replace HO374 := Aside0.mk (rb HO374.out hb)
                  replace HO383 := Aside0.mk (Kd.N_elder' (by exact lN <| HO383.out) (Kd.N_base ho111) hb)
                  have HO386 := Aside0.mk (Kd.N_lower ho111 (keep_size (w := w) (g := g) (row := none) (by exact jK HK.out)))
                  replace HI0 := Aside0.mk (IsS69.below (by exact IsS69.j HI0.out) hb)
                  replace BK377 := Aside0.mk (bb BK377.out hb)
                  replace HK := Aside0.mk (kbl HK.out hb)
                  replace HB := Aside0.mk (bj HB.out hb)
                  clear hb ho111
                  refine hK.out _ _ (cz6 BK377.out) (fun hHeld => ?_)
                  clear hK K
                  refine norm_ (a' := ?_) ?_ ?_
                  rotate_left
                  ·show Act.put _ (some 76) _ = _
                   simp only [Act.put, sA, s0, sS, i64_w, i32_w]
                   rfl
                  exact norm_ (by simp only [putAll, Act.put, List.setIfInBounds_toArray, List.set_cons_zero, List.set_cons_succ]) (hCont (v379, v382, v385) _ ⟨hHeld, (by exact lR HO371.out), (by exact lR HO374.out), (by exact lN <| Kd.N_mono HO383.out (fun _ hk => ⟨hk.1.1, ⟨hk.1.2.1, ⟨hk.1.2.2.1, ⟨hk.2, ⟨hk.1.2.2.2.2, hk.1.2.2.2.1⟩⟩⟩⟩⟩)), (by exact lN <| Kd.N_mono HO386.out (fun _ hk => ⟨hk.1, ⟨hk.2.2.1, ⟨hk.2.1, ⟨hk.2.2.2.2, hk.2.2.2.1⟩⟩⟩⟩)), (by exact lN <| Kd.N_mono HO_4.out (fun _ hk => ⟨hk.1.1.1, ⟨hk.1.1.2.1, ⟨hk.1.1.2.2.1, ⟨hk.1.2, ⟨hk.2, ⟨hk.1.1.2.2.2.1, hk.1.1.2.2.2.2⟩⟩⟩⟩⟩⟩)), (by exact lK BK377.out), (by exact IsS69.j HI0.out), (by exact jK HK.out), (by exact jB HB.out)⟩)
                 ·skip
                  refine Kd.N_lit_step k45 _ 45 ?hg (N' := 76) ?hd (xs := ([(⟨t366, t367, t368, (⟨t369, t372, t375⟩ : S43)⟩ : S45)] : List (S45))) (inner := [.int .i64 t366, .int .i64 t367, .int .i64 t368, .slice Ao102 t369.length co102, .slice Ao103 t372.length co103, .int .i64 t375]) (ok := (fun k_ => (w.heap.size ≤ k_) ∧ some k_ ≠ ownBlock (.slice Ao104 x4_2.length co104) ∧ some k_ ≠ v379.ownBlock ∧ k_ ≠ gb377 ∧ k_ ≠ g)) (okp := (fun k_ => (w.heap.size ≤ k_) ∧ some k_ ≠ ownBlock (.slice Ao104 x4_2.length co104) ∧ some k_ ≠ v379.ownBlock ∧ k_ ≠ gb377 ∧ k_ ≠ g)) ?hr ?hp (fun _ hk => hk) ((show ∀ k_, w107.heap.size ≤ k_ → (fun k_ => (w.heap.size ≤ k_) ∧ some k_ ≠ ownBlock (.slice Ao104 x4_2.length co104) ∧ some k_ ≠ v379.ownBlock ∧ k_ ≠ gb377 ∧ k_ ≠ g) k_ from fun k_ hk => ⟨(Nat.le_trans (keep_size (w := w) (g := g) (row := none) (by exact jK HK.out)) hk), Kd.fresh' (Kd.N_lt (by exact lN <| HO_4.out)) k_ hk, Kd.fresh' (Kd.N_lt (by exact lN <| HO380.out)) k_ hk, Kd.freshB (g := gb377) (o := .cells #[.int .i64 t366, .int .i64 t367, .int .i64 t368, .slice Ao102 t369.length co102, .slice Ao103 t372.length co103, .int .i64 t375] 45 (0, 0)) (by exact lK BK377.out) k_ hk, IsS69.fresh (by exact IsS69.j HI0.out) k_ hk⟩) _ (Nat.le_refl _)) (Below.refl _ _) (Nat.le_refl _) (by simp) ?_; (case hd => rfl); (case hg => rfl); (case hr => first | (go_simp; done) | (go_simp; rfl)); (case hp => exact (Reps.c6 (show Kd.FK k45 _ _ (⟨t366, t367, t368, (⟨t369, t372, t375⟩ : S43)⟩ : S45) [.int .i64 t366, .int .i64 t367, .int .i64 t368, .slice Ao102 t369.length co102, .slice Ao103 t372.length co103, .int .i64 t375] from (k45_mkF _ _ (⟨t366, t367, t368, (⟨t369, t372, t375⟩ : S43)⟩ : S45) (Kd.R_reads' (Kd.R_mono (ok' := (fun k_ => (w.heap.size ≤ k_) ∧ some k_ ≠ ownBlock (.slice Ao104 x4_2.length co104) ∧ some k_ ≠ v379.ownBlock ∧ k_ ≠ gb377 ∧ k_ ≠ g)) (IsS69.apart HI0.out (Kd.R_types (Kd.R_apart' (Kd.R_apart' (HO371.out) (Kd.N_typed HO_4.out) (show ∀ q_, q_ ∈ 3 :: ((Kd.int .i64)).E → q_ ≠ 45 from by decide)) (Kd.N_typed HO380.out) (show ∀ q_, q_ ∈ 3 :: ((Kd.int .i64)).E → q_ ≠ 45 from by decide)) BK377.out (by decide)) (by decide)) (fun k_ hk => ⟨hk.1.1.1.1.1, ⟨hk.1.1.1.2, ⟨hk.1.1.2, ⟨hk.1.2, hk.2⟩⟩⟩⟩))).2.1 (Kd.R_F (Kd.R_mono (ok' := (fun k_ => (w.heap.size ≤ k_) ∧ some k_ ≠ ownBlock (.slice Ao104 x4_2.length co104) ∧ some k_ ≠ v379.ownBlock ∧ k_ ≠ gb377 ∧ k_ ≠ g)) (IsS69.apart HI0.out (Kd.R_types (Kd.R_apart' (Kd.R_apart' (HO371.out) (Kd.N_typed HO_4.out) (show ∀ q_, q_ ∈ 3 :: ((Kd.int .i64)).E → q_ ≠ 45 from by decide)) (Kd.N_typed HO380.out) (show ∀ q_, q_ ∈ 3 :: ((Kd.int .i64)).E → q_ ≠ 45 from by decide)) BK377.out (by decide)) (by decide)) (fun k_ hk => ⟨hk.1.1.1.1.1, ⟨hk.1.1.1.2, ⟨hk.1.1.2, ⟨hk.1.2, hk.2⟩⟩⟩⟩))) (Kd.R_reads' (Kd.R_mono (ok' := (fun k_ => (w.heap.size ≤ k_) ∧ some k_ ≠ ownBlock (.slice Ao104 x4_2.length co104) ∧ some k_ ≠ v379.ownBlock ∧ k_ ≠ gb377 ∧ k_ ≠ g)) (IsS69.apart HI0.out (Kd.R_types (Kd.R_apart' (Kd.R_apart' (HO374.out) (Kd.N_typed HO_4.out) (show ∀ q_, q_ ∈ 3 :: ((Kd.int .i64)).E → q_ ≠ 45 from by decide)) (Kd.N_typed HO380.out) (show ∀ q_, q_ ∈ 3 :: ((Kd.int .i64)).E → q_ ≠ 45 from by decide)) BK377.out (by decide)) (by decide)) (fun k_ hk => ⟨hk.1.1.1.1.1, ⟨hk.1.1.1.2, ⟨hk.1.1.2, ⟨hk.1.2, hk.2⟩⟩⟩⟩))).2.1 (Kd.R_F (Kd.R_mono (ok' := (fun k_ => (w.heap.size ≤ k_) ∧ some k_ ≠ ownBlock (.slice Ao104 x4_2.length co104) ∧ some k_ ≠ v379.ownBlock ∧ k_ ≠ gb377 ∧ k_ ≠ g)) (IsS69.apart HI0.out (Kd.R_types (Kd.R_apart' (Kd.R_apart' (HO374.out) (Kd.N_typed HO_4.out) (show ∀ q_, q_ ∈ 3 :: ((Kd.int .i64)).E → q_ ≠ 45 from by decide)) (Kd.N_typed HO380.out) (show ∀ q_, q_ ∈ 3 :: ((Kd.int .i64)).E → q_ ≠ 45 from by decide)) BK377.out (by decide)) (by decide)) (fun k_ hk => ⟨hk.1.1.1.1.1, ⟨hk.1.1.1.2, ⟨hk.1.1.2, ⟨hk.1.2, hk.2⟩⟩⟩⟩))))) (Reps.none _ _)))
                  intro v385 w109 ho110 hb hg_ hnew_
                  clear hg_ hnew_
                  (first | rw [← Ny384.out] at ho110 | (simp only [Int.reduceToNat] at ho110; rw [← Ny384.out] at ho110))
                  replace HO_4 := Aside0.mk (Kd.N_elder' (by exact lN <| HO_4.out) (Kd.N_base ho110) hb)
                  replace HO371 := Aside0.mk (rb HO371.out hb)
                  replace HO374 := Aside0.mk (rb HO374.out hb)
                  replace HO380 := Aside0.mk (Kd.N_elder' (by exact lN <| HO380.out) (Kd.N_base ho110) hb)
                  have HO386 := Aside0.mk (Kd.N_lower ho110 (keep_size (w := w) (g := g) (row := none) (by exact jK HK.out)))
                  replace HI0 := Aside0.mk (IsS69.below (by exact IsS69.j HI0.out) hb)
                  replace BK377 := Aside0.mk (bb BK377.out hb)
                  replace HK := Aside0.mk (kbl HK.out hb)
                  replace HB := Aside0.mk (bj HB.out hb)
                  clear hb ho110
                  refine hK.out _ _ (cz6 BK377.out) (fun hHeld => ?_)
                  clear hK K
                  refine norm_ (a' := ?_) ?_ ?_
                  rotate_left
                  ·show Act.put _ (some 76) _ = _
                   simp only [Act.put, sA, s0, sS, i64_w, i32_w]
                   rfl
                  refine one_ (i := 2) (N := some 74) #[true, true, true, true, true, false, false] rfl rfl (by kernel_rfl) (by decide) (fun K hK => ?_)
                  refine Kd.N_append_rows_step k45 w.heap.size (by rfl) (.tmp 72) (.tmp 73) 33 45 (.agg #[(.int .i64 0), (.int .i64 0), (.int .i64 0), (.slice none 0 0), (.slice none 0 0), (.int .i64 0)]) 80 rfl Try.underlying33 info45 rfl (by decide) (by omega) v379 y378 x4_2 _ _ _ (fun k_ => (w.heap.size ≤ k_) ∧ some k_ ≠ ownBlock (.slice Ao102 t369.length co102) ∧ some k_ ≠ ownBlock (.slice Ao103 t372.length co103) ∧ some k_ ≠ v385.ownBlock ∧ k_ ≠ gb377 ∧ k_ ≠ g) (fun k_ => ((fun k_ => (w.heap.size ≤ k_) ∧ some k_ ≠ ownBlock (.slice Ao102 t369.length co102) ∧ some k_ ≠ ownBlock (.slice Ao103 t372.length co103) ∧ some k_ ≠ v385.ownBlock ∧ k_ ≠ gb377 ∧ k_ ≠ g)) k_ ∧ some k_ ≠ v379.ownBlock) rfl rfl ?aO ?aR (fun _ hk => hk) ?aF (Below.refl _ _) ?aS ?aL ?_
                  (case aR => exact (by skip; exact Kd.N_F (Kd.N_mono (ok' := (fun k_ => ((fun k_ => (w.heap.size ≤ k_) ∧ some k_ ≠ ownBlock (.slice Ao102 t369.length co102) ∧ some k_ ≠ ownBlock (.slice Ao103 t372.length co103) ∧ some k_ ≠ v385.ownBlock ∧ k_ ≠ gb377 ∧ k_ ≠ g)) k_ ∧ some k_ ≠ v379.ownBlock)) (HO_4.out) (fun k_ hk => ⟨⟨hk.1.1.1, ⟨hk.1.1.2.1, ⟨hk.1.1.2.2.1, ⟨hk.2, ⟨hk.1.1.2.2.2.2, hk.1.1.2.2.2.1⟩⟩⟩⟩⟩, hk.1.2⟩))))
                  (case aF => exact (fun k_ hk => ⟨(Nat.le_trans (keep_size (w := w) (g := g) (row := none) (by exact jK HK.out)) hk), Kd.fresh' (rl HO371.out) k_ hk, Kd.fresh' (rl HO374.out) k_ hk, Kd.fresh' (Kd.N_lt (by exact lN <| HO386.out)) k_ hk, Kd.freshB (g := gb377) (o := .cells #[.int .i64 t366, .int .i64 t367, .int .i64 t368, .slice Ao102 t369.length co102, .slice Ao103 t372.length co103, .int .i64 t375] 45 (0, 0)) (by exact lK BK377.out) k_ hk, IsS69.fresh (by exact IsS69.j HI0.out) k_ hk⟩))
                  (case aO => exact (by exact lN <| Kd.N_mono HO380.out (fun _ hk => ⟨hk.1.1, ⟨hk.1.2.2.1, ⟨hk.1.2.2.2.1, ⟨hk.2, ⟨hk.1.2.2.2.2.1, hk.1.2.2.2.2.2⟩⟩⟩⟩⟩)))
                  (case aS => exact (keep_size (w := w) (g := g) (row := none) (by exact jK HK.out)))
                  (case aL => have := LMc93.out; omega)
                  intro v382 w111 ho hb hg hat
                  rw [← Ny381.out] at ho
                  replace HO_4 := Aside0.mk (Kd.N_afterv (ok := (fun k_ => (w.heap.size ≤ k_) ∧ some k_ ≠ ownBlock (.slice Ao102 t369.length co102) ∧ some k_ ≠ ownBlock (.slice Ao103 t372.length co103) ∧ some k_ ≠ v385.ownBlock ∧ k_ ≠ g ∧ k_ ≠ gb377)) (by exact lN <| Kd.N_mono HO_4.out (fun _ hk => ⟨⟨hk.1.1.1, ⟨hk.1.1.2.1, ⟨hk.1.1.2.2.1, ⟨hk.2, ⟨hk.1.1.2.2.2.1, hk.1.1.2.2.2.2⟩⟩⟩⟩⟩, hk.1.2⟩)) hg hat)
                  replace HI0 := Aside0.mk (IsS69.grown (by exact IsS69.j HI0.out) hg (IsS69.own_neN HI0.out HO380.out (by decide)))
                  replace HO371 := Aside0.mk (Kd.R_over' (by exact lR HO371.out) (Kd.N_typed (by exact lN <| HO380.out)) (by decide) hg)
                  replace HO374 := Aside0.mk (Kd.R_over' (by exact lR HO374.out) (Kd.N_typed (by exact lN <| HO380.out)) (by decide) hg)
                  replace BK377 := Aside0.mk (blk_grown (g := gb377) (o := .cells #[.int .i64 t366, .int .i64 t367, .int .i64 t368, .slice Ao102 t369.length co102, .slice Ao103 t372.length co103, .int .i64 t375] 45 (0, 0)) (by exact lK BK377.out) hg (Kd.N_away HO380.out (fun _ hk => hk.1.2.2.2.2.1)))
                  replace HO386 := Aside0.mk (Kd.N_afterv (ok := (fun k_ => (w.heap.size ≤ k_) ∧ some k_ ≠ ownBlock (.slice Ao104 x4_2.length co104) ∧ k_ ≠ gb377 ∧ k_ ≠ g)) (by exact lN <| Kd.N_mono HO386.out (fun _ hk => ⟨⟨hk.1, ⟨hk.2.1, ⟨hk.2.2.2.1, hk.2.2.2.2⟩⟩⟩, hk.2.2.1⟩)) hg hat)
                  replace HB := Aside0.mk (below_weaken (by exact jB HB.out) HL.out hb)
                  replace HK := Aside0.mk (KeepBut.trans (by exact jK HK.out) (KeepBut.of_grown hg g) (Kd.N_base2 HO380.out))
                  have HO383 := Aside0.mk (ho)
                  clear HO380 ho hb hg hat
                  refine hK.out _ _ (cz6 BK377.out) (fun hHeld => ?_)
                  clear hK K
                  refine norm_ (a' := ?_) ?_ ?_
                  rotate_left
                  ·show Act.put _ (some 74) _ = _
                   simp only [Act.put, sA, s0, sS, i64_w, i32_w]
                   rfl
                  exact norm_ (by simp only [putAll, Act.put, List.setIfInBounds_toArray, List.set_cons_zero, List.set_cons_succ]) (hCont (v379, v382, v385) _ ⟨hHeld, (by exact lR HO371.out), (by exact lR HO374.out), (by exact lN <| Kd.N_mono HO383.out (fun _ hk => ⟨hk.1, ⟨hk.2.1, ⟨hk.2.2.1, ⟨hk.2.2.2.1, ⟨hk.2.2.2.2.2, hk.2.2.2.2.1⟩⟩⟩⟩⟩)), (by exact lN <| Kd.N_mono HO386.out (fun _ hk => ⟨hk.1.1, ⟨hk.2, ⟨hk.1.2.1, ⟨hk.1.2.2.2, hk.1.2.2.1⟩⟩⟩⟩)), (by exact lN <| Kd.N_mono HO_4.out (fun _ hk => ⟨hk.1.1, ⟨hk.1.2.1, ⟨hk.1.2.2.1, ⟨hk.2, ⟨hk.1.2.2.2.1, ⟨hk.1.2.2.2.2.1, hk.1.2.2.2.2.2⟩⟩⟩⟩⟩⟩)), (by exact lK BK377.out), (by exact IsS69.j HI0.out), (by exact jK HK.out), (by exact jB HB.out)⟩)
                ·skip
                 refine Kd.N_lit_step k45 _ 45 ?hg (N' := 76) ?hd (xs := ([(⟨t366, t367, t368, (⟨t369, t372, t375⟩ : S43)⟩ : S45)] : List (S45))) (inner := [.int .i64 t366, .int .i64 t367, .int .i64 t368, .slice Ao102 t369.length co102, .slice Ao103 t372.length co103, .int .i64 t375]) (ok := (fun k_ => (w.heap.size ≤ k_) ∧ some k_ ≠ ownBlock (.slice Ao104 x4_2.length co104) ∧ k_ ≠ gb377 ∧ k_ ≠ g)) (okp := (fun k_ => (w.heap.size ≤ k_) ∧ some k_ ≠ ownBlock (.slice Ao104 x4_2.length co104) ∧ k_ ≠ gb377 ∧ k_ ≠ g)) ?hr ?hp (fun _ hk => hk) ((show ∀ k_, w106.heap.size ≤ k_ → (fun k_ => (w.heap.size ≤ k_) ∧ some k_ ≠ ownBlock (.slice Ao104 x4_2.length co104) ∧ k_ ≠ gb377 ∧ k_ ≠ g) k_ from fun k_ hk => ⟨(Nat.le_trans (keep_size (w := w) (g := g) (row := none) (by exact jK HK.out)) hk), Kd.fresh' (Kd.N_lt (by exact lN <| HO_4.out)) k_ hk, Kd.freshB (g := gb377) (o := .cells #[.int .i64 t366, .int .i64 t367, .int .i64 t368, .slice Ao102 t369.length co102, .slice Ao103 t372.length co103, .int .i64 t375] 45 (0, 0)) (by exact lK BK377.out) k_ hk, IsS69.fresh (by exact IsS69.j HI0.out) k_ hk⟩) _ (Nat.le_refl _)) (Below.refl _ _) (Nat.le_refl _) (by simp) ?_; (case hd => rfl); (case hg => rfl); (case hr => first | (go_simp; done) | (go_simp; rfl)); (case hp => exact (Reps.c6 (show Kd.FK k45 _ _ (⟨t366, t367, t368, (⟨t369, t372, t375⟩ : S43)⟩ : S45) [.int .i64 t366, .int .i64 t367, .int .i64 t368, .slice Ao102 t369.length co102, .slice Ao103 t372.length co103, .int .i64 t375] from (k45_mkF _ _ (⟨t366, t367, t368, (⟨t369, t372, t375⟩ : S43)⟩ : S45) (Kd.R_reads' (Kd.R_mono (ok' := (fun k_ => (w.heap.size ≤ k_) ∧ some k_ ≠ ownBlock (.slice Ao104 x4_2.length co104) ∧ k_ ≠ gb377 ∧ k_ ≠ g)) (IsS69.apart HI0.out (Kd.R_types (Kd.R_apart' (HO371.out) (Kd.N_typed HO_4.out) (show ∀ q_, q_ ∈ 3 :: ((Kd.int .i64)).E → q_ ≠ 45 from by decide)) BK377.out (by decide)) (by decide)) (fun k_ hk => ⟨hk.1.1.1.1, ⟨hk.1.1.2, ⟨hk.1.2, hk.2⟩⟩⟩))).2.1 (Kd.R_F (Kd.R_mono (ok' := (fun k_ => (w.heap.size ≤ k_) ∧ some k_ ≠ ownBlock (.slice Ao104 x4_2.length co104) ∧ k_ ≠ gb377 ∧ k_ ≠ g)) (IsS69.apart HI0.out (Kd.R_types (Kd.R_apart' (HO371.out) (Kd.N_typed HO_4.out) (show ∀ q_, q_ ∈ 3 :: ((Kd.int .i64)).E → q_ ≠ 45 from by decide)) BK377.out (by decide)) (by decide)) (fun k_ hk => ⟨hk.1.1.1.1, ⟨hk.1.1.2, ⟨hk.1.2, hk.2⟩⟩⟩))) (Kd.R_reads' (Kd.R_mono (ok' := (fun k_ => (w.heap.size ≤ k_) ∧ some k_ ≠ ownBlock (.slice Ao104 x4_2.length co104) ∧ k_ ≠ gb377 ∧ k_ ≠ g)) (IsS69.apart HI0.out (Kd.R_types (Kd.R_apart' (HO374.out) (Kd.N_typed HO_4.out) (show ∀ q_, q_ ∈ 3 :: ((Kd.int .i64)).E → q_ ≠ 45 from by decide)) BK377.out (by decide)) (by decide)) (fun k_ hk => ⟨hk.1.1.1.1, ⟨hk.1.1.2, ⟨hk.1.2, hk.2⟩⟩⟩))).2.1 (Kd.R_F (Kd.R_mono (ok' := (fun k_ => (w.heap.size ≤ k_) ∧ some k_ ≠ ownBlock (.slice Ao104 x4_2.length co104) ∧ k_ ≠ gb377 ∧ k_ ≠ g)) (IsS69.apart HI0.out (Kd.R_types (Kd.R_apart' (HO374.out) (Kd.N_typed HO_4.out) (show ∀ q_, q_ ∈ 3 :: ((Kd.int .i64)).E → q_ ≠ 45 from by decide)) BK377.out (by decide)) (by decide)) (fun k_ hk => ⟨hk.1.1.1.1, ⟨hk.1.1.2, ⟨hk.1.2, hk.2⟩⟩⟩))))) (Reps.none _ _)))
                 intro v385 w107 ho108 hb hg_ hnew_
                 clear hg_ hnew_
                 (first | rw [← Ny384.out] at ho108 | (simp only [Int.reduceToNat] at ho108; rw [← Ny384.out] at ho108))
                 replace HO_4 := Aside0.mk (Kd.N_elder' (by exact lN <| HO_4.out) (Kd.N_base ho108) hb)
                 replace HO371 := Aside0.mk (rb HO371.out hb)
                 replace HO374 := Aside0.mk (rb HO374.out hb)
                 have HO386 := Aside0.mk (Kd.N_lower ho108 (keep_size (w := w) (g := g) (row := none) (by exact jK HK.out)))
                 replace HI0 := Aside0.mk (IsS69.below (by exact IsS69.j HI0.out) hb)
                 replace BK377 := Aside0.mk (bb BK377.out hb)
                 replace HK := Aside0.mk (kbl HK.out hb)
                 replace HB := Aside0.mk (bj HB.out hb)
                 clear hb ho108
                 refine hK.out _ _ (cz6 BK377.out) (fun hHeld => ?_)
                 clear hK K
                 refine norm_ (a' := ?_) ?_ ?_
                 rotate_left
                 ·show Act.put _ (some 76) _ = _
                  simp only [Act.put, sA, s0, sS, i64_w, i32_w]
                  rfl
                 refine one_ (i := 0) (N := some 72) #[true, true, false, true, true, false, false] rfl rfl (by kernel_rfl) (by decide) (fun K hK => ?_)
                 refine Kd.N_lit_step k45 _ 45 ?hg (N' := 72) ?hd (xs := ([] : List (S45))) (inner := []) (ok := (fun k_ => (w.heap.size ≤ k_) ∧ some k_ ≠ ownBlock (.slice Ao104 x4_2.length co104) ∧ some k_ ≠ ownBlock (.slice Ao102 t369.length co102) ∧ some k_ ≠ ownBlock (.slice Ao103 t372.length co103) ∧ some k_ ≠ v385.ownBlock ∧ k_ ≠ gb377 ∧ k_ ≠ g)) (okp := (fun k_ => (w.heap.size ≤ k_) ∧ some k_ ≠ ownBlock (.slice Ao104 x4_2.length co104) ∧ some k_ ≠ ownBlock (.slice Ao102 t369.length co102) ∧ some k_ ≠ ownBlock (.slice Ao103 t372.length co103) ∧ some k_ ≠ v385.ownBlock ∧ k_ ≠ gb377 ∧ k_ ≠ g)) ?hr ?hp (fun _ hk => hk) ((show ∀ k_, w107.heap.size ≤ k_ → (fun k_ => (w.heap.size ≤ k_) ∧ some k_ ≠ ownBlock (.slice Ao104 x4_2.length co104) ∧ some k_ ≠ ownBlock (.slice Ao102 t369.length co102) ∧ some k_ ≠ ownBlock (.slice Ao103 t372.length co103) ∧ some k_ ≠ v385.ownBlock ∧ k_ ≠ gb377 ∧ k_ ≠ g) k_ from fun k_ hk => ⟨(Nat.le_trans (keep_size (w := w) (g := g) (row := none) (by exact jK HK.out)) hk), Kd.fresh' (Kd.N_lt (by exact lN <| HO_4.out)) k_ hk, Kd.fresh' (rl HO371.out) k_ hk, Kd.fresh' (rl HO374.out) k_ hk, Kd.fresh' (Kd.N_lt (by exact lN <| HO386.out)) k_ hk, Kd.freshB (g := gb377) (o := .cells #[.int .i64 t366, .int .i64 t367, .int .i64 t368, .slice Ao102 t369.length co102, .slice Ao103 t372.length co103, .int .i64 t375] 45 (0, 0)) (by exact lK BK377.out) k_ hk, IsS69.fresh (by exact IsS69.j HI0.out) k_ hk⟩) _ (Nat.le_refl _)) (Below.refl _ _) (Nat.le_refl _) (by simp) ?_; (case hd => rfl); (case hg => rfl); (case hr => first | (go_simp; done) | (go_simp; rfl)); (case hp => exact (Reps.none _ _))
                 intro v379 w109 ho110 hb hg_ hnew_
                 clear hg_ hnew_
                 (first | rw [← Ny378.out] at ho110 | (simp only [Int.reduceToNat] at ho110; rw [← Ny378.out] at ho110))
                 replace HO_4 := Aside0.mk (Kd.N_elder' (by exact lN <| HO_4.out) (Kd.N_base ho110) hb)
                 replace HO371 := Aside0.mk (rb HO371.out hb)
                 replace HO374 := Aside0.mk (rb HO374.out hb)
                 replace HO386 := Aside0.mk (Kd.N_elder' (by exact lN <| HO386.out) (Kd.N_base ho110) hb)
                 have HO380 := Aside0.mk (Kd.N_lower ho110 (keep_size (w := w) (g := g) (row := none) (by exact jK HK.out)))
                 replace HI0 := Aside0.mk (IsS69.below (by exact IsS69.j HI0.out) hb)
                 replace BK377 := Aside0.mk (bb BK377.out hb)
                 replace HK := Aside0.mk (kbl HK.out hb)
                 replace HB := Aside0.mk (bj HB.out hb)
                 clear hb ho110
                 refine hK.out _ _ (cz6 BK377.out) (fun hHeld => ?_)
                 clear hK K
                 refine norm_ (a' := ?_) ?_ ?_
                 rotate_left
                 ·show Act.put _ (some 72) _ = _
                  simp only [Act.put, sA, s0, sS, i64_w, i32_w]
                  rfl
                 refine one_ (i := 2) (N := some 74) #[true, true, true, true, true, false, false] rfl rfl (by kernel_rfl) (by decide) (fun K hK => ?_)
                 refine Kd.N_append_rows_step k45 w.heap.size (by rfl) (.tmp 72) (.tmp 73) 33 45 (.agg #[(.int .i64 0), (.int .i64 0), (.int .i64 0), (.slice none 0 0), (.slice none 0 0), (.int .i64 0)]) 80 rfl Try.underlying33 info45 rfl (by decide) (by omega) v379 y378 x4_2 _ _ _ (fun k_ => (w.heap.size ≤ k_) ∧ some k_ ≠ ownBlock (.slice Ao102 t369.length co102) ∧ some k_ ≠ ownBlock (.slice Ao103 t372.length co103) ∧ some k_ ≠ v385.ownBlock ∧ k_ ≠ gb377 ∧ k_ ≠ g) (fun k_ => ((fun k_ => (w.heap.size ≤ k_) ∧ some k_ ≠ ownBlock (.slice Ao102 t369.length co102) ∧ some k_ ≠ ownBlock (.slice Ao103 t372.length co103) ∧ some k_ ≠ v385.ownBlock ∧ k_ ≠ gb377 ∧ k_ ≠ g)) k_ ∧ some k_ ≠ v379.ownBlock) rfl rfl ?aO ?aR (fun _ hk => hk) ?aF (Below.refl _ _) ?aS ?aL ?_
                 (case aR => exact (by skip; exact Kd.N_F (Kd.N_mono (ok' := (fun k_ => ((fun k_ => (w.heap.size ≤ k_) ∧ some k_ ≠ ownBlock (.slice Ao102 t369.length co102) ∧ some k_ ≠ ownBlock (.slice Ao103 t372.length co103) ∧ some k_ ≠ v385.ownBlock ∧ k_ ≠ gb377 ∧ k_ ≠ g)) k_ ∧ some k_ ≠ v379.ownBlock)) (HO_4.out) (fun k_ hk => ⟨⟨hk.1.1.1, ⟨hk.1.1.2.1, ⟨hk.1.1.2.2.1, ⟨hk.1.2, ⟨hk.1.1.2.2.2.2, hk.1.1.2.2.2.1⟩⟩⟩⟩⟩, hk.2⟩))))
                 (case aF => exact (fun k_ hk => ⟨(Nat.le_trans (keep_size (w := w) (g := g) (row := none) (by exact jK HK.out)) hk), Kd.fresh' (rl HO371.out) k_ hk, Kd.fresh' (rl HO374.out) k_ hk, Kd.fresh' (Kd.N_lt (by exact lN <| HO386.out)) k_ hk, Kd.freshB (g := gb377) (o := .cells #[.int .i64 t366, .int .i64 t367, .int .i64 t368, .slice Ao102 t369.length co102, .slice Ao103 t372.length co103, .int .i64 t375] 45 (0, 0)) (by exact lK BK377.out) k_ hk, IsS69.fresh (by exact IsS69.j HI0.out) k_ hk⟩))
                 (case aO => exact (by exact lN <| Kd.N_mono HO380.out (fun _ hk => ⟨hk.1, ⟨hk.2.2.1, ⟨hk.2.2.2.1, ⟨hk.2.2.2.2.1, ⟨hk.2.2.2.2.2.1, hk.2.2.2.2.2.2⟩⟩⟩⟩⟩)))
                 (case aS => exact (keep_size (w := w) (g := g) (row := none) (by exact jK HK.out)))
                 (case aL => have := LMc93.out; omega)
                 intro v382 w111 ho hb hg hat
                 rw [← Ny381.out] at ho
                 replace HO_4 := Aside0.mk (Kd.N_afterv (ok := (fun k_ => (w.heap.size ≤ k_) ∧ some k_ ≠ ownBlock (.slice Ao102 t369.length co102) ∧ some k_ ≠ ownBlock (.slice Ao103 t372.length co103) ∧ some k_ ≠ v385.ownBlock ∧ k_ ≠ g ∧ k_ ≠ gb377)) (by exact lN <| Kd.N_mono HO_4.out (fun _ hk => ⟨⟨hk.1.1.1, ⟨hk.1.1.2.1, ⟨hk.1.1.2.2.1, ⟨hk.1.2, ⟨hk.1.1.2.2.2.1, hk.1.1.2.2.2.2⟩⟩⟩⟩⟩, hk.2⟩)) hg hat)
                 replace HI0 := Aside0.mk (IsS69.grown (by exact IsS69.j HI0.out) hg (IsS69.own_neN HI0.out HO380.out (by decide)))
                 replace HO371 := Aside0.mk (Kd.R_over' (by exact lR HO371.out) (Kd.N_typed (by exact lN <| HO380.out)) (by decide) hg)
                 replace HO374 := Aside0.mk (Kd.R_over' (by exact lR HO374.out) (Kd.N_typed (by exact lN <| HO380.out)) (by decide) hg)
                 replace BK377 := Aside0.mk (blk_grown (g := gb377) (o := .cells #[.int .i64 t366, .int .i64 t367, .int .i64 t368, .slice Ao102 t369.length co102, .slice Ao103 t372.length co103, .int .i64 t375] 45 (0, 0)) (by exact lK BK377.out) hg (Kd.N_away HO380.out (fun _ hk => hk.2.2.2.2.2.1)))
                 replace HO386 := Aside0.mk (Kd.N_afterv (ok := (fun k_ => (w.heap.size ≤ k_) ∧ some k_ ≠ ownBlock (.slice Ao104 x4_2.length co104) ∧ k_ ≠ gb377 ∧ k_ ≠ g)) (by exact lN <| HO386.out) hg hat)
                 replace HB := Aside0.mk (below_weaken (by exact jB HB.out) HL.out hb)
                 replace HK := Aside0.mk (KeepBut.trans (by exact jK HK.out) (KeepBut.of_grown hg g) (Kd.N_base2 HO380.out))
                 have HO383 := Aside0.mk (ho)
                 clear HO380 ho hb hg hat
                 refine hK.out _ _ (cz6 BK377.out) (fun hHeld => ?_)
                 clear hK K
                 refine norm_ (a' := ?_) ?_ ?_
                 rotate_left
                 ·show Act.put _ (some 74) _ = _
                  simp only [Act.put, sA, s0, sS, i64_w, i32_w]
                  rfl
                 exact norm_ (by simp only [putAll, Act.put, List.setIfInBounds_toArray, List.set_cons_zero, List.set_cons_succ]) (hCont (v379, v382, v385) _ ⟨hHeld, (by exact lR HO371.out), (by exact lR HO374.out), (by exact lN <| Kd.N_mono HO383.out (fun _ hk => ⟨hk.1, ⟨hk.2.1, ⟨hk.2.2.1, ⟨hk.2.2.2.1, ⟨hk.2.2.2.2.2, hk.2.2.2.2.1⟩⟩⟩⟩⟩)), (by exact lN <| Kd.N_mono HO386.out (fun _ hk => ⟨hk.1.1, ⟨hk.2, ⟨hk.1.2.1, ⟨hk.1.2.2.2, hk.1.2.2.1⟩⟩⟩⟩)), (by exact lN <| Kd.N_mono HO_4.out (fun _ hk => ⟨hk.1.1, ⟨hk.1.2.1, ⟨hk.1.2.2.1, ⟨hk.2, ⟨hk.1.2.2.2.1, ⟨hk.1.2.2.2.2.1, hk.1.2.2.2.2.2⟩⟩⟩⟩⟩⟩)), (by exact lK BK377.out), (by exact IsS69.j HI0.out), (by exact jK HK.out), (by exact jB HB.out)⟩)
               rintro ⟨v379, v382, v385⟩ w112 ⟨hS_, h0_, h1_, h2_, h3_, h4_, h5_, h6_, h7_, h8_⟩
               replace HO371 : Aside0 (Kd.R (Kd.int .i64) 3 w112 w.heap.size (fun k_ => (w.heap.size ≤ k_) ∧ some k_ ≠ ownBlock (.slice Ao103 t372.length co103)) (.slice Ao102 t369.length co102) t369) := ⟨h0_⟩
               replace HO374 : Aside0 (Kd.R (Kd.int .i64) 3 w112 w.heap.size (fun k_ => (w.heap.size ≤ k_) ∧ some k_ ≠ ownBlock (.slice Ao102 t369.length co102)) (.slice Ao103 t372.length co103) t372) := ⟨h1_⟩
               have HO383 : Aside0 (Kd.N k45 45 w112 w.heap.size (fun k_ => (w.heap.size ≤ k_) ∧ some k_ ≠ ownBlock (.slice Ao102 t369.length co102) ∧ some k_ ≠ ownBlock (.slice Ao103 t372.length co103) ∧ some k_ ≠ v385.ownBlock ∧ k_ ≠ g ∧ k_ ≠ gb377) v382 y381) := ⟨h2_⟩
               have HO386 : Aside0 (Kd.N k45 45 w112 w.heap.size (fun k_ => (w.heap.size ≤ k_) ∧ some k_ ≠ v382.ownBlock ∧ some k_ ≠ ownBlock (.slice Ao104 x4_2.length co104) ∧ k_ ≠ g ∧ k_ ≠ gb377) v385 y384) := ⟨h3_⟩
               replace HO_4 : Aside0 (Kd.N k45 45 w112 w.heap.size (fun k_ => (w.heap.size ≤ k_) ∧ some k_ ≠ ownBlock (.slice Ao102 t369.length co102) ∧ some k_ ≠ ownBlock (.slice Ao103 t372.length co103) ∧ some k_ ≠ v382.ownBlock ∧ some k_ ≠ v385.ownBlock ∧ k_ ≠ g ∧ k_ ≠ gb377) (.slice Ao104 x4_2.length co104) x4_2) := ⟨h4_⟩
               replace BK377 : Aside0 (w112.heap[gb377]? = some (.cells #[.int .i64 t366, .int .i64 t367, .int .i64 t368, .slice Ao102 t369.length co102, .slice Ao103 t372.length co103, .int .i64 t375] 45 (0, 0))) := ⟨h5_⟩
               replace HI0 : Aside0 (IsS69 w0 w112 g s0_0 t376) := ⟨h6_⟩
               replace HK : Aside0 (KeepBut w w112 g none) := ⟨h7_⟩
               replace HB : Aside0 (Below w0.heap.size w0 w112) := ⟨h8_⟩
               clear h0_ h1_ h2_ h3_ h4_ h5_ h6_ h7_ h8_
               have hHeld : w112.cell? ⟨gb377, 0, none⟩ = some (.int .i64 t366) ∧ w112.cell? ⟨gb377, 1, none⟩ = some (.int .i64 t367) ∧ w112.cell? ⟨gb377, 2, none⟩ = some (.int .i64 t368) ∧ w112.cell? ⟨gb377, 3, none⟩ = some (.slice Ao102 t369.length co102) ∧ w112.cell? ⟨gb377, 4, none⟩ = some (.slice Ao103 t372.length co103) ∧ w112.cell? ⟨gb377, 5, none⟩ = some (.int .i64 t375) := hS_
               obtain ⟨Ao114, co114, eo114⟩ := Kd.N_slice HO386.out
               (first | subst eo114 | (injection eo114 with f1_ f2_ f3_; have f4_ := f1_.symm; have f5_ := f3_.symm; clear f1_ f2_ f3_; subst f4_; subst f5_))
               refine norm_ (a' := ?_) ?_ ?_
               rotate_left
               ·simp only [putAll, Act.put, List.setIfInBounds_toArray, List.set_cons_zero, List.set_cons_succ]
                rfl
               refine one_ (i := 5) (N := some 77) #[true, true, true, true, true, true, false] rfl rfl (by kernel_rfl) (by decide) (fun K hK => ?_)
               refine Kd.N_append_rows_step k45 w.heap.size (by rfl) (.tmp 74) (.tmp 76) 33 45 (.agg #[(.int .i64 0), (.int .i64 0), (.int .i64 0), (.slice none 0 0), (.slice none 0 0), (.int .i64 0)]) 80 rfl Try.underlying33 info45 rfl (by decide) (by omega) v382 y381 y384 _ _ _ (fun k_ => (w.heap.size ≤ k_) ∧ k_ ≠ gb377 ∧ k_ ≠ g) (fun k_ => ((fun k_ => (w.heap.size ≤ k_) ∧ k_ ≠ gb377 ∧ k_ ≠ g)) k_ ∧ some k_ ≠ v382.ownBlock) rfl rfl ?aO ?aR (fun _ hk => hk) ?aF (Below.refl _ _) ?aS ?aL ?_
               (case aR => exact (by skip; exact Kd.N_F (Kd.N_mono (ok' := (fun k_ => ((fun k_ => (w.heap.size ≤ k_) ∧ k_ ≠ gb377 ∧ k_ ≠ g)) k_ ∧ some k_ ≠ v382.ownBlock)) (HO386.out) (fun k_ hk => ⟨⟨hk.1, ⟨hk.2.2.2.2, hk.2.2.2.1⟩⟩, hk.2.1⟩))))
               (case aF => exact (fun k_ hk => ⟨(Nat.le_trans (keep_size (w := w) (g := g) (row := none) (by exact jK HK.out)) hk), Kd.freshB (g := gb377) (o := .cells #[.int .i64 t366, .int .i64 t367, .int .i64 t368, .slice Ao102 t369.length co102, .slice Ao103 t372.length co103, .int .i64 t375] 45 (0, 0)) (by exact lK BK377.out) k_ hk, IsS69.fresh (by exact IsS69.j HI0.out) k_ hk⟩))
               (case aO => exact (by exact lN <| Kd.N_mono HO383.out (fun _ hk => ⟨hk.1, ⟨hk.2.2.2.2.2, hk.2.2.2.2.1⟩⟩)))
               (case aS => exact (keep_size (w := w) (g := g) (row := none) (by exact jK HK.out)))
               (case aL => have := LMc94.out; omega)
               intro v388 w113 ho hb hg hat
               rw [← Ny387.out] at ho
               replace HO_4 := Aside0.mk (Kd.N_afterv (ok := (fun k_ => (w.heap.size ≤ k_) ∧ some k_ ≠ ownBlock (.slice Ao102 t369.length co102) ∧ some k_ ≠ ownBlock (.slice Ao103 t372.length co103) ∧ some k_ ≠ ownBlock (.slice Ao114 y384.length co114) ∧ k_ ≠ g ∧ k_ ≠ gb377)) (by exact lN <| Kd.N_mono HO_4.out (fun _ hk => ⟨⟨hk.1, ⟨hk.2.1, ⟨hk.2.2.1, ⟨hk.2.2.2.2.1, ⟨hk.2.2.2.2.2.1, hk.2.2.2.2.2.2⟩⟩⟩⟩⟩, hk.2.2.2.1⟩)) hg hat)
               replace HI0 := Aside0.mk (IsS69.grown (by exact IsS69.j HI0.out) hg (IsS69.own_neN HI0.out HO383.out (by decide)))
               replace HO371 := Aside0.mk (Kd.R_over' (by exact lR HO371.out) (Kd.N_typed (by exact lN <| HO383.out)) (by decide) hg)
               replace HO374 := Aside0.mk (Kd.R_over' (by exact lR HO374.out) (Kd.N_typed (by exact lN <| HO383.out)) (by decide) hg)
               replace BK377 := Aside0.mk (blk_grown (g := gb377) (o := .cells #[.int .i64 t366, .int .i64 t367, .int .i64 t368, .slice Ao102 t369.length co102, .slice Ao103 t372.length co103, .int .i64 t375] 45 (0, 0)) (by exact lK BK377.out) hg (Kd.N_away HO383.out (fun _ hk => hk.2.2.2.2.2)))
               replace HO386 := Aside0.mk (Kd.N_afterv (ok := (fun k_ => (w.heap.size ≤ k_) ∧ some k_ ≠ ownBlock (.slice Ao104 x4_2.length co104) ∧ k_ ≠ g ∧ k_ ≠ gb377)) (by exact lN <| Kd.N_mono HO386.out (fun _ hk => ⟨⟨hk.1, ⟨hk.2.2.1, ⟨hk.2.2.2.1, hk.2.2.2.2⟩⟩⟩, hk.2.1⟩)) hg hat)
               replace HB := Aside0.mk (below_weaken (by exact jB HB.out) HL.out hb)
               replace HK := Aside0.mk (KeepBut.trans (by exact jK HK.out) (KeepBut.of_grown hg g) (Kd.N_base2 HO383.out))
               have HO389 := Aside0.mk (ho)
               clear HO383 ho hb hg hat
               obtain ⟨Ao115, co115, eo115⟩ := Kd.N_slice HO389.out
               (first | subst eo115 | (injection eo115 with f1_ f2_ f3_; have f4_ := f1_.symm; have f5_ := f3_.symm; clear f1_ f2_ f3_; subst f4_; subst f5_))
               refine hK.out _ _ (cz6 BK377.out) (fun hHeld => ?_)
               clear hK K
               refine norm_ (a' := ?_) ?_ ?_
               rotate_left
               ·show Act.put _ (some 77) _ = _
                simp only [Act.put, sA, s0, sS, i64_w, i32_w]
                rfl
               refine one_ (i := 6) (N := some 78) #[true, true, true, true, true, true, true] rfl rfl (by kernel_rfl) (by decide) (fun K hK => ?_)
               refine goes_ Try.func40 (by kernel_rfl) rfl #[.slice Ao115 y387.length co115] (by rfl) rfl rfl (by (try simp only [mA, mC, mN]); first | done | rfl | (simp only [ld, lt]; rfl)) ?_
               with_reducible refine (spec_ActOk.calls k2 _ _ y387 true _ ?side1 ?side2 A95.out).mono ?_
               (case side1 => exact lC <| (Kd.N_reads' HO389.out).2.2)
               (case side2 => exact (Kd.N_reads' HO389.out).2.1)
               rintro e w116 ⟨rfl, hb⟩
               refine ⟨_, rfl, ?_⟩
               replace HO_4 := Aside0.mk (Kd.N_below (by exact lN <| HO_4.out) hb)
               replace HO371 := Aside0.mk (rb HO371.out hb)
               replace HO374 := Aside0.mk (rb HO374.out hb)
               replace HO386 := Aside0.mk (Kd.N_below (by exact lN <| HO386.out) hb)
               replace HO389 := Aside0.mk (Kd.N_below (by exact lN <| HO389.out) hb)
               replace HI0 := Aside0.mk (IsS69.below (by exact IsS69.j HI0.out) hb)
               replace BK377 := Aside0.mk (bb BK377.out hb)
               replace HK := Aside0.mk (kbl HK.out hb)
               replace HB := Aside0.mk (bj HB.out hb)
               (try clear hb)
               (try clear hb2)
               (try clear hk)
               (try clear hi)
               refine hK.out _ _ (cz6 BK377.out) (fun hHeld => ?_)
               clear hK K
               refine norm_ (a' := ?_) ?_ ?_
               rotate_left
               ·show Act.put _ (some 78) _ = _
                simp only [Act.put, sA, s0, sS, i64_w, i32_w]
                rfl
               refine done_ (by kernel_rfl) ?_
               obtain ⟨hcz117_0, hcz117_1, hcz117_2, hcz117_3, hcz117_4, hcz117_5, hfz117_0, hfz117_1, hfz117_2, hfz117_3, hfz117_4, hfz117_5⟩ := cf6 BK377.out
               try go_wp2_with (first | ((with_reducible refine gate_dst (N := 81) rfl ?_); refine Kd.N_lit k45 _ 45 ?hg (N' := 81) ?hd (xs := ([(⟨t366, t367, t368, (⟨t369, t372, t375⟩ : S43)⟩ : S45)] : List (S45))) (inner := [.int .i64 t366, .int .i64 t367, .int .i64 t368, .slice Ao102 t369.length co102, .slice Ao103 t372.length co103, .int .i64 t375]) (ok := (fun k_ => (w.heap.size ≤ k_) ∧ some k_ ≠ ownBlock (.slice Ao104 x4_2.length co104) ∧ some k_ ≠ ownBlock (.slice Ao114 y384.length co114) ∧ some k_ ≠ ownBlock (.slice Ao115 y387.length co115) ∧ k_ ≠ gb377 ∧ k_ ≠ g)) (okp := (fun k_ => (w.heap.size ≤ k_) ∧ some k_ ≠ ownBlock (.slice Ao104 x4_2.length co104) ∧ some k_ ≠ ownBlock (.slice Ao114 y384.length co114) ∧ some k_ ≠ ownBlock (.slice Ao115 y387.length co115) ∧ k_ ≠ gb377 ∧ k_ ≠ g)) ?hr ?hp (fun _ hk => hk) ((show ∀ k_, w116.heap.size ≤ k_ → (fun k_ => (w.heap.size ≤ k_) ∧ some k_ ≠ ownBlock (.slice Ao104 x4_2.length co104) ∧ some k_ ≠ ownBlock (.slice Ao114 y384.length co114) ∧ some k_ ≠ ownBlock (.slice Ao115 y387.length co115) ∧ k_ ≠ gb377 ∧ k_ ≠ g) k_ from fun k_ hk => ⟨(Nat.le_trans (keep_size (w := w) (g := g) (row := none) (by exact jK HK.out)) hk), Kd.fresh' (Kd.N_lt (by exact lN <| HO_4.out)) k_ hk, Kd.fresh' (Kd.N_lt (by exact lN <| HO386.out)) k_ hk, Kd.fresh' (Kd.N_lt (by exact lN <| HO389.out)) k_ hk, Kd.freshB (g := gb377) (o := .cells #[.int .i64 t366, .int .i64 t367, .int .i64 t368, .slice Ao102 t369.length co102, .slice Ao103 t372.length co103, .int .i64 t375] 45 (0, 0)) (by exact lK BK377.out) k_ hk, IsS69.fresh (by exact IsS69.j HI0.out) k_ hk⟩) _ (Nat.le_refl _)) (Below.refl _ _) (Nat.le_refl _) (by simp) ?_; (case hd => rfl); (case hg => rfl); (case hr => first | (go_simp; done) | (go_simp; rfl)); (case hp => exact (Reps.c6 (show Kd.FK k45 _ _ (⟨t366, t367, t368, (⟨t369, t372, t375⟩ : S43)⟩ : S45) [.int .i64 t366, .int .i64 t367, .int .i64 t368, .slice Ao102 t369.length co102, .slice Ao103 t372.length co103, .int .i64 t375] from (k45_mkF _ _ (⟨t366, t367, t368, (⟨t369, t372, t375⟩ : S43)⟩ : S45) (Kd.R_reads' (Kd.R_mono (ok' := (fun k_ => (w.heap.size ≤ k_) ∧ some k_ ≠ ownBlock (.slice Ao104 x4_2.length co104) ∧ some k_ ≠ ownBlock (.slice Ao114 y384.length co114) ∧ some k_ ≠ ownBlock (.slice Ao115 y387.length co115) ∧ k_ ≠ gb377 ∧ k_ ≠ g)) (IsS69.apart HI0.out (Kd.R_types (Kd.R_apart' (Kd.R_apart' (Kd.R_apart' (HO371.out) (Kd.N_typed HO_4.out) (show ∀ q_, q_ ∈ 3 :: ((Kd.int .i64)).E → q_ ≠ 45 from by decide)) (Kd.N_typed HO386.out) (show ∀ q_, q_ ∈ 3 :: ((Kd.int .i64)).E → q_ ≠ 45 from by decide)) (Kd.N_typed HO389.out) (show ∀ q_, q_ ∈ 3 :: ((Kd.int .i64)).E → q_ ≠ 45 from by decide)) BK377.out (by decide)) (by decide)) (fun k_ hk => ⟨hk.1.1.1.1.1.1, ⟨hk.1.1.1.1.2, ⟨hk.1.1.1.2, ⟨hk.1.1.2, ⟨hk.1.2, hk.2⟩⟩⟩⟩⟩))).2.1 (Kd.R_F (Kd.R_mono (ok' := (fun k_ => (w.heap.size ≤ k_) ∧ some k_ ≠ ownBlock (.slice Ao104 x4_2.length co104) ∧ some k_ ≠ ownBlock (.slice Ao114 y384.length co114) ∧ some k_ ≠ ownBlock (.slice Ao115 y387.length co115) ∧ k_ ≠ gb377 ∧ k_ ≠ g)) (IsS69.apart HI0.out (Kd.R_types (Kd.R_apart' (Kd.R_apart' (Kd.R_apart' (HO371.out) (Kd.N_typed HO_4.out) (show ∀ q_, q_ ∈ 3 :: ((Kd.int .i64)).E → q_ ≠ 45 from by decide)) (Kd.N_typed HO386.out) (show ∀ q_, q_ ∈ 3 :: ((Kd.int .i64)).E → q_ ≠ 45 from by decide)) (Kd.N_typed HO389.out) (show ∀ q_, q_ ∈ 3 :: ((Kd.int .i64)).E → q_ ≠ 45 from by decide)) BK377.out (by decide)) (by decide)) (fun k_ hk => ⟨hk.1.1.1.1.1.1, ⟨hk.1.1.1.1.2, ⟨hk.1.1.1.2, ⟨hk.1.1.2, ⟨hk.1.2, hk.2⟩⟩⟩⟩⟩))) (Kd.R_reads' (Kd.R_mono (ok' := (fun k_ => (w.heap.size ≤ k_) ∧ some k_ ≠ ownBlock (.slice Ao104 x4_2.length co104) ∧ some k_ ≠ ownBlock (.slice Ao114 y384.length co114) ∧ some k_ ≠ ownBlock (.slice Ao115 y387.length co115) ∧ k_ ≠ gb377 ∧ k_ ≠ g)) (IsS69.apart HI0.out (Kd.R_types (Kd.R_apart' (Kd.R_apart' (Kd.R_apart' (HO374.out) (Kd.N_typed HO_4.out) (show ∀ q_, q_ ∈ 3 :: ((Kd.int .i64)).E → q_ ≠ 45 from by decide)) (Kd.N_typed HO386.out) (show ∀ q_, q_ ∈ 3 :: ((Kd.int .i64)).E → q_ ≠ 45 from by decide)) (Kd.N_typed HO389.out) (show ∀ q_, q_ ∈ 3 :: ((Kd.int .i64)).E → q_ ≠ 45 from by decide)) BK377.out (by decide)) (by decide)) (fun k_ hk => ⟨hk.1.1.1.1.1.1, ⟨hk.1.1.1.1.2, ⟨hk.1.1.1.2, ⟨hk.1.1.2, ⟨hk.1.2, hk.2⟩⟩⟩⟩⟩))).2.1 (Kd.R_F (Kd.R_mono (ok' := (fun k_ => (w.heap.size ≤ k_) ∧ some k_ ≠ ownBlock (.slice Ao104 x4_2.length co104) ∧ some k_ ≠ ownBlock (.slice Ao114 y384.length co114) ∧ some k_ ≠ ownBlock (.slice Ao115 y387.length co115) ∧ k_ ≠ gb377 ∧ k_ ≠ g)) (IsS69.apart HI0.out (Kd.R_types (Kd.R_apart' (Kd.R_apart' (Kd.R_apart' (HO374.out) (Kd.N_typed HO_4.out) (show ∀ q_, q_ ∈ 3 :: ((Kd.int .i64)).E → q_ ≠ 45 from by decide)) (Kd.N_typed HO386.out) (show ∀ q_, q_ ∈ 3 :: ((Kd.int .i64)).E → q_ ≠ 45 from by decide)) (Kd.N_typed HO389.out) (show ∀ q_, q_ ∈ 3 :: ((Kd.int .i64)).E → q_ ≠ 45 from by decide)) BK377.out (by decide)) (by decide)) (fun k_ hk => ⟨hk.1.1.1.1.1.1, ⟨hk.1.1.1.1.2, ⟨hk.1.1.1.2, ⟨hk.1.1.2, ⟨hk.1.2, hk.2⟩⟩⟩⟩⟩))))) (Reps.none _ _))); intro v392 w118 ho119 hb hg_ hnew_; clear hg_ hnew_; (first | rw [← Ny391.out] at ho119 | (simp only [Int.reduceToNat] at ho119; rw [← Ny391.out] at ho119)); replace HO_4 := Aside0.mk (Kd.N_elder' (by exact lN <| HO_4.out) (Kd.N_base ho119) hb); replace HO371 := Aside0.mk (rb HO371.out hb); replace HO374 := Aside0.mk (rb HO374.out hb); replace HO386 := Aside0.mk (Kd.N_elder' (by exact lN <| HO386.out) (Kd.N_base ho119) hb); replace HO389 := Aside0.mk (Kd.N_elder' (by exact lN <| HO389.out) (Kd.N_base ho119) hb); have HO393 := Aside0.mk (Kd.N_lower ho119 (keep_size (w := w) (g := g) (row := none) (by exact jK HK.out))); replace HI0 := Aside0.mk (IsS69.below (by exact IsS69.j HI0.out) hb); replace BK377 := Aside0.mk (bb BK377.out hb); replace HK := Aside0.mk (kbl HK.out hb); replace HB := Aside0.mk (bj HB.out hb); clear hb ho119; obtain ⟨Ao121, co121, eo121⟩ := Kd.N_slice HO393.out; subst eo121) | ((with_reducible refine gate_builtin (b := .append) (xs := #[.tmp 79, .tmp 81]) rfl ?_); at_builtin; refine Kd.N_append_rows k45 w.heap.size rfl (.tmp 79) (.tmp 81) 33 45 (.agg #[(.int .i64 0), (.int .i64 0), (.int .i64 0), (.slice none 0 0), (.slice none 0 0), (.int .i64 0)]) 80 rfl Try.underlying33 info45 rfl (by decide) (by omega) (.slice Ao104 x4_2.length co104) x4_2 y391 _ _ _ (fun k_ => (w.heap.size ≤ k_) ∧ some k_ ≠ ownBlock (.slice Ao114 y384.length co114) ∧ some k_ ≠ ownBlock (.slice Ao115 y387.length co115) ∧ k_ ≠ gb377 ∧ k_ ≠ g) (fun k_ => ((fun k_ => (w.heap.size ≤ k_) ∧ some k_ ≠ ownBlock (.slice Ao114 y384.length co114) ∧ some k_ ≠ ownBlock (.slice Ao115 y387.length co115) ∧ k_ ≠ gb377 ∧ k_ ≠ g)) k_ ∧ some k_ ≠ ownBlock (.slice Ao104 x4_2.length co104)) rfl rfl ?aO ?aR (fun _ hk => hk) ?aF (Below.refl _ _) ?aS ?aL ?_; (case aR => exact (by skip; exact Kd.N_F (Kd.N_mono (ok' := (fun k_ => ((fun k_ => (w.heap.size ≤ k_) ∧ some k_ ≠ ownBlock (.slice Ao114 y384.length co114) ∧ some k_ ≠ ownBlock (.slice Ao115 y387.length co115) ∧ k_ ≠ gb377 ∧ k_ ≠ g)) k_ ∧ some k_ ≠ ownBlock (.slice Ao104 x4_2.length co104))) (HO393.out) (fun k_ hk => ⟨⟨hk.1, ⟨hk.2.2.1, ⟨hk.2.2.2.1, ⟨hk.2.2.2.2.1, hk.2.2.2.2.2⟩⟩⟩⟩, hk.2.1⟩)))); (case aF => exact (fun k_ hk => ⟨(Nat.le_trans (keep_size (w := w) (g := g) (row := none) (by exact jK HK.out)) hk), Kd.fresh' (Kd.N_lt (by exact lN <| HO386.out)) k_ hk, Kd.fresh' (Kd.N_lt (by exact lN <| HO389.out)) k_ hk, Kd.freshB (g := gb377) (o := .cells #[.int .i64 t366, .int .i64 t367, .int .i64 t368, .slice Ao102 t369.length co102, .slice Ao103 t372.length co103, .int .i64 t375] 45 (0, 0)) (by exact lK BK377.out) k_ hk, IsS69.fresh (by exact IsS69.j HI0.out) k_ hk⟩)); (case aO => exact (by exact lN <| Kd.N_mono HO_4.out (fun _ hk => ⟨hk.1.1.1, ⟨hk.1.1.2.2.2.1, ⟨hk.1.2, ⟨hk.1.1.2.2.2.2.2, hk.1.1.2.2.2.2.1⟩⟩⟩⟩))); (case aS => exact (keep_size (w := w) (g := g) (row := none) (by exact jK HK.out))); (case aL => have := LMc97.out; omega); intro v395 w120 ho hb hg hat; rw [← Ny394.out] at ho; replace HI0 := Aside0.mk (IsS69.grown (by exact IsS69.j HI0.out) hg (IsS69.own_neN HI0.out HO_4.out (by decide))); replace HO371 := Aside0.mk (Kd.R_over' (by exact lR HO371.out) (Kd.N_typed (by exact lN <| HO_4.out)) (by decide) hg); replace HO374 := Aside0.mk (Kd.R_over' (by exact lR HO374.out) (Kd.N_typed (by exact lN <| HO_4.out)) (by decide) hg); replace BK377 := Aside0.mk (blk_grown (g := gb377) (o := .cells #[.int .i64 t366, .int .i64 t367, .int .i64 t368, .slice Ao102 t369.length co102, .slice Ao103 t372.length co103, .int .i64 t375] 45 (0, 0)) (by exact lK BK377.out) hg (Kd.N_away HO_4.out (fun _ hk => hk.1.1.2.2.2.2.2))); replace HO386 := Aside0.mk (Kd.N_afterv (ok := (fun k_ => (w.heap.size ≤ k_) ∧ some k_ ≠ ownBlock (.slice Ao115 y387.length co115) ∧ some k_ ≠ ownBlock (.slice Ao121 y391.length co121) ∧ k_ ≠ g ∧ k_ ≠ gb377)) (by exact lN <| Kd.N_mono HO386.out (fun _ hk => ⟨⟨hk.1.1.1, ⟨hk.1.2, ⟨hk.2, ⟨hk.1.1.2.2.1, hk.1.1.2.2.2⟩⟩⟩⟩, hk.1.1.2.1⟩)) hg hat); replace HO393 := Aside0.mk (Kd.N_afterv (ok := (fun k_ => (w.heap.size ≤ k_) ∧ some k_ ≠ ownBlock (.slice Ao114 y384.length co114) ∧ some k_ ≠ ownBlock (.slice Ao115 y387.length co115) ∧ k_ ≠ gb377 ∧ k_ ≠ g)) (by exact lN <| Kd.N_mono HO393.out (fun _ hk => ⟨⟨hk.1, ⟨hk.2.2.1, ⟨hk.2.2.2.1, ⟨hk.2.2.2.2.1, hk.2.2.2.2.2⟩⟩⟩⟩, hk.2.1⟩)) hg hat); replace HB := Aside0.mk (below_weaken (by exact jB HB.out) HL.out hb); replace HK := Aside0.mk (KeepBut.trans (by exact jK HK.out) (KeepBut.of_grown hg g) (Kd.N_base2 HO_4.out)); have HO396 := Aside0.mk (ho); clear HO_4 HO389 ho hb hg hat))
               go_roundg k2
               case measure => have := HJ3.out; have := HK2.out; omega
               case rel => exact ⟨(y394), (wrap64 (x5_2 - 1)), (t376), (by first | rfl | (simp; done) | (simp [*]; done)), H', ⟨by have := HJ3.out; have := HK2.out; omega⟩, ⟨by exact lN <| Kd.N_mono HO396.out (fun _ hk => ⟨hk.1, hk.2.2.2.2⟩)⟩, ⟨by exact IsS69.j HI0.out⟩, ⟨by exact jK HK.out⟩, ⟨by exact jB HB.out⟩⟩
              ·rw [if_neg c97] at H
               exact absurd H (by simp)
             ·replace c96 := Bool.eq_false_iff.mpr c96
              subst c96
              have H1 : (spec_l20Act.l0 k2 x4_2 (wrap64 (x5_2 - 1)) s0_0 t376) = some (r1, r2) := by rw [if_neg (show ¬ (false = true) by decide)] at H; exact H
              clear H
              have H := H1
              clear H1
              have H' := Aside0.mk H
              clear H
              try go_wp2_with (first | ((with_reducible refine gate_callee (f := 65) rfl ?_); refine gL (some 71) Try.func65 #[.pointer (some ⟨g, 0, none⟩)] ?_; (with_reducible refine (spec_l20Line.calls k2 g s0_0 x1001_2 t366 t367 t368 t369 t372 t375 t376 w0 _ ?side1 ?side2 A92.out).mono ?_); (case side1 => exact IsS69.j HI0.out); (case side2 => exact jB HB.out); rintro e w122 ⟨v370, v373, rfl, ho0, ho1, hi, hb, hk⟩; refine ⟨_, rfl, ?_⟩; replace HO_4 := Aside0.mk (Kd.N_mono (Kd.N_told (Kd.N_told (Kd.N_oldK (Kd.N_mono (ok := fun k_ => (((w.heap.size ≤ k_)) ∧ k_ ≠ g)) (by exact lN <| HO_4.out) (fun k_ hk_ => (⟨hk_, hk_.2⟩ : _ ∧ k_ ≠ g))) hk) (Kd.R_base ho0)) (Kd.R_base ho1)) (fun _ h_ => h_.1)); have HO371 := Aside0.mk (lwM ho0 HK.out); have HO374 := Aside0.mk (lwM ho1 HK.out); replace HK := Aside0.mk (kt HK.out hk); replace HB := Aside0.mk (hb); replace HI0 := Aside0.mk (hi); (try clear hb hk hi); (try clear ho0); (try clear ho1)) | ((with_reducible refine gate_dst (N := 6) rfl ?_); refine bx 6 #[.int .i64 0, .int .i64 0, .int .i64 0, .slice none 0 0, .slice none 0 0, .int .i64 0] 45 ?_; intro gb377 hg w123 hbox hb; replace HO_4 := Aside0.mk (Kd.N_below (Kd.N_elderB (by exact lN <| HO_4.out) gb377 (Nat.le_of_eq hg.symm)) hb); replace HO371 := Aside0.mk (rb HO371.out hb); replace HO374 := Aside0.mk (rb HO374.out hb); replace HB := Aside0.mk (bj HB.out hb); have BK377 := Aside0.mk (hbox); have GW377 := Aside0.mk ((gk hg HK.out)); have IGW377 : Nonempty _ := ⟨GW377.out⟩; have GE377 := Aside0.mk ((Nat.le_trans HW0.out (gk hg HK.out) : w0.heap.size ≤ gb377)); have IGE377 : Nonempty _ := ⟨GE377.out⟩; replace HK := Aside0.mk (kbl HK.out hb); have NB0_377 := Aside0.mk ((by rw [hg]; exact Nat.ne_of_lt (IsS69.lt (show IsS69 w0 _ g s0_0 t376 from by exact IsS69.j HI0.out)) : g ≠ gb377)); have INB0_377 : Nonempty _ := ⟨NB0_377.out⟩; have NB377_0 := Aside0.mk ((by rw [hg]; exact Nat.ne_of_gt (IsS69.lt (show IsS69 w0 _ g s0_0 t376 from by exact IsS69.j HI0.out)) : gb377 ≠ g)); replace HI0 := Aside0.mk (IsS69.below (by exact IsS69.j HI0.out) hb); clear hb hbox hg; have hnb124 := NB377_0.out; have hnc124 := NB0_377.out; obtain ⟨hcz125_0, hcz125_1, hcz125_2, hcz125_3, hcz125_4, hcz125_5, hfz125_0, hfz125_1, hfz125_2, hfz125_3, hfz125_4, hfz125_5⟩ := cf6 BK377.out; obtain ⟨Ao126, co126, eo126⟩ := Kd.R_slice HO371.out; subst eo126; obtain ⟨Ao127, co127, eo127⟩ := Kd.R_slice HO374.out; subst eo127; obtain ⟨Ao128, co128, eo128⟩ := Kd.N_slice HO_4.out; subst eo128))
              have n0_ : Aside0 (Kd.N k45 45 ((((((w123.setCell ⟨gb377, 0, none⟩ (.int .i64 t366)).setCell ⟨gb377, 1, none⟩ (.int .i64 t367)).setCell ⟨gb377, 2, none⟩ (.int .i64 t368)).setCell ⟨gb377, 3, none⟩ (.slice Ao126 t369.length co126)).setCell ⟨gb377, 4, none⟩ (.slice Ao127 t372.length co127)).setCell ⟨gb377, 5, none⟩ (.int .i64 t375)) w.heap.size (fun k_ => (w.heap.size ≤ k_) ∧ some k_ ≠ ownBlock (.slice Ao126 t369.length co126) ∧ some k_ ≠ ownBlock (.slice Ao127 t372.length co127) ∧ k_ ≠ g ∧ k_ ≠ gb377) (.slice Ao128 x4_2.length co128) x4_2) := ⟨by exact lN <| Kd.N_mono (Kd.N_far (p := ⟨gb377, 5, none⟩) (Kd.N_far (p := ⟨gb377, 4, none⟩) (Kd.N_far (p := ⟨gb377, 3, none⟩) (Kd.N_far (p := ⟨gb377, 2, none⟩) (Kd.N_far (p := ⟨gb377, 1, none⟩) (Kd.N_far (p := ⟨gb377, 0, none⟩) (Kd.N_mono HO_4.out (fun k_ hk => (⟨hk, hk.2⟩ : _ ∧ k_ ≠ gb377))) (fun _ hk => hk.2) (.int .i64 t366)) (fun _ hk => hk.2) (.int .i64 t367)) (fun _ hk => hk.2) (.int .i64 t368)) (fun _ hk => hk.2) (.slice Ao126 t369.length co126)) (fun _ hk => hk.2) (.slice Ao127 t372.length co127)) (fun _ hk => hk.2) (.int .i64 t375)) (fun _ hk => ⟨hk.1.1.1.1.1, ⟨hk.1.1.1.2, ⟨hk.1.1.2, ⟨hk.1.1.1.1.2, hk.1.2⟩⟩⟩⟩)⟩
              have n1_ := Aside0.mk (Kd.R_mono (ok' := (fun k_ => (w.heap.size ≤ k_) ∧ some k_ ≠ ownBlock (.slice Ao127 t372.length co127))) (R6 (w := w123) (x := (.int .i64 t366)) (y := (.int .i64 t367)) (z := (.int .i64 t368)) (u := (.slice Ao126 t369.length co126)) (v := (.slice Ao127 t372.length co127)) (t := (.int .i64 t375)) (lR HO371.out) (lK BK377.out)) (fun _ hk => ⟨hk.1, hk.2⟩))
              have n2_ := Aside0.mk (Kd.R_mono (ok' := (fun k_ => (w.heap.size ≤ k_) ∧ some k_ ≠ ownBlock (.slice Ao126 t369.length co126))) (R6 (w := w123) (x := (.int .i64 t366)) (y := (.int .i64 t367)) (z := (.int .i64 t368)) (u := (.slice Ao126 t369.length co126)) (v := (.slice Ao127 t372.length co127)) (t := (.int .i64 t375)) (lR HO374.out) (lK BK377.out)) (fun _ hk => ⟨hk.1, hk.2⟩))
              have n3_ := Aside0.mk (p6 (w := w123) (x := (.int .i64 t366)) (y := (.int .i64 t367)) (z := (.int .i64 t368)) (u := (.slice Ao126 t369.length co126)) (v := (.slice Ao127 t372.length co127)) (t := (.int .i64 t375)) (lK BK377.out))
              have n4_ : Aside0 (IsS69 w0 ((((((w123.setCell ⟨gb377, 0, none⟩ (.int .i64 t366)).setCell ⟨gb377, 1, none⟩ (.int .i64 t367)).setCell ⟨gb377, 2, none⟩ (.int .i64 t368)).setCell ⟨gb377, 3, none⟩ (.slice Ao126 t369.length co126)).setCell ⟨gb377, 4, none⟩ (.slice Ao127 t372.length co127)).setCell ⟨gb377, 5, none⟩ (.int .i64 t375)) g s0_0 t376) := ⟨by exact IsS69.j HI0.out⟩
              have n5_ : Aside0 (KeepBut w ((((((w123.setCell ⟨gb377, 0, none⟩ (.int .i64 t366)).setCell ⟨gb377, 1, none⟩ (.int .i64 t367)).setCell ⟨gb377, 2, none⟩ (.int .i64 t368)).setCell ⟨gb377, 3, none⟩ (.slice Ao126 t369.length co126)).setCell ⟨gb377, 4, none⟩ (.slice Ao127 t372.length co127)).setCell ⟨gb377, 5, none⟩ (.int .i64 t375)) g none) := ⟨by exact jK HK.out⟩
              have n6_ : Aside0 (Below w0.heap.size w0 ((((((w123.setCell ⟨gb377, 0, none⟩ (.int .i64 t366)).setCell ⟨gb377, 1, none⟩ (.int .i64 t367)).setCell ⟨gb377, 2, none⟩ (.int .i64 t368)).setCell ⟨gb377, 3, none⟩ (.slice Ao126 t369.length co126)).setCell ⟨gb377, 4, none⟩ (.slice Ao127 t372.length co127)).setCell ⟨gb377, 5, none⟩ (.int .i64 t375))) := ⟨by exact jB HB.out⟩
              (try clear HO_4)
              (try clear HO371)
              (try clear HO374)
              (try clear BK377)
              (try clear HI0)
              (try clear HK)
              (try clear HB)
              generalize ((((((w123.setCell ⟨gb377, 0, none⟩ (.int .i64 t366)).setCell ⟨gb377, 1, none⟩ (.int .i64 t367)).setCell ⟨gb377, 2, none⟩ (.int .i64 t368)).setCell ⟨gb377, 3, none⟩ (.slice Ao126 t369.length co126)).setCell ⟨gb377, 4, none⟩ (.slice Ao127 t372.length co127)).setCell ⟨gb377, 5, none⟩ (.int .i64 t375)) = w129 at n0_ n1_ n2_ n3_ n4_ n5_ n6_ ⊢
              have HO_4 := n0_
              have HO371 := n1_
              have HO374 := n2_
              have BK377 := n3_
              have HI0 := n4_
              have HK := n5_
              have HB := n6_
              clear n0_ n1_ n2_ n3_ n4_ n5_ n6_
              replace HO_4 := Aside0.mk (Kd.N_drew HO_4.out)
              replace HO371 := Aside0.mk (Kd.R_drew HO371.out)
              replace HO374 := Aside0.mk (Kd.R_drew HO374.out)
              replace BK377 := Aside0.mk (blk_drew BK377.out)
              replace HI0 := Aside0.mk (IsS69.drew HI0.out)
              replace HK := Aside0.mk (keep_drew HK.out)
              replace HB := Aside0.mk (below_drew1 HB.out)
              refine start_ (n := 7) (S := fun w' => w'.cell? ⟨gb377, 0, none⟩ = some (.int .i64 t366) ∧ w'.cell? ⟨gb377, 1, none⟩ = some (.int .i64 t367) ∧ w'.cell? ⟨gb377, 2, none⟩ = some (.int .i64 t368) ∧ w'.cell? ⟨gb377, 3, none⟩ = some (.slice Ao126 t369.length co126) ∧ w'.cell? ⟨gb377, 4, none⟩ = some (.slice Ao127 t372.length co127) ∧ w'.cell? ⟨gb377, 5, none⟩ = some (.int .i64 t375)) (ds := []) #[false, false, false, false, false, false, false] (by kernel_rfl) rfl rfl (cz6 BK377.out) (fun hHeld => ?_)
              generalize w129.drew = w130 at HO_4 HO371 HO374 BK377 HI0 HK HB hHeld ⊢
              refine pure_ (i := 1) (N := some 73) (v := ?_) (a' := ?_) #[false, true, false, false, false, false, false] rfl rfl (by kernel_rfl) (fun _ _ _ h => h) (Or.inl ⟨by rfl, ?_⟩) ?_ ?_
              rotate_left
              ·intro w'
               go_simp
               with_reducible rfl
              rotate_left
              ·simp only [Act.put, sA, s0, sS, i64_w, i32_w]
               rfl
              refine take_ (i := 3) (N := some 75) (v := ?_) (a' := ?_) #[false, true, false, true, false, false, false] rfl rfl (by kernel_rfl) (fun _ _ _ h => h) (Or.inl ⟨by rfl, ?_⟩) hHeld ?_ ?_
              rotate_left
              ·rintro w' ⟨s0, s1, s2, s3, s4, s5⟩
               go_simp
               with_reducible rfl
              rotate_left
              ·simp only [Act.put, sA, s0, sS, i64_w, i32_w]
               rfl
              refine join_ (σ := Value × Value × Value) 2 #[true, true, true, true, true, false, false] (fun s_ => [(72, s_.1), (74, s_.2.1), (76, s_.2.2)]) (fun s_ w' => (w'.cell? ⟨gb377, 0, none⟩ = some (.int .i64 t366) ∧ w'.cell? ⟨gb377, 1, none⟩ = some (.int .i64 t367) ∧ w'.cell? ⟨gb377, 2, none⟩ = some (.int .i64 t368) ∧ w'.cell? ⟨gb377, 3, none⟩ = some (.slice Ao126 t369.length co126) ∧ w'.cell? ⟨gb377, 4, none⟩ = some (.slice Ao127 t372.length co127) ∧ w'.cell? ⟨gb377, 5, none⟩ = some (.int .i64 t375)) ∧ (Kd.R (Kd.int .i64) 3 w' w.heap.size (fun k_ => (w.heap.size ≤ k_) ∧ some k_ ≠ ownBlock (.slice Ao127 t372.length co127)) (.slice Ao126 t369.length co126) t369) ∧ (Kd.R (Kd.int .i64) 3 w' w.heap.size (fun k_ => (w.heap.size ≤ k_) ∧ some k_ ≠ ownBlock (.slice Ao126 t369.length co126)) (.slice Ao127 t372.length co127) t372) ∧ (Kd.N k45 45 w' w.heap.size (fun k_ => (w.heap.size ≤ k_) ∧ some k_ ≠ ownBlock (.slice Ao126 t369.length co126) ∧ some k_ ≠ ownBlock (.slice Ao127 t372.length co127) ∧ some k_ ≠ (s_.2.2 : Value).ownBlock ∧ k_ ≠ g ∧ k_ ≠ gb377) s_.2.1 y381) ∧ (Kd.N k45 45 w' w.heap.size (fun k_ => (w.heap.size ≤ k_) ∧ some k_ ≠ (s_.2.1 : Value).ownBlock ∧ some k_ ≠ ownBlock (.slice Ao128 x4_2.length co128) ∧ k_ ≠ g ∧ k_ ≠ gb377) s_.2.2 y384) ∧ (Kd.N k45 45 w' w.heap.size (fun k_ => (w.heap.size ≤ k_) ∧ some k_ ≠ ownBlock (.slice Ao126 t369.length co126) ∧ some k_ ≠ ownBlock (.slice Ao127 t372.length co127) ∧ some k_ ≠ (s_.2.1 : Value).ownBlock ∧ some k_ ≠ (s_.2.2 : Value).ownBlock ∧ k_ ≠ g ∧ k_ ≠ gb377) (.slice Ao128 x4_2.length co128) x4_2) ∧ (w'.heap[gb377]? = some (.cells #[.int .i64 t366, .int .i64 t367, .int .i64 t368, .slice Ao126 t369.length co126, .slice Ao127 t372.length co127, .int .i64 t375] 45 (0, 0))) ∧ (IsS69 w0 w' g s0_0 t376) ∧ (KeepBut w w' g none) ∧ (Below w0.heap.size w0 w')) ?_ ?_
              rotate_left
              ·intro hCont
               refine two_ (i := 0) (j := 4) (Ni := some 72) (Nj := some 76) #[true, true, false, true, false, false, false] #[false, true, false, true, true, false, false] rfl rfl rfl rfl (by kernel_rfl) (by decide) (by decide) (fun K hK => ?_) (fun K hK => ?_)
               ·skip
                refine Kd.N_lit_step k45 _ 45 ?hg (N' := 72) ?hd (xs := ([] : List (S45))) (inner := []) (ok := (fun k_ => (w.heap.size ≤ k_) ∧ some k_ ≠ ownBlock (.slice Ao128 x4_2.length co128) ∧ some k_ ≠ ownBlock (.slice Ao126 t369.length co126) ∧ some k_ ≠ ownBlock (.slice Ao127 t372.length co127) ∧ k_ ≠ gb377 ∧ k_ ≠ g)) (okp := (fun k_ => (w.heap.size ≤ k_) ∧ some k_ ≠ ownBlock (.slice Ao128 x4_2.length co128) ∧ some k_ ≠ ownBlock (.slice Ao126 t369.length co126) ∧ some k_ ≠ ownBlock (.slice Ao127 t372.length co127) ∧ k_ ≠ gb377 ∧ k_ ≠ g)) ?hr ?hp (fun _ hk => hk) ((show ∀ k_, w130.heap.size ≤ k_ → (fun k_ => (w.heap.size ≤ k_) ∧ some k_ ≠ ownBlock (.slice Ao128 x4_2.length co128) ∧ some k_ ≠ ownBlock (.slice Ao126 t369.length co126) ∧ some k_ ≠ ownBlock (.slice Ao127 t372.length co127) ∧ k_ ≠ gb377 ∧ k_ ≠ g) k_ from fun k_ hk => ⟨(Nat.le_trans (keep_size (w := w) (g := g) (row := none) (by exact jK HK.out)) hk), Kd.fresh' (Kd.N_lt (by exact lN <| HO_4.out)) k_ hk, Kd.fresh' (rl HO371.out) k_ hk, Kd.fresh' (rl HO374.out) k_ hk, Kd.freshB (g := gb377) (o := .cells #[.int .i64 t366, .int .i64 t367, .int .i64 t368, .slice Ao126 t369.length co126, .slice Ao127 t372.length co127, .int .i64 t375] 45 (0, 0)) (by exact lK BK377.out) k_ hk, IsS69.fresh (by exact IsS69.j HI0.out) k_ hk⟩) _ (Nat.le_refl _)) (Below.refl _ _) (Nat.le_refl _) (by simp) ?_; (case hd => rfl); (case hg => rfl); (case hr => first | (go_simp; done) | (go_simp; rfl)); (case hp => exact (Reps.none _ _))
                intro v379 w131 ho132 hb hg_ hnew_
                clear hg_ hnew_
                (first | rw [← Ny378.out] at ho132 | (simp only [Int.reduceToNat] at ho132; rw [← Ny378.out] at ho132))
                replace HO_4 := Aside0.mk (Kd.N_elder' (by exact lN <| HO_4.out) (Kd.N_base ho132) hb)
                replace HO371 := Aside0.mk (rb HO371.out hb)
                replace HO374 := Aside0.mk (rb HO374.out hb)
                have HO380 := Aside0.mk (Kd.N_lower ho132 (keep_size (w := w) (g := g) (row := none) (by exact jK HK.out)))
                replace HI0 := Aside0.mk (IsS69.below (by exact IsS69.j HI0.out) hb)
                replace BK377 := Aside0.mk (bb BK377.out hb)
                replace HK := Aside0.mk (kbl HK.out hb)
                replace HB := Aside0.mk (bj HB.out hb)
                clear hb ho132
                refine hK.out _ _ (cz6 BK377.out) (fun hHeld => ?_)
                clear hK K
                refine norm_ (a' := ?_) ?_ ?_
                rotate_left
                ·show Act.put _ (some 72) _ = _
                 simp only [Act.put, sA, s0, sS, i64_w, i32_w]
                 rfl
                refine two_ (i := 2) (j := 4) (Ni := some 74) (Nj := some 76) #[true, true, true, true, false, false, false] #[true, true, false, true, true, false, false] rfl rfl rfl rfl (by kernel_rfl) (by decide) (by decide) (fun K hK => ?_) (fun K hK => ?_)
                ·skip
                 refine Kd.N_append_rows_step k45 w.heap.size (by rfl) (.tmp 72) (.tmp 73) 33 45 (.agg #[(.int .i64 0), (.int .i64 0), (.int .i64 0), (.slice none 0 0), (.slice none 0 0), (.int .i64 0)]) 80 rfl Try.underlying33 info45 rfl (by decide) (by omega) v379 y378 x4_2 _ _ _ (fun k_ => (w.heap.size ≤ k_) ∧ some k_ ≠ ownBlock (.slice Ao126 t369.length co126) ∧ some k_ ≠ ownBlock (.slice Ao127 t372.length co127) ∧ k_ ≠ gb377 ∧ k_ ≠ g) (fun k_ => ((fun k_ => (w.heap.size ≤ k_) ∧ some k_ ≠ ownBlock (.slice Ao126 t369.length co126) ∧ some k_ ≠ ownBlock (.slice Ao127 t372.length co127) ∧ k_ ≠ gb377 ∧ k_ ≠ g)) k_ ∧ some k_ ≠ v379.ownBlock) rfl rfl ?aO ?aR (fun _ hk => hk) ?aF (Below.refl _ _) ?aS ?aL ?_
                 (case aR => exact (by skip; exact Kd.N_F (Kd.N_mono (ok' := (fun k_ => ((fun k_ => (w.heap.size ≤ k_) ∧ some k_ ≠ ownBlock (.slice Ao126 t369.length co126) ∧ some k_ ≠ ownBlock (.slice Ao127 t372.length co127) ∧ k_ ≠ gb377 ∧ k_ ≠ g)) k_ ∧ some k_ ≠ v379.ownBlock)) (HO_4.out) (fun k_ hk => ⟨⟨hk.1.1, ⟨hk.1.2.1, ⟨hk.1.2.2.1, ⟨hk.1.2.2.2.2, hk.1.2.2.2.1⟩⟩⟩⟩, hk.2⟩))))
                 (case aF => exact (fun k_ hk => ⟨(Nat.le_trans (keep_size (w := w) (g := g) (row := none) (by exact jK HK.out)) hk), Kd.fresh' (rl HO371.out) k_ hk, Kd.fresh' (rl HO374.out) k_ hk, Kd.freshB (g := gb377) (o := .cells #[.int .i64 t366, .int .i64 t367, .int .i64 t368, .slice Ao126 t369.length co126, .slice Ao127 t372.length co127, .int .i64 t375] 45 (0, 0)) (by exact lK BK377.out) k_ hk, IsS69.fresh (by exact IsS69.j HI0.out) k_ hk⟩))
                 (case aO => exact (by exact lN <| Kd.N_mono HO380.out (fun _ hk => ⟨hk.1, ⟨hk.2.2.1, ⟨hk.2.2.2.1, ⟨hk.2.2.2.2.1, hk.2.2.2.2.2⟩⟩⟩⟩)))
                 (case aS => exact (keep_size (w := w) (g := g) (row := none) (by exact jK HK.out)))
                 (case aL => have := LMc93.out; omega)
                 intro v382 w133 ho hb hg hat
                 rw [← Ny381.out] at ho
                 replace HO_4 := Aside0.mk (Kd.N_afterv (ok := (fun k_ => (w.heap.size ≤ k_) ∧ some k_ ≠ ownBlock (.slice Ao126 t369.length co126) ∧ some k_ ≠ ownBlock (.slice Ao127 t372.length co127) ∧ k_ ≠ g ∧ k_ ≠ gb377)) (by exact lN <| HO_4.out) hg hat)
                 replace HI0 := Aside0.mk (IsS69.grown (by exact IsS69.j HI0.out) hg (IsS69.own_neN HI0.out HO380.out (by decide)))
                 replace HO371 := Aside0.mk (Kd.R_over' (by exact lR HO371.out) (Kd.N_typed (by exact lN <| HO380.out)) (by decide) hg)
                 replace HO374 := Aside0.mk (Kd.R_over' (by exact lR HO374.out) (Kd.N_typed (by exact lN <| HO380.out)) (by decide) hg)
                 replace BK377 := Aside0.mk (blk_grown (g := gb377) (o := .cells #[.int .i64 t366, .int .i64 t367, .int .i64 t368, .slice Ao126 t369.length co126, .slice Ao127 t372.length co127, .int .i64 t375] 45 (0, 0)) (by exact lK BK377.out) hg (Kd.N_away HO380.out (fun _ hk => hk.2.2.2.2.1)))
                 replace HB := Aside0.mk (below_weaken (by exact jB HB.out) HL.out hb)
                 replace HK := Aside0.mk (KeepBut.trans (by exact jK HK.out) (KeepBut.of_grown hg g) (Kd.N_base2 HO380.out))
                 have HO383 := Aside0.mk (ho)
                 clear HO380 ho hb hg hat
                 refine hK.out _ _ (cz6 BK377.out) (fun hHeld => ?_)
                 clear hK K
                 refine norm_ (a' := ?_) ?_ ?_
                 rotate_left
                 ·show Act.put _ (some 74) _ = _
                  simp only [Act.put, sA, s0, sS, i64_w, i32_w]
                  rfl
                 refine one_ (i := 4) (N := some 76) #[true, true, true, true, true, false, false] rfl rfl (by kernel_rfl) (by decide) (fun K hK => ?_)
                 refine Kd.N_lit_step k45 _ 45 ?hg (N' := 76) ?hd (xs := ([(⟨t366, t367, t368, (⟨t369, t372, t375⟩ : S43)⟩ : S45)] : List (S45))) (inner := [.int .i64 t366, .int .i64 t367, .int .i64 t368, .slice Ao126 t369.length co126, .slice Ao127 t372.length co127, .int .i64 t375]) (ok := (fun k_ => (w.heap.size ≤ k_) ∧ some k_ ≠ ownBlock (.slice Ao128 x4_2.length co128) ∧ some k_ ≠ v382.ownBlock ∧ k_ ≠ gb377 ∧ k_ ≠ g)) (okp := (fun k_ => (w.heap.size ≤ k_) ∧ some k_ ≠ ownBlock (.slice Ao128 x4_2.length co128) ∧ some k_ ≠ v382.ownBlock ∧ k_ ≠ gb377 ∧ k_ ≠ g)) ?hr ?hp (fun _ hk => hk) ((show ∀ k_, w133.heap.size ≤ k_ → (fun k_ => (w.heap.size ≤ k_) ∧ some k_ ≠ ownBlock (.slice Ao128 x4_2.length co128) ∧ some k_ ≠ v382.ownBlock ∧ k_ ≠ gb377 ∧ k_ ≠ g) k_ from fun k_ hk => ⟨(Nat.le_trans (keep_size (w := w) (g := g) (row := none) (by exact jK HK.out)) hk), Kd.fresh' (Kd.N_lt (by exact lN <| HO_4.out)) k_ hk, Kd.fresh' (Kd.N_lt (by exact lN <| HO383.out)) k_ hk, Kd.freshB (g := gb377) (o := .cells #[.int .i64 t366, .int .i64 t367, .int .i64 t368, .slice Ao126 t369.length co126, .slice Ao127 t372.length co127, .int .i64 t375] 45 (0, 0)) (by exact lK BK377.out) k_ hk, IsS69.fresh (by exact IsS69.j HI0.out) k_ hk⟩) _ (Nat.le_refl _)) (Below.refl _ _) (Nat.le_refl _) (by simp) ?_; (case hd => rfl); (case hg => rfl); (case hr => first | (go_simp; done) | (go_simp; rfl)); (case hp => exact (Reps.c6 (show Kd.FK k45 _ _ (⟨t366, t367, t368, (⟨t369, t372, t375⟩ : S43)⟩ : S45) [.int .i64 t366, .int .i64 t367, .int .i64 t368, .slice Ao126 t369.length co126, .slice Ao127 t372.length co127, .int .i64 t375] from (k45_mkF _ _ (⟨t366, t367, t368, (⟨t369, t372, t375⟩ : S43)⟩ : S45) (Kd.R_reads' (Kd.R_mono (ok' := (fun k_ => (w.heap.size ≤ k_) ∧ some k_ ≠ ownBlock (.slice Ao128 x4_2.length co128) ∧ some k_ ≠ v382.ownBlock ∧ k_ ≠ gb377 ∧ k_ ≠ g)) (IsS69.apart HI0.out (Kd.R_types (Kd.R_apart' (Kd.R_apart' (HO371.out) (Kd.N_typed HO_4.out) (show ∀ q_, q_ ∈ 3 :: ((Kd.int .i64)).E → q_ ≠ 45 from by decide)) (Kd.N_typed HO383.out) (show ∀ q_, q_ ∈ 3 :: ((Kd.int .i64)).E → q_ ≠ 45 from by decide)) BK377.out (by decide)) (by decide)) (fun k_ hk => ⟨hk.1.1.1.1.1, ⟨hk.1.1.1.2, ⟨hk.1.1.2, ⟨hk.1.2, hk.2⟩⟩⟩⟩))).2.1 (Kd.R_F (Kd.R_mono (ok' := (fun k_ => (w.heap.size ≤ k_) ∧ some k_ ≠ ownBlock (.slice Ao128 x4_2.length co128) ∧ some k_ ≠ v382.ownBlock ∧ k_ ≠ gb377 ∧ k_ ≠ g)) (IsS69.apart HI0.out (Kd.R_types (Kd.R_apart' (Kd.R_apart' (HO371.out) (Kd.N_typed HO_4.out) (show ∀ q_, q_ ∈ 3 :: ((Kd.int .i64)).E → q_ ≠ 45 from by decide)) (Kd.N_typed HO383.out) (show ∀ q_, q_ ∈ 3 :: ((Kd.int .i64)).E → q_ ≠ 45 from by decide)) BK377.out (by decide)) (by decide)) (fun k_ hk => ⟨hk.1.1.1.1.1, ⟨hk.1.1.1.2, ⟨hk.1.1.2, ⟨hk.1.2, hk.2⟩⟩⟩⟩))) (Kd.R_reads' (Kd.R_mono (ok' := (fun k_ => (w.heap.size ≤ k_) ∧ some k_ ≠ ownBlock (.slice Ao128 x4_2.length co128) ∧ some k_ ≠ v382.ownBlock ∧ k_ ≠ gb377 ∧ k_ ≠ g)) (IsS69.apart HI0.out (Kd.R_types (Kd.R_apart' (Kd.R_apart' (HO374.out) (Kd.N_typed HO_4.out) (show ∀ q_, q_ ∈ 3 :: ((Kd.int .i64)).E → q_ ≠ 45 from by decide)) (Kd.N_typed HO383.out) (show ∀ q_, q_ ∈ 3 :: ((Kd.int .i64)).E → q_ ≠ 45 from by decide)) BK377.out (by decide)) (by decide)) (fun k_ hk => ⟨hk.1.1.1.1.1, ⟨hk.1.1.1.2, ⟨hk.1.1.2, ⟨hk.1.2, hk.2⟩⟩⟩⟩))).2.1 (Kd.R_F (Kd.R_mono (ok' := (fun k_ => (w.heap.size ≤ k_) ∧ some k_ ≠ ownBlock (.slice Ao128 x4_2.length co128) ∧ some k_ ≠ v382.ownBlock ∧ k_ ≠ gb377 ∧ k_ ≠ g)) (IsS69.apart HI0.out (Kd.R_types (Kd.R_apart' (Kd.R_apart' (HO374.out) (Kd.N_typed HO_4.out) (show ∀ q_, q_ ∈ 3 :: ((Kd.int .i64)).E → q_ ≠ 45 from by decide)) (Kd.N_typed HO383.out) (show ∀ q_, q_ ∈ 3 :: ((Kd.int .i64)).E → q_ ≠ 45 from by decide)) BK377.out (by decide)) (by decide)) (fun k_ hk => ⟨hk.1.1.1.1.1, ⟨hk.1.1.1.2, ⟨hk.1.1.2, ⟨hk.1.2, hk.2⟩⟩⟩⟩))))) (Reps.none _ _)))
                 intro v385 w134 ho135 hb hg_ hnew_
                 clear hg_ hnew_
                 (first | rw [← Ny384.out] at ho135 | (simp only [Int.reduceToNat] at ho135; rw [← Ny384.out] at ho135))
                 replace HO_4 := Aside0.mk (Kd.N_elder' (by exact lN <| HO_4.out) (Kd.N_base ho135) hb)
                 replace HO371 := Aside0.mk (rb HO371.out hb)
                 replace HO374 := Aside0.mk (rb HO374.out hb)
                 replace HO383 := Aside0.mk (Kd.N_elder' (by exact lN <| HO383.out) (Kd.N_base ho135) hb)
                 have HO386 := Aside0.mk (Kd.N_lower ho135 (keep_size (w := w) (g := g) (row := none) (by exact jK HK.out)))
                 replace HI0 := Aside0.mk (IsS69.below (by exact IsS69.j HI0.out) hb)
                 replace BK377 := Aside0.mk (bb BK377.out hb)
                 replace HK := Aside0.mk (kbl HK.out hb)
                 replace HB := Aside0.mk (bj HB.out hb)
                 clear hb ho135
                 refine hK.out _ _ (cz6 BK377.out) (fun hHeld => ?_)
                 clear hK K
                 refine norm_ (a' := ?_) ?_ ?_
                 rotate_left
                 ·show Act.put _ (some 76) _ = _
                  simp only [Act.put, sA, s0, sS, i64_w, i32_w]
                  rfl
                 exact norm_ (by simp only [putAll, Act.put, List.setIfInBounds_toArray, List.set_cons_zero, List.set_cons_succ]) (hCont (v379, v382, v385) _ ⟨hHeld, (by exact lR HO371.out), (by exact lR HO374.out), (by exact lN <| Kd.N_mono HO383.out (fun _ hk => ⟨hk.1.1, ⟨hk.1.2.1, ⟨hk.1.2.2.1, ⟨hk.2, ⟨hk.1.2.2.2.2, hk.1.2.2.2.1⟩⟩⟩⟩⟩)), (by exact lN <| Kd.N_mono HO386.out (fun _ hk => ⟨hk.1, ⟨hk.2.2.1, ⟨hk.2.1, ⟨hk.2.2.2.2, hk.2.2.2.1⟩⟩⟩⟩)), (by exact lN <| Kd.N_mono HO_4.out (fun _ hk => ⟨hk.1.1.1, ⟨hk.1.1.2.1, ⟨hk.1.1.2.2.1, ⟨hk.1.2, ⟨hk.2, ⟨hk.1.1.2.2.2.1, hk.1.1.2.2.2.2⟩⟩⟩⟩⟩⟩)), (by exact lK BK377.out), (by exact IsS69.j HI0.out), (by exact jK HK.out), (by exact jB HB.out)⟩)
                ·skip
                 refine Kd.N_lit_step k45 _ 45 ?hg (N' := 76) ?hd (xs := ([(⟨t366, t367, t368, (⟨t369, t372, t375⟩ : S43)⟩ : S45)] : List (S45))) (inner := [.int .i64 t366, .int .i64 t367, .int .i64 t368, .slice Ao126 t369.length co126, .slice Ao127 t372.length co127, .int .i64 t375]) (ok := (fun k_ => (w.heap.size ≤ k_) ∧ some k_ ≠ ownBlock (.slice Ao128 x4_2.length co128) ∧ some k_ ≠ v379.ownBlock ∧ k_ ≠ gb377 ∧ k_ ≠ g)) (okp := (fun k_ => (w.heap.size ≤ k_) ∧ some k_ ≠ ownBlock (.slice Ao128 x4_2.length co128) ∧ some k_ ≠ v379.ownBlock ∧ k_ ≠ gb377 ∧ k_ ≠ g)) ?hr ?hp (fun _ hk => hk) ((show ∀ k_, w131.heap.size ≤ k_ → (fun k_ => (w.heap.size ≤ k_) ∧ some k_ ≠ ownBlock (.slice Ao128 x4_2.length co128) ∧ some k_ ≠ v379.ownBlock ∧ k_ ≠ gb377 ∧ k_ ≠ g) k_ from fun k_ hk => ⟨(Nat.le_trans (keep_size (w := w) (g := g) (row := none) (by exact jK HK.out)) hk), Kd.fresh' (Kd.N_lt (by exact lN <| HO_4.out)) k_ hk, Kd.fresh' (Kd.N_lt (by exact lN <| HO380.out)) k_ hk, Kd.freshB (g := gb377) (o := .cells #[.int .i64 t366, .int .i64 t367, .int .i64 t368, .slice Ao126 t369.length co126, .slice Ao127 t372.length co127, .int .i64 t375] 45 (0, 0)) (by exact lK BK377.out) k_ hk, IsS69.fresh (by exact IsS69.j HI0.out) k_ hk⟩) _ (Nat.le_refl _)) (Below.refl _ _) (Nat.le_refl _) (by simp) ?_; (case hd => rfl); (case hg => rfl); (case hr => first | (go_simp; done) | (go_simp; rfl)); (case hp => exact (Reps.c6 (show Kd.FK k45 _ _ (⟨t366, t367, t368, (⟨t369, t372, t375⟩ : S43)⟩ : S45) [.int .i64 t366, .int .i64 t367, .int .i64 t368, .slice Ao126 t369.length co126, .slice Ao127 t372.length co127, .int .i64 t375] from (k45_mkF _ _ (⟨t366, t367, t368, (⟨t369, t372, t375⟩ : S43)⟩ : S45) (Kd.R_reads' (Kd.R_mono (ok' := (fun k_ => (w.heap.size ≤ k_) ∧ some k_ ≠ ownBlock (.slice Ao128 x4_2.length co128) ∧ some k_ ≠ v379.ownBlock ∧ k_ ≠ gb377 ∧ k_ ≠ g)) (IsS69.apart HI0.out (Kd.R_types (Kd.R_apart' (Kd.R_apart' (HO371.out) (Kd.N_typed HO_4.out) (show ∀ q_, q_ ∈ 3 :: ((Kd.int .i64)).E → q_ ≠ 45 from by decide)) (Kd.N_typed HO380.out) (show ∀ q_, q_ ∈ 3 :: ((Kd.int .i64)).E → q_ ≠ 45 from by decide)) BK377.out (by decide)) (by decide)) (fun k_ hk => ⟨hk.1.1.1.1.1, ⟨hk.1.1.1.2, ⟨hk.1.1.2, ⟨hk.1.2, hk.2⟩⟩⟩⟩))).2.1 (Kd.R_F (Kd.R_mono (ok' := (fun k_ => (w.heap.size ≤ k_) ∧ some k_ ≠ ownBlock (.slice Ao128 x4_2.length co128) ∧ some k_ ≠ v379.ownBlock ∧ k_ ≠ gb377 ∧ k_ ≠ g)) (IsS69.apart HI0.out (Kd.R_types (Kd.R_apart' (Kd.R_apart' (HO371.out) (Kd.N_typed HO_4.out) (show ∀ q_, q_ ∈ 3 :: ((Kd.int .i64)).E → q_ ≠ 45 from by decide)) (Kd.N_typed HO380.out) (show ∀ q_, q_ ∈ 3 :: ((Kd.int .i64)).E → q_ ≠ 45 from by decide)) BK377.out (by decide)) (by decide)) (fun k_ hk => ⟨hk.1.1.1.1.1, ⟨hk.1.1.1.2, ⟨hk.1.1.2, ⟨hk.1.2, hk.2⟩⟩⟩⟩))) (Kd.R_reads' (Kd.R_mono (ok' := (fun k_ => (w.heap.size ≤ k_) ∧ some k_ ≠ ownBlock (.slice Ao128 x4_2.length co128) ∧ some k_ ≠ v379.ownBlock ∧ k_ ≠ gb377 ∧ k_ ≠ g)) (IsS69.apart HI0.out (Kd.R_types (Kd.R_apart' (Kd.R_apart' (HO374.out) (Kd.N_typed HO_4.out) (show ∀ q_, q_ ∈ 3 :: ((Kd.int .i64)).E → q_ ≠ 45 from by decide)) (Kd.N_typed HO380.out) (show ∀ q_, q_ ∈ 3 :: ((Kd.int .i64)).E → q_ ≠ 45 from by decide)) BK377.out (by decide)) (by decide)) (fun k_ hk => ⟨hk.1.1.1.1.1, ⟨hk.1.1.1.2, ⟨hk.1.1.2, ⟨hk.1.2, hk.2⟩⟩⟩⟩))).2.1 (Kd.R_F (Kd.R_mono (ok' := (fun k_ => (w.heap.size ≤ k_) ∧ some k_ ≠ ownBlock (.slice Ao128 x4_2.length co128) ∧ some k_ ≠ v379.ownBlock ∧ k_ ≠ gb377 ∧ k_ ≠ g)) (IsS69.apart HI0.out (Kd.R_types (Kd.R_apart' (Kd.R_apart' (HO374.out) (Kd.N_typed HO_4.out) (show ∀ q_, q_ ∈ 3 :: ((Kd.int .i64)).E → q_ ≠ 45 from by decide)) (Kd.N_typed HO380.out) (show ∀ q_, q_ ∈ 3 :: ((Kd.int .i64)).E → q_ ≠ 45 from by decide)) BK377.out (by decide)) (by decide)) (fun k_ hk => ⟨hk.1.1.1.1.1, ⟨hk.1.1.1.2, ⟨hk.1.1.2, ⟨hk.1.2, hk.2⟩⟩⟩⟩))))) (Reps.none _ _)))
                 intro v385 w133 ho134 hb hg_ hnew_
                 clear hg_ hnew_
                 (first | rw [← Ny384.out] at ho134 | (simp only [Int.reduceToNat] at ho134; rw [← Ny384.out] at ho134))
                 replace HO_4 := Aside0.mk (Kd.N_elder' (by exact lN <| HO_4.out) (Kd.N_base ho134) hb)
                 replace HO371 := Aside0.mk (rb HO371.out hb)
                 replace HO374 := Aside0.mk (rb HO374.out hb)
                 replace HO380 := Aside0.mk (Kd.N_elder' (by exact lN <| HO380.out) (Kd.N_base ho134) hb)
                 have HO386 := Aside0.mk (Kd.N_lower ho134 (keep_size (w := w) (g := g) (row := none) (by exact jK HK.out)))
                 replace HI0 := Aside0.mk (IsS69.below (by exact IsS69.j HI0.out) hb)
                 replace BK377 := Aside0.mk (bb BK377.out hb)
                 replace HK := Aside0.mk (kbl HK.out hb)
                 replace HB := Aside0.mk (bj HB.out hb)
                 clear hb ho134
                 refine hK.out _ _ (cz6 BK377.out) (fun hHeld => ?_)
                 clear hK K
                 refine norm_ (a' := ?_) ?_ ?_
                 rotate_left
                 ·show Act.put _ (some 76) _ = _
                  simp only [Act.put, sA, s0, sS, i64_w, i32_w]
                  rfl
                 refine one_ (i := 2) (N := some 74) #[true, true, true, true, true, false, false] rfl rfl (by kernel_rfl) (by decide) (fun K hK => ?_)
                 refine Kd.N_append_rows_step k45 w.heap.size (by rfl) (.tmp 72) (.tmp 73) 33 45 (.agg #[(.int .i64 0), (.int .i64 0), (.int .i64 0), (.slice none 0 0), (.slice none 0 0), (.int .i64 0)]) 80 rfl Try.underlying33 info45 rfl (by decide) (by omega) v379 y378 x4_2 _ _ _ (fun k_ => (w.heap.size ≤ k_) ∧ some k_ ≠ ownBlock (.slice Ao126 t369.length co126) ∧ some k_ ≠ ownBlock (.slice Ao127 t372.length co127) ∧ some k_ ≠ v385.ownBlock ∧ k_ ≠ gb377 ∧ k_ ≠ g) (fun k_ => ((fun k_ => (w.heap.size ≤ k_) ∧ some k_ ≠ ownBlock (.slice Ao126 t369.length co126) ∧ some k_ ≠ ownBlock (.slice Ao127 t372.length co127) ∧ some k_ ≠ v385.ownBlock ∧ k_ ≠ gb377 ∧ k_ ≠ g)) k_ ∧ some k_ ≠ v379.ownBlock) rfl rfl ?aO ?aR (fun _ hk => hk) ?aF (Below.refl _ _) ?aS ?aL ?_
                 (case aR => exact (by skip; exact Kd.N_F (Kd.N_mono (ok' := (fun k_ => ((fun k_ => (w.heap.size ≤ k_) ∧ some k_ ≠ ownBlock (.slice Ao126 t369.length co126) ∧ some k_ ≠ ownBlock (.slice Ao127 t372.length co127) ∧ some k_ ≠ v385.ownBlock ∧ k_ ≠ gb377 ∧ k_ ≠ g)) k_ ∧ some k_ ≠ v379.ownBlock)) (HO_4.out) (fun k_ hk => ⟨⟨hk.1.1.1, ⟨hk.1.1.2.1, ⟨hk.1.1.2.2.1, ⟨hk.2, ⟨hk.1.1.2.2.2.2, hk.1.1.2.2.2.1⟩⟩⟩⟩⟩, hk.1.2⟩))))
                 (case aF => exact (fun k_ hk => ⟨(Nat.le_trans (keep_size (w := w) (g := g) (row := none) (by exact jK HK.out)) hk), Kd.fresh' (rl HO371.out) k_ hk, Kd.fresh' (rl HO374.out) k_ hk, Kd.fresh' (Kd.N_lt (by exact lN <| HO386.out)) k_ hk, Kd.freshB (g := gb377) (o := .cells #[.int .i64 t366, .int .i64 t367, .int .i64 t368, .slice Ao126 t369.length co126, .slice Ao127 t372.length co127, .int .i64 t375] 45 (0, 0)) (by exact lK BK377.out) k_ hk, IsS69.fresh (by exact IsS69.j HI0.out) k_ hk⟩))
                 (case aO => exact (by exact lN <| Kd.N_mono HO380.out (fun _ hk => ⟨hk.1.1, ⟨hk.1.2.2.1, ⟨hk.1.2.2.2.1, ⟨hk.2, ⟨hk.1.2.2.2.2.1, hk.1.2.2.2.2.2⟩⟩⟩⟩⟩)))
                 (case aS => exact (keep_size (w := w) (g := g) (row := none) (by exact jK HK.out)))
                 (case aL => have := LMc93.out; omega)
                 intro v382 w135 ho hb hg hat
                 rw [← Ny381.out] at ho
                 replace HO_4 := Aside0.mk (Kd.N_afterv (ok := (fun k_ => (w.heap.size ≤ k_) ∧ some k_ ≠ ownBlock (.slice Ao126 t369.length co126) ∧ some k_ ≠ ownBlock (.slice Ao127 t372.length co127) ∧ some k_ ≠ v385.ownBlock ∧ k_ ≠ g ∧ k_ ≠ gb377)) (by exact lN <| Kd.N_mono HO_4.out (fun _ hk => ⟨⟨hk.1.1.1, ⟨hk.1.1.2.1, ⟨hk.1.1.2.2.1, ⟨hk.2, ⟨hk.1.1.2.2.2.1, hk.1.1.2.2.2.2⟩⟩⟩⟩⟩, hk.1.2⟩)) hg hat)
                 replace HI0 := Aside0.mk (IsS69.grown (by exact IsS69.j HI0.out) hg (IsS69.own_neN HI0.out HO380.out (by decide)))
                 replace HO371 := Aside0.mk (Kd.R_over' (by exact lR HO371.out) (Kd.N_typed (by exact lN <| HO380.out)) (by decide) hg)
                 replace HO374 := Aside0.mk (Kd.R_over' (by exact lR HO374.out) (Kd.N_typed (by exact lN <| HO380.out)) (by decide) hg)
                 replace BK377 := Aside0.mk (blk_grown (g := gb377) (o := .cells #[.int .i64 t366, .int .i64 t367, .int .i64 t368, .slice Ao126 t369.length co126, .slice Ao127 t372.length co127, .int .i64 t375] 45 (0, 0)) (by exact lK BK377.out) hg (Kd.N_away HO380.out (fun _ hk => hk.1.2.2.2.2.1)))
                 replace HO386 := Aside0.mk (Kd.N_afterv (ok := (fun k_ => (w.heap.size ≤ k_) ∧ some k_ ≠ ownBlock (.slice Ao128 x4_2.length co128) ∧ k_ ≠ gb377 ∧ k_ ≠ g)) (by exact lN <| Kd.N_mono HO386.out (fun _ hk => ⟨⟨hk.1, ⟨hk.2.1, ⟨hk.2.2.2.1, hk.2.2.2.2⟩⟩⟩, hk.2.2.1⟩)) hg hat)
                 replace HB := Aside0.mk (below_weaken (by exact jB HB.out) HL.out hb)
                 replace HK := Aside0.mk (KeepBut.trans (by exact jK HK.out) (KeepBut.of_grown hg g) (Kd.N_base2 HO380.out))
                 have HO383 := Aside0.mk (ho)
                 clear HO380 ho hb hg hat
                 refine hK.out _ _ (cz6 BK377.out) (fun hHeld => ?_)
                 clear hK K
                 refine norm_ (a' := ?_) ?_ ?_
                 rotate_left
                 ·show Act.put _ (some 74) _ = _
                  simp only [Act.put, sA, s0, sS, i64_w, i32_w]
                  rfl
                 exact norm_ (by simp only [putAll, Act.put, List.setIfInBounds_toArray, List.set_cons_zero, List.set_cons_succ]) (hCont (v379, v382, v385) _ ⟨hHeld, (by exact lR HO371.out), (by exact lR HO374.out), (by exact lN <| Kd.N_mono HO383.out (fun _ hk => ⟨hk.1, ⟨hk.2.1, ⟨hk.2.2.1, ⟨hk.2.2.2.1, ⟨hk.2.2.2.2.2, hk.2.2.2.2.1⟩⟩⟩⟩⟩)), (by exact lN <| Kd.N_mono HO386.out (fun _ hk => ⟨hk.1.1, ⟨hk.2, ⟨hk.1.2.1, ⟨hk.1.2.2.2, hk.1.2.2.1⟩⟩⟩⟩)), (by exact lN <| Kd.N_mono HO_4.out (fun _ hk => ⟨hk.1.1, ⟨hk.1.2.1, ⟨hk.1.2.2.1, ⟨hk.2, ⟨hk.1.2.2.2.1, ⟨hk.1.2.2.2.2.1, hk.1.2.2.2.2.2⟩⟩⟩⟩⟩⟩)), (by exact lK BK377.out), (by exact IsS69.j HI0.out), (by exact jK HK.out), (by exact jB HB.out)⟩)
               ·skip
                refine Kd.N_lit_step k45 _ 45 ?hg (N' := 76) ?hd (xs := ([(⟨t366, t367, t368, (⟨t369, t372, t375⟩ : S43)⟩ : S45)] : List (S45))) (inner := [.int .i64 t366, .int .i64 t367, .int .i64 t368, .slice Ao126 t369.length co126, .slice Ao127 t372.length co127, .int .i64 t375]) (ok := (fun k_ => (w.heap.size ≤ k_) ∧ some k_ ≠ ownBlock (.slice Ao128 x4_2.length co128) ∧ k_ ≠ gb377 ∧ k_ ≠ g)) (okp := (fun k_ => (w.heap.size ≤ k_) ∧ some k_ ≠ ownBlock (.slice Ao128 x4_2.length co128) ∧ k_ ≠ gb377 ∧ k_ ≠ g)) ?hr ?hp (fun _ hk => hk) ((show ∀ k_, w130.heap.size ≤ k_ → (fun k_ => (w.heap.size ≤ k_) ∧ some k_ ≠ ownBlock (.slice Ao128 x4_2.length co128) ∧ k_ ≠ gb377 ∧ k_ ≠ g) k_ from fun k_ hk => ⟨(Nat.le_trans (keep_size (w := w) (g := g) (row := none) (by exact jK HK.out)) hk), Kd.fresh' (Kd.N_lt (by exact lN <| HO_4.out)) k_ hk, Kd.freshB (g := gb377) (o := .cells #[.int .i64 t366, .int .i64 t367, .int .i64 t368, .slice Ao126 t369.length co126, .slice Ao127 t372.length co127, .int .i64 t375] 45 (0, 0)) (by exact lK BK377.out) k_ hk, IsS69.fresh (by exact IsS69.j HI0.out) k_ hk⟩) _ (Nat.le_refl _)) (Below.refl _ _) (Nat.le_refl _) (by simp) ?_; (case hd => rfl); (case hg => rfl); (case hr => first | (go_simp; done) | (go_simp; rfl)); (case hp => exact (Reps.c6 (show Kd.FK k45 _ _ (⟨t366, t367, t368, (⟨t369, t372, t375⟩ : S43)⟩ : S45) [.int .i64 t366, .int .i64 t367, .int .i64 t368, .slice Ao126 t369.length co126, .slice Ao127 t372.length co127, .int .i64 t375] from (k45_mkF _ _ (⟨t366, t367, t368, (⟨t369, t372, t375⟩ : S43)⟩ : S45) (Kd.R_reads' (Kd.R_mono (ok' := (fun k_ => (w.heap.size ≤ k_) ∧ some k_ ≠ ownBlock (.slice Ao128 x4_2.length co128) ∧ k_ ≠ gb377 ∧ k_ ≠ g)) (IsS69.apart HI0.out (Kd.R_types (Kd.R_apart' (HO371.out) (Kd.N_typed HO_4.out) (show ∀ q_, q_ ∈ 3 :: ((Kd.int .i64)).E → q_ ≠ 45 from by decide)) BK377.out (by decide)) (by decide)) (fun k_ hk => ⟨hk.1.1.1.1, ⟨hk.1.1.2, ⟨hk.1.2, hk.2⟩⟩⟩))).2.1 (Kd.R_F (Kd.R_mono (ok' := (fun k_ => (w.heap.size ≤ k_) ∧ some k_ ≠ ownBlock (.slice Ao128 x4_2.length co128) ∧ k_ ≠ gb377 ∧ k_ ≠ g)) (IsS69.apart HI0.out (Kd.R_types (Kd.R_apart' (HO371.out) (Kd.N_typed HO_4.out) (show ∀ q_, q_ ∈ 3 :: ((Kd.int .i64)).E → q_ ≠ 45 from by decide)) BK377.out (by decide)) (by decide)) (fun k_ hk => ⟨hk.1.1.1.1, ⟨hk.1.1.2, ⟨hk.1.2, hk.2⟩⟩⟩))) (Kd.R_reads' (Kd.R_mono (ok' := (fun k_ => (w.heap.size ≤ k_) ∧ some k_ ≠ ownBlock (.slice Ao128 x4_2.length co128) ∧ k_ ≠ gb377 ∧ k_ ≠ g)) (IsS69.apart HI0.out (Kd.R_types (Kd.R_apart' (HO374.out) (Kd.N_typed HO_4.out) (show ∀ q_, q_ ∈ 3 :: ((Kd.int .i64)).E → q_ ≠ 45 from by decide)) BK377.out (by decide)) (by decide)) (fun k_ hk => ⟨hk.1.1.1.1, ⟨hk.1.1.2, ⟨hk.1.2, hk.2⟩⟩⟩))).2.1 (Kd.R_F (Kd.R_mono (ok' := (fun k_ => (w.heap.size ≤ k_) ∧ some k_ ≠ ownBlock (.slice Ao128 x4_2.length co128) ∧ k_ ≠ gb377 ∧ k_ ≠ g)) (IsS69.apart HI0.out (Kd.R_types (Kd.R_apart' (HO374.out) (Kd.N_typed HO_4.out) (show ∀ q_, q_ ∈ 3 :: ((Kd.int .i64)).E → q_ ≠ 45 from by decide)) BK377.out (by decide)) (by decide)) (fun k_ hk => ⟨hk.1.1.1.1, ⟨hk.1.1.2, ⟨hk.1.2, hk.2⟩⟩⟩))))) (Reps.none _ _)))
                intro v385 w131 ho132 hb hg_ hnew_
                clear hg_ hnew_
                (first | rw [← Ny384.out] at ho132 | (simp only [Int.reduceToNat] at ho132; rw [← Ny384.out] at ho132))
                replace HO_4 := Aside0.mk (Kd.N_elder' (by exact lN <| HO_4.out) (Kd.N_base ho132) hb)
                replace HO371 := Aside0.mk (rb HO371.out hb)
                replace HO374 := Aside0.mk (rb HO374.out hb)
                have HO386 := Aside0.mk (Kd.N_lower ho132 (keep_size (w := w) (g := g) (row := none) (by exact jK HK.out)))
                replace HI0 := Aside0.mk (IsS69.below (by exact IsS69.j HI0.out) hb)
                replace BK377 := Aside0.mk (bb BK377.out hb)
                replace HK := Aside0.mk (kbl HK.out hb)
                replace HB := Aside0.mk (bj HB.out hb)
                clear hb ho132
                refine hK.out _ _ (cz6 BK377.out) (fun hHeld => ?_)
                clear hK K
                refine norm_ (a' := ?_) ?_ ?_
                rotate_left
                ·show Act.put _ (some 76) _ = _
                 simp only [Act.put, sA, s0, sS, i64_w, i32_w]
                 rfl
                refine one_ (i := 0) (N := some 72) #[true, true, false, true, true, false, false] rfl rfl (by kernel_rfl) (by decide) (fun K hK => ?_)
                refine Kd.N_lit_step k45 _ 45 ?hg (N' := 72) ?hd (xs := ([] : List (S45))) (inner := []) (ok := (fun k_ => (w.heap.size ≤ k_) ∧ some k_ ≠ ownBlock (.slice Ao128 x4_2.length co128) ∧ some k_ ≠ ownBlock (.slice Ao126 t369.length co126) ∧ some k_ ≠ ownBlock (.slice Ao127 t372.length co127) ∧ some k_ ≠ v385.ownBlock ∧ k_ ≠ gb377 ∧ k_ ≠ g)) (okp := (fun k_ => (w.heap.size ≤ k_) ∧ some k_ ≠ ownBlock (.slice Ao128 x4_2.length co128) ∧ some k_ ≠ ownBlock (.slice Ao126 t369.length co126) ∧ some k_ ≠ ownBlock (.slice Ao127 t372.length co127) ∧ some k_ ≠ v385.ownBlock ∧ k_ ≠ gb377 ∧ k_ ≠ g)) ?hr ?hp (fun _ hk => hk) ((show ∀ k_, w131.heap.size ≤ k_ → (fun k_ => (w.heap.size ≤ k_) ∧ some k_ ≠ ownBlock (.slice Ao128 x4_2.length co128) ∧ some k_ ≠ ownBlock (.slice Ao126 t369.length co126) ∧ some k_ ≠ ownBlock (.slice Ao127 t372.length co127) ∧ some k_ ≠ v385.ownBlock ∧ k_ ≠ gb377 ∧ k_ ≠ g) k_ from fun k_ hk => ⟨(Nat.le_trans (keep_size (w := w) (g := g) (row := none) (by exact jK HK.out)) hk), Kd.fresh' (Kd.N_lt (by exact lN <| HO_4.out)) k_ hk, Kd.fresh' (rl HO371.out) k_ hk, Kd.fresh' (rl HO374.out) k_ hk, Kd.fresh' (Kd.N_lt (by exact lN <| HO386.out)) k_ hk, Kd.freshB (g := gb377) (o := .cells #[.int .i64 t366, .int .i64 t367, .int .i64 t368, .slice Ao126 t369.length co126, .slice Ao127 t372.length co127, .int .i64 t375] 45 (0, 0)) (by exact lK BK377.out) k_ hk, IsS69.fresh (by exact IsS69.j HI0.out) k_ hk⟩) _ (Nat.le_refl _)) (Below.refl _ _) (Nat.le_refl _) (by simp) ?_; (case hd => rfl); (case hg => rfl); (case hr => first | (go_simp; done) | (go_simp; rfl)); (case hp => exact (Reps.none _ _))
                intro v379 w133 ho134 hb hg_ hnew_
                clear hg_ hnew_
                (first | rw [← Ny378.out] at ho134 | (simp only [Int.reduceToNat] at ho134; rw [← Ny378.out] at ho134))
                replace HO_4 := Aside0.mk (Kd.N_elder' (by exact lN <| HO_4.out) (Kd.N_base ho134) hb)
                replace HO371 := Aside0.mk (rb HO371.out hb)
                replace HO374 := Aside0.mk (rb HO374.out hb)
                replace HO386 := Aside0.mk (Kd.N_elder' (by exact lN <| HO386.out) (Kd.N_base ho134) hb)
                have HO380 := Aside0.mk (Kd.N_lower ho134 (keep_size (w := w) (g := g) (row := none) (by exact jK HK.out)))
                replace HI0 := Aside0.mk (IsS69.below (by exact IsS69.j HI0.out) hb)
                replace BK377 := Aside0.mk (bb BK377.out hb)
                replace HK := Aside0.mk (kbl HK.out hb)
                replace HB := Aside0.mk (bj HB.out hb)
                clear hb ho134
                refine hK.out _ _ (cz6 BK377.out) (fun hHeld => ?_)
                clear hK K
                refine norm_ (a' := ?_) ?_ ?_
                rotate_left
                ·show Act.put _ (some 72) _ = _
                 simp only [Act.put, sA, s0, sS, i64_w, i32_w]
                 rfl
                refine one_ (i := 2) (N := some 74) #[true, true, true, true, true, false, false] rfl rfl (by kernel_rfl) (by decide) (fun K hK => ?_)
                refine Kd.N_append_rows_step k45 w.heap.size (by rfl) (.tmp 72) (.tmp 73) 33 45 (.agg #[(.int .i64 0), (.int .i64 0), (.int .i64 0), (.slice none 0 0), (.slice none 0 0), (.int .i64 0)]) 80 rfl Try.underlying33 info45 rfl (by decide) (by omega) v379 y378 x4_2 _ _ _ (fun k_ => (w.heap.size ≤ k_) ∧ some k_ ≠ ownBlock (.slice Ao126 t369.length co126) ∧ some k_ ≠ ownBlock (.slice Ao127 t372.length co127) ∧ some k_ ≠ v385.ownBlock ∧ k_ ≠ gb377 ∧ k_ ≠ g) (fun k_ => ((fun k_ => (w.heap.size ≤ k_) ∧ some k_ ≠ ownBlock (.slice Ao126 t369.length co126) ∧ some k_ ≠ ownBlock (.slice Ao127 t372.length co127) ∧ some k_ ≠ v385.ownBlock ∧ k_ ≠ gb377 ∧ k_ ≠ g)) k_ ∧ some k_ ≠ v379.ownBlock) rfl rfl ?aO ?aR (fun _ hk => hk) ?aF (Below.refl _ _) ?aS ?aL ?_
                (case aR => exact (by skip; exact Kd.N_F (Kd.N_mono (ok' := (fun k_ => ((fun k_ => (w.heap.size ≤ k_) ∧ some k_ ≠ ownBlock (.slice Ao126 t369.length co126) ∧ some k_ ≠ ownBlock (.slice Ao127 t372.length co127) ∧ some k_ ≠ v385.ownBlock ∧ k_ ≠ gb377 ∧ k_ ≠ g)) k_ ∧ some k_ ≠ v379.ownBlock)) (HO_4.out) (fun k_ hk => ⟨⟨hk.1.1.1, ⟨hk.1.1.2.1, ⟨hk.1.1.2.2.1, ⟨hk.1.2, ⟨hk.1.1.2.2.2.2, hk.1.1.2.2.2.1⟩⟩⟩⟩⟩, hk.2⟩))))
                (case aF => exact (fun k_ hk => ⟨(Nat.le_trans (keep_size (w := w) (g := g) (row := none) (by exact jK HK.out)) hk), Kd.fresh' (rl HO371.out) k_ hk, Kd.fresh' (rl HO374.out) k_ hk, Kd.fresh' (Kd.N_lt (by exact lN <| HO386.out)) k_ hk, Kd.freshB (g := gb377) (o := .cells #[.int .i64 t366, .int .i64 t367, .int .i64 t368, .slice Ao126 t369.length co126, .slice Ao127 t372.length co127, .int .i64 t375] 45 (0, 0)) (by exact lK BK377.out) k_ hk, IsS69.fresh (by exact IsS69.j HI0.out) k_ hk⟩))
                (case aO => exact (by exact lN <| Kd.N_mono HO380.out (fun _ hk => ⟨hk.1, ⟨hk.2.2.1, ⟨hk.2.2.2.1, ⟨hk.2.2.2.2.1, ⟨hk.2.2.2.2.2.1, hk.2.2.2.2.2.2⟩⟩⟩⟩⟩)))
                (case aS => exact (keep_size (w := w) (g := g) (row := none) (by exact jK HK.out)))
                (case aL => have := LMc93.out; omega)
                intro v382 w135 ho hb hg hat
                rw [← Ny381.out] at ho
                replace HO_4 := Aside0.mk (Kd.N_afterv (ok := (fun k_ => (w.heap.size ≤ k_) ∧ some k_ ≠ ownBlock (.slice Ao126 t369.length co126) ∧ some k_ ≠ ownBlock (.slice Ao127 t372.length co127) ∧ some k_ ≠ v385.ownBlock ∧ k_ ≠ g ∧ k_ ≠ gb377)) (by exact lN <| Kd.N_mono HO_4.out (fun _ hk => ⟨⟨hk.1.1.1, ⟨hk.1.1.2.1, ⟨hk.1.1.2.2.1, ⟨hk.1.2, ⟨hk.1.1.2.2.2.1, hk.1.1.2.2.2.2⟩⟩⟩⟩⟩, hk.2⟩)) hg hat)
                replace HI0 := Aside0.mk (IsS69.grown (by exact IsS69.j HI0.out) hg (IsS69.own_neN HI0.out HO380.out (by decide)))
                replace HO371 := Aside0.mk (Kd.R_over' (by exact lR HO371.out) (Kd.N_typed (by exact lN <| HO380.out)) (by decide) hg)
                replace HO374 := Aside0.mk (Kd.R_over' (by exact lR HO374.out) (Kd.N_typed (by exact lN <| HO380.out)) (by decide) hg)
                replace BK377 := Aside0.mk (blk_grown (g := gb377) (o := .cells #[.int .i64 t366, .int .i64 t367, .int .i64 t368, .slice Ao126 t369.length co126, .slice Ao127 t372.length co127, .int .i64 t375] 45 (0, 0)) (by exact lK BK377.out) hg (Kd.N_away HO380.out (fun _ hk => hk.2.2.2.2.2.1)))
                replace HO386 := Aside0.mk (Kd.N_afterv (ok := (fun k_ => (w.heap.size ≤ k_) ∧ some k_ ≠ ownBlock (.slice Ao128 x4_2.length co128) ∧ k_ ≠ gb377 ∧ k_ ≠ g)) (by exact lN <| HO386.out) hg hat)
                replace HB := Aside0.mk (below_weaken (by exact jB HB.out) HL.out hb)
                replace HK := Aside0.mk (KeepBut.trans (by exact jK HK.out) (KeepBut.of_grown hg g) (Kd.N_base2 HO380.out))
                have HO383 := Aside0.mk (ho)
                clear HO380 ho hb hg hat
                refine hK.out _ _ (cz6 BK377.out) (fun hHeld => ?_)
                clear hK K
                refine norm_ (a' := ?_) ?_ ?_
                rotate_left
                ·show Act.put _ (some 74) _ = _
                 simp only [Act.put, sA, s0, sS, i64_w, i32_w]
                 rfl
                exact norm_ (by simp only [putAll, Act.put, List.setIfInBounds_toArray, List.set_cons_zero, List.set_cons_succ]) (hCont (v379, v382, v385) _ ⟨hHeld, (by exact lR HO371.out), (by exact lR HO374.out), (by exact lN <| Kd.N_mono HO383.out (fun _ hk => ⟨hk.1, ⟨hk.2.1, ⟨hk.2.2.1, ⟨hk.2.2.2.1, ⟨hk.2.2.2.2.2, hk.2.2.2.2.1⟩⟩⟩⟩⟩)), (by exact lN <| Kd.N_mono HO386.out (fun _ hk => ⟨hk.1.1, ⟨hk.2, ⟨hk.1.2.1, ⟨hk.1.2.2.2, hk.1.2.2.1⟩⟩⟩⟩)), (by exact lN <| Kd.N_mono HO_4.out (fun _ hk => ⟨hk.1.1, ⟨hk.1.2.1, ⟨hk.1.2.2.1, ⟨hk.2, ⟨hk.1.2.2.2.1, ⟨hk.1.2.2.2.2.1, hk.1.2.2.2.2.2⟩⟩⟩⟩⟩⟩)), (by exact lK BK377.out), (by exact IsS69.j HI0.out), (by exact jK HK.out), (by exact jB HB.out)⟩)
              rintro ⟨v379, v382, v385⟩ w136 ⟨hS_, h0_, h1_, h2_, h3_, h4_, h5_, h6_, h7_, h8_⟩
              replace HO371 : Aside0 (Kd.R (Kd.int .i64) 3 w136 w.heap.size (fun k_ => (w.heap.size ≤ k_) ∧ some k_ ≠ ownBlock (.slice Ao127 t372.length co127)) (.slice Ao126 t369.length co126) t369) := ⟨h0_⟩
              replace HO374 : Aside0 (Kd.R (Kd.int .i64) 3 w136 w.heap.size (fun k_ => (w.heap.size ≤ k_) ∧ some k_ ≠ ownBlock (.slice Ao126 t369.length co126)) (.slice Ao127 t372.length co127) t372) := ⟨h1_⟩
              have HO383 : Aside0 (Kd.N k45 45 w136 w.heap.size (fun k_ => (w.heap.size ≤ k_) ∧ some k_ ≠ ownBlock (.slice Ao126 t369.length co126) ∧ some k_ ≠ ownBlock (.slice Ao127 t372.length co127) ∧ some k_ ≠ v385.ownBlock ∧ k_ ≠ g ∧ k_ ≠ gb377) v382 y381) := ⟨h2_⟩
              have HO386 : Aside0 (Kd.N k45 45 w136 w.heap.size (fun k_ => (w.heap.size ≤ k_) ∧ some k_ ≠ v382.ownBlock ∧ some k_ ≠ ownBlock (.slice Ao128 x4_2.length co128) ∧ k_ ≠ g ∧ k_ ≠ gb377) v385 y384) := ⟨h3_⟩
              replace HO_4 : Aside0 (Kd.N k45 45 w136 w.heap.size (fun k_ => (w.heap.size ≤ k_) ∧ some k_ ≠ ownBlock (.slice Ao126 t369.length co126) ∧ some k_ ≠ ownBlock (.slice Ao127 t372.length co127) ∧ some k_ ≠ v382.ownBlock ∧ some k_ ≠ v385.ownBlock ∧ k_ ≠ g ∧ k_ ≠ gb377) (.slice Ao128 x4_2.length co128) x4_2) := ⟨h4_⟩
              replace BK377 : Aside0 (w136.heap[gb377]? = some (.cells #[.int .i64 t366, .int .i64 t367, .int .i64 t368, .slice Ao126 t369.length co126, .slice Ao127 t372.length co127, .int .i64 t375] 45 (0, 0))) := ⟨h5_⟩
              replace HI0 : Aside0 (IsS69 w0 w136 g s0_0 t376) := ⟨h6_⟩
              replace HK : Aside0 (KeepBut w w136 g none) := ⟨h7_⟩
              replace HB : Aside0 (Below w0.heap.size w0 w136) := ⟨h8_⟩
              clear h0_ h1_ h2_ h3_ h4_ h5_ h6_ h7_ h8_
              have hHeld : w136.cell? ⟨gb377, 0, none⟩ = some (.int .i64 t366) ∧ w136.cell? ⟨gb377, 1, none⟩ = some (.int .i64 t367) ∧ w136.cell? ⟨gb377, 2, none⟩ = some (.int .i64 t368) ∧ w136.cell? ⟨gb377, 3, none⟩ = some (.slice Ao126 t369.length co126) ∧ w136.cell? ⟨gb377, 4, none⟩ = some (.slice Ao127 t372.length co127) ∧ w136.cell? ⟨gb377, 5, none⟩ = some (.int .i64 t375) := hS_
              obtain ⟨Ao138, co138, eo138⟩ := Kd.N_slice HO386.out
              (first | subst eo138 | (injection eo138 with f1_ f2_ f3_; have f4_ := f1_.symm; have f5_ := f3_.symm; clear f1_ f2_ f3_; subst f4_; subst f5_))
              refine norm_ (a' := ?_) ?_ ?_
              rotate_left
              ·simp only [putAll, Act.put, List.setIfInBounds_toArray, List.set_cons_zero, List.set_cons_succ]
               rfl
              refine one_ (i := 5) (N := some 77) #[true, true, true, true, true, true, false] rfl rfl (by kernel_rfl) (by decide) (fun K hK => ?_)
              refine Kd.N_append_rows_step k45 w.heap.size (by rfl) (.tmp 74) (.tmp 76) 33 45 (.agg #[(.int .i64 0), (.int .i64 0), (.int .i64 0), (.slice none 0 0), (.slice none 0 0), (.int .i64 0)]) 80 rfl Try.underlying33 info45 rfl (by decide) (by omega) v382 y381 y384 _ _ _ (fun k_ => (w.heap.size ≤ k_) ∧ k_ ≠ gb377 ∧ k_ ≠ g) (fun k_ => ((fun k_ => (w.heap.size ≤ k_) ∧ k_ ≠ gb377 ∧ k_ ≠ g)) k_ ∧ some k_ ≠ v382.ownBlock) rfl rfl ?aO ?aR (fun _ hk => hk) ?aF (Below.refl _ _) ?aS ?aL ?_
              (case aR => exact (by skip; exact Kd.N_F (Kd.N_mono (ok' := (fun k_ => ((fun k_ => (w.heap.size ≤ k_) ∧ k_ ≠ gb377 ∧ k_ ≠ g)) k_ ∧ some k_ ≠ v382.ownBlock)) (HO386.out) (fun k_ hk => ⟨⟨hk.1, ⟨hk.2.2.2.2, hk.2.2.2.1⟩⟩, hk.2.1⟩))))
              (case aF => exact (fun k_ hk => ⟨(Nat.le_trans (keep_size (w := w) (g := g) (row := none) (by exact jK HK.out)) hk), Kd.freshB (g := gb377) (o := .cells #[.int .i64 t366, .int .i64 t367, .int .i64 t368, .slice Ao126 t369.length co126, .slice Ao127 t372.length co127, .int .i64 t375] 45 (0, 0)) (by exact lK BK377.out) k_ hk, IsS69.fresh (by exact IsS69.j HI0.out) k_ hk⟩))
              (case aO => exact (by exact lN <| Kd.N_mono HO383.out (fun _ hk => ⟨hk.1, ⟨hk.2.2.2.2.2, hk.2.2.2.2.1⟩⟩)))
              (case aS => exact (keep_size (w := w) (g := g) (row := none) (by exact jK HK.out)))
              (case aL => have := LMc94.out; omega)
              intro v388 w137 ho hb hg hat
              rw [← Ny387.out] at ho
              replace HO_4 := Aside0.mk (Kd.N_afterv (ok := (fun k_ => (w.heap.size ≤ k_) ∧ some k_ ≠ ownBlock (.slice Ao126 t369.length co126) ∧ some k_ ≠ ownBlock (.slice Ao127 t372.length co127) ∧ some k_ ≠ ownBlock (.slice Ao138 y384.length co138) ∧ k_ ≠ g ∧ k_ ≠ gb377)) (by exact lN <| Kd.N_mono HO_4.out (fun _ hk => ⟨⟨hk.1, ⟨hk.2.1, ⟨hk.2.2.1, ⟨hk.2.2.2.2.1, ⟨hk.2.2.2.2.2.1, hk.2.2.2.2.2.2⟩⟩⟩⟩⟩, hk.2.2.2.1⟩)) hg hat)
              replace HI0 := Aside0.mk (IsS69.grown (by exact IsS69.j HI0.out) hg (IsS69.own_neN HI0.out HO383.out (by decide)))
              replace HO371 := Aside0.mk (Kd.R_over' (by exact lR HO371.out) (Kd.N_typed (by exact lN <| HO383.out)) (by decide) hg)
              replace HO374 := Aside0.mk (Kd.R_over' (by exact lR HO374.out) (Kd.N_typed (by exact lN <| HO383.out)) (by decide) hg)
              replace BK377 := Aside0.mk (blk_grown (g := gb377) (o := .cells #[.int .i64 t366, .int .i64 t367, .int .i64 t368, .slice Ao126 t369.length co126, .slice Ao127 t372.length co127, .int .i64 t375] 45 (0, 0)) (by exact lK BK377.out) hg (Kd.N_away HO383.out (fun _ hk => hk.2.2.2.2.2)))
              replace HO386 := Aside0.mk (Kd.N_afterv (ok := (fun k_ => (w.heap.size ≤ k_) ∧ some k_ ≠ ownBlock (.slice Ao128 x4_2.length co128) ∧ k_ ≠ g ∧ k_ ≠ gb377)) (by exact lN <| Kd.N_mono HO386.out (fun _ hk => ⟨⟨hk.1, ⟨hk.2.2.1, ⟨hk.2.2.2.1, hk.2.2.2.2⟩⟩⟩, hk.2.1⟩)) hg hat)
              replace HB := Aside0.mk (below_weaken (by exact jB HB.out) HL.out hb)
              replace HK := Aside0.mk (KeepBut.trans (by exact jK HK.out) (KeepBut.of_grown hg g) (Kd.N_base2 HO383.out))
              have HO389 := Aside0.mk (ho)
              clear HO383 ho hb hg hat
              obtain ⟨Ao139, co139, eo139⟩ := Kd.N_slice HO389.out
              (first | subst eo139 | (injection eo139 with f1_ f2_ f3_; have f4_ := f1_.symm; have f5_ := f3_.symm; clear f1_ f2_ f3_; subst f4_; subst f5_))
              refine hK.out _ _ (cz6 BK377.out) (fun hHeld => ?_)
              clear hK K
              refine norm_ (a' := ?_) ?_ ?_
              rotate_left
              ·show Act.put _ (some 77) _ = _
               simp only [Act.put, sA, s0, sS, i64_w, i32_w]
               rfl
              refine one_ (i := 6) (N := some 78) #[true, true, true, true, true, true, true] rfl rfl (by kernel_rfl) (by decide) (fun K hK => ?_)
              refine goes_ Try.func40 (by kernel_rfl) rfl #[.slice Ao139 y387.length co139] (by rfl) rfl rfl (by (try simp only [mA, mC, mN]); first | done | rfl | (simp only [ld, lt]; rfl)) ?_
              with_reducible refine (spec_ActOk.calls k2 _ _ y387 false _ ?side1 ?side2 A95.out).mono ?_
              (case side1 => exact lC <| (Kd.N_reads' HO389.out).2.2)
              (case side2 => exact (Kd.N_reads' HO389.out).2.1)
              rintro e w140 ⟨rfl, hb⟩
              refine ⟨_, rfl, ?_⟩
              replace HO_4 := Aside0.mk (Kd.N_below (by exact lN <| HO_4.out) hb)
              replace HO371 := Aside0.mk (rb HO371.out hb)
              replace HO374 := Aside0.mk (rb HO374.out hb)
              replace HO386 := Aside0.mk (Kd.N_below (by exact lN <| HO386.out) hb)
              replace HO389 := Aside0.mk (Kd.N_below (by exact lN <| HO389.out) hb)
              replace HI0 := Aside0.mk (IsS69.below (by exact IsS69.j HI0.out) hb)
              replace BK377 := Aside0.mk (bb BK377.out hb)
              replace HK := Aside0.mk (kbl HK.out hb)
              replace HB := Aside0.mk (bj HB.out hb)
              (try clear hb)
              (try clear hb2)
              (try clear hk)
              (try clear hi)
              refine hK.out _ _ (cz6 BK377.out) (fun hHeld => ?_)
              clear hK K
              refine norm_ (a' := ?_) ?_ ?_
              rotate_left
              ·show Act.put _ (some 78) _ = _
               simp only [Act.put, sA, s0, sS, i64_w, i32_w]
               rfl
              refine done_ (by kernel_rfl) ?_
              try go_wp2
              go_roundg k2
              case measure => have := HJ3.out; have := HK2.out; omega
              case rel => exact ⟨(x4_2), (wrap64 (x5_2 - 1)), (t376), (by first | rfl | (simp; done) | (simp [*]; done)), H', ⟨by have := HJ3.out; have := HK2.out; omega⟩, ⟨by exact lN <| Kd.N_mono HO_4.out (fun _ hk => ⟨hk.1.1, hk.1.2.2.2.2.1⟩)⟩, ⟨by exact IsS69.j HI0.out⟩, ⟨by exact jK HK.out⟩, ⟨by exact jB HB.out⟩⟩
            ·rw [if_neg c94] at H
             exact absurd H (by simp)
           ·rw [if_neg c93] at H
            exact absurd H (by simp)
          ·rw [if_neg c91] at H
           have c91b0 := decide_eq_false c91
           clear c91
           simp only [Option.some.injEq, Prod.mk.injEq] at H
           obtain ⟨rfl, rfl⟩ := H
           go_wp2
           go_ret
           exact ⟨_, by first | rfl | (simp [errW_none, errW_some] <;> rfl) | (simp [*, errW_none, errW_some] <;> rfl), by exact lN <| Kd.N_mono HO_4.out (fun _ hk => hk.1), by exact IsS69.j HI0.out, by exact jB HB.out, by exact jK HK.out⟩

end Go.Proofs.Ytgalnmgkcdmnkaa.QFnActSkip

-- shorter
