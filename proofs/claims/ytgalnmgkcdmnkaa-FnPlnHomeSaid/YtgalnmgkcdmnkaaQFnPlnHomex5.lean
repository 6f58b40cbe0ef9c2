/- Plain functions, and that the Go code computes them: written by a program of this session over the seat's translation; the conditions stand in each theorem. -/
import Derived.Test.YtgalnmgkcdmnkaaQFnPlnHomex0
import Derived.Test.YtgalnmgkcdmnkaaQFnPlnHomex1
import Derived.Test.YtgalnmgkcdmnkaaQFnPlnHomex2
import Derived.Test.YtgalnmgkcdmnkaaQFnPlnHomex4
namespace Go.Proofs.Ytgalnmgkcdmnkaa.QFnPlnHome
open Go.RowKit Go.Proofs.YtgalnmgkcdmnkaaW.PrintWords Go.Proofs.YtgalnmgkcdmnkaaW.PrintLast Go.Proofs.YtgalnmgkcdmnkaaW.PrintMore Go.Proofs.Ytgalnmgkcdmnkaa.HWords
open Value (ownBlock)
attribute [local go_sem] max2_int min2_int max_two min_two max_three min_three max_four min_four   -- for this text's walks alone
set_option linter.unusedVariables false
set_option linter.unusedSimpArgs false

/-! ### spec_l20Act: function 53 -/
mutual
def spec_l20Act.j0 : Nat → Int → Int → Bool → List Int → Int → Option ((List (S45)) × Int)
 | 0, _, _, _, _, _ => none
 | k + 1, x3, x10, x11, x1000, x1001 => if x11 = true then ((spec_l20Num.f (-1) 0 0).bind fun bt215 => ((spec_l20With.f bt215.1 bt215.2.1 bt215.2.2 x3 1).bind fun bt222 => ((spec_l20Num.f (-1) 0 0).bind fun bt229 => ((spec_l20Num.f 1 0 0).bind fun bt236 => ((spec_l20Num.f 1 0 (-9)).bind fun bt243 => (some ((([(⟨1, 0, 2, (⟨bt222.1, bt222.2.1, bt222.2.2⟩ : S43)⟩ : S45), (⟨2, x3, 0, (⟨bt229.1, bt229.2.1, bt229.2.2⟩ : S43)⟩ : S45), (⟨3, 0, 0, (⟨bt236.1, bt236.2.1, bt236.2.2⟩ : S43)⟩ : S45), (⟨1, 0, 1, (⟨bt243.1, bt243.2.1, bt243.2.2⟩ : S43)⟩ : S45), (⟨4, 0, 0, (⟨([] : List Int), ([] : List Int), 0⟩ : S43)⟩ : S45)] : List (S45))), x1001))))))) else (if x10 = 2 then ((spec_l20Num.f 1 0 0).bind fun bt253 => (some ((([(⟨2, x3, 0, (⟨bt253.1, bt253.2.1, bt253.2.2⟩ : S43)⟩ : S45)] : List (S45))), x1001))) else (if x10 = 3 then ((spec_l20Num.f (-1) 0 0).bind fun bt263 => ((spec_l20With.f bt263.1 bt263.2.1 bt263.2.2 x3 1).bind fun bt270 => ((spec_l20Num.f (-1) 0 0).bind fun bt277 => ((spec_l20Num.f 1 0 0).bind fun bt284 => (some ((([(⟨1, 0, 2, (⟨bt270.1, bt270.2.1, bt270.2.2⟩ : S43)⟩ : S45), (⟨2, x3, 0, (⟨bt277.1, bt277.2.1, bt277.2.2⟩ : S43)⟩ : S45), (⟨2, wrap64 (1 - x3), 0, (⟨bt284.1, bt284.2.1, bt284.2.2⟩ : S43)⟩ : S45)] : List (S45))), x1001)))))) else (if x10 = 4 then ((spec_l20Num.f 0 0 0).bind fun bt294 => ((spec_l20With.f bt294.1 bt294.2.1 bt294.2.2 2 1).bind fun bt301 => (some ((([(⟨3, 0, 0, (⟨bt301.1, bt301.2.1, bt301.2.2⟩ : S43)⟩ : S45)] : List (S45))), x1001)))) else (if x10 = 5 then ((spec_l20Num.f 0 1 5).bind fun bt311 => ((spec_l20With.f bt311.1 bt311.2.1 bt311.2.2 0 1).bind fun bt318 => ((spec_l20With.f bt318.1 bt318.2.1 bt318.2.2 1 (-1)).bind fun bt325 => ((spec_l20Num.f 0 0 1).bind fun bt332 => (some ((([(⟨1, 0, 1, (⟨bt325.1, bt325.2.1, bt325.2.2⟩ : S43)⟩ : S45), (⟨2, 2, 0, (⟨bt332.1, bt332.2.1, bt332.2.2⟩ : S43)⟩ : S45)] : List (S45))), x1001)))))) else ((spec_l20Rd_pick.f k x1000 x1001 5).bind fun bt345 => (spec_l20Act.l0 k (([] : List (S45))) (wrap64 (1 + bt345.1)) x1000 bt345.2))))))
def spec_l20Act.l0 : Nat → List (S45) → Int → List Int → Int → Option ((List (S45)) × Int)
 | 0, _, _, _, _ => none
 | k + 1, x4, x5, x1000, x1001 => if x5 > 0 then ((spec_l20Line.f k x1000 x1001).bind fun bt347 => ((some (([] : List (S45)) : List (S45))).bind fun y359 => (if y359.length + x4.length < 1759218604441 then ((some (y359 ++ x4 : List (S45))).bind fun y362 => ((some (([(⟨bt347.1, bt347.2.1, bt347.2.2.1, (⟨bt347.2.2.2.1, bt347.2.2.2.2.1, bt347.2.2.2.2.2.1⟩ : S43)⟩ : S45)] : List (S45)) : List (S45))).bind fun y365 => (if y362.length + y365.length < 1759218604441 then ((spec_ActOk.f k (y362 ++ y365)).bind fun t371 => (if t371 = true then ((some (([(⟨bt347.1, bt347.2.1, bt347.2.2.1, (⟨bt347.2.2.2.1, bt347.2.2.2.2.1, bt347.2.2.2.2.2.1⟩ : S43)⟩ : S45)] : List (S45)) : List (S45))).bind fun y372 => (if x4.length + y372.length < 1759218604441 then (spec_l20Act.l0 k (x4 ++ y372) (wrap64 (x5 - 1)) x1000 bt347.2.2.2.2.2.2) else (none))) else (spec_l20Act.l0 k x4 (wrap64 (x5 - 1)) x1000 bt347.2.2.2.2.2.2))) else (none)))) else (none)))) else (some (x4, x1001))
end
def spec_l20Act.f (k : Nat) (s0_0 : List Int) (s0_1 : Int) : Option ((List (S45)) × Int) := (spec_l20Rd_pick.f k s0_0 s0_1 2).bind fun bt211 => ((spec_l20Rd_pick.f k s0_0 bt211.2 8).bind fun bt213 => (if bt213.1 = 0 then (spec_l20Act.j0 k bt211.1 bt213.1 (bt213.1 == 0) s0_0 bt213.2) else (spec_l20Act.j0 k bt211.1 bt213.1 (bt213.1 == 1) s0_0 bt213.2)))
theorem spec_l20Act.mono_l : ∀ k, (∀ y0 y1 y2 y3 y4, LeO (spec_l20Act.j0 k y0 y1 y2 y3 y4) (spec_l20Act.j0 (k + 1) y0 y1 y2 y3 y4)) ∧ (∀ y0 y1 y2 y3, LeO (spec_l20Act.l0 k y0 y1 y2 y3) (spec_l20Act.l0 (k + 1) y0 y1 y2 y3))
 | 0 => ⟨fun _ _ _ _ _ r h => by simp [spec_l20Act.j0] at h, fun _ _ _ _ r h => by simp [spec_l20Act.l0] at h⟩
 | k + 1 => by
  obtain ⟨ih0, ih1⟩ := spec_l20Act.mono_l k
  refine ⟨?_, ?_⟩
  ·intro y0 y1 y2 y3 y4
   unfold spec_l20Act.j0
   repeat' first
   | (with_reducible exact ih0 _ _ _ _ _)
   | (with_reducible exact ih1 _ _ _ _)
   | (with_reducible exact spec_ActOk.mono _ _)
   | (with_reducible exact spec_l20Line.mono _ _ _)
   | (with_reducible exact spec_l20Rd_pick.mono _ _ _ _)
   | (with_reducible exact LeO.refl _)
   | (with_reducible exact LeO.none _)
   | (with_reducible refine LeO.ite ?_ ?_)
   | (with_reducible refine LeO.bind ?_ (fun _ => ?_))
   | exact LeO.none _
   | refine LeO.ite ?_ ?_
   | refine LeO.bind ?_ (fun _ => ?_)
  ·intro y0 y1 y2 y3
   unfold spec_l20Act.l0
   repeat' first
   | (with_reducible exact ih0 _ _ _ _ _)
   | (with_reducible exact ih1 _ _ _ _)
   | (with_reducible exact spec_ActOk.mono _ _)
   | (with_reducible exact spec_l20Line.mono _ _ _)
   | (with_reducible exact spec_l20Rd_pick.mono _ _ _ _)
   | (with_reducible exact LeO.refl _)
   | (with_reducible exact LeO.none _)
   | (with_reducible refine LeO.ite ?_ ?_)
   | (with_reducible refine LeO.bind ?_ (fun _ => ?_))
   | exact LeO.none _
   | refine LeO.ite ?_ ?_
   | refine LeO.bind ?_ (fun _ => ?_)
theorem spec_l20Act.mono : ∀ a0 a1 k, LeO (spec_l20Act.f k a0 a1) (spec_l20Act.f (k + 1) a0 a1) := by
 intro a0 a1 k
 obtain ⟨ih0, ih1⟩ := spec_l20Act.mono_l k
 unfold spec_l20Act.f
 repeat' first
   | (with_reducible exact ih0 _ _ _ _ _)
   | (with_reducible exact ih1 _ _ _ _)
   | (with_reducible exact spec_ActOk.mono _ _)
   | (with_reducible exact spec_l20Line.mono _ _ _)
   | (with_reducible exact spec_l20Rd_pick.mono _ _ _ _)
   | (with_reducible exact LeO.refl _)
   | (with_reducible exact LeO.none _)
   | (with_reducible refine LeO.ite ?_ ?_)
   | (with_reducible refine LeO.bind ?_ (fun _ => ?_))
   | exact LeO.none _
   | refine LeO.ite ?_ ?_
   | refine LeO.bind ?_ (fun _ => ?_)
set_option maxHeartbeats 8000000 in
set_option maxRecDepth 100000 in
theorem spec_l20Act.calls (k : Nat) (g : Nat) (s0_0 : List Int) (s0_1 : Int) (r1 : List (S45)) (r2 : Int) (w0 w : World) (hI : IsS69 w0 w g s0_0 s0_1) (hB : Below w0.heap.size w0 w) (h : spec_l20Act.f k s0_0 s0_1 = some (r1, r2)) :
  Calls Try.prog 53 #[.pointer (some ⟨g, 0, none⟩)] w fun e w' => ∃ v0_ : Value, e = .returned (v0_) ∧ Kd.N k45 45 w' w.heap.size (fun k_ => (w.heap.size ≤ k_)) v0_ r1 ∧ IsS69 w0 w' g s0_0 r2 ∧ Below w0.heap.size w0 w' ∧ KeepBut w w' g none := by
 have hu45 := Try.underlying45
 have HI0 := aM hI
 have IHI0 : Nonempty _ := ⟨IsS69.ge hI⟩
 have HK := aM (KeepBut.refl w g none)
 have HL := aM hB.size
 clear hI
 have HW0 := aM hB.size
 have HB := aM hB
 clear hB
 have H : ((spec_l20Rd_pick.f k s0_0 s0_1 2).bind fun bt211 => ((spec_l20Rd_pick.f k s0_0 bt211.2 8).bind fun bt213 => (if bt213.1 = 0 then (spec_l20Act.j0 k bt211.1 bt213.1 (bt213.1 == 0) s0_0 bt213.2) else (spec_l20Act.j0 k bt211.1 bt213.1 (bt213.1 == 1) s0_0 bt213.2)))) = some (r1, r2) := h
 clear h
 obtain ⟨⟨t211, t212⟩, A2, H⟩ := bS H
 try dsimp only at H
 obtain ⟨⟨t213, t214⟩, A3, H⟩ := bS H
 try dsimp only at H
 have HC4 := aM H
 clear H
 go_enter Try.func53, Try.ntmps53
 go_upto_if 11 with (first | ((with_reducible refine gate_callee (f := 20) rfl ?_); refine gL (some 8) Try.func20 #[.pointer (some ⟨g, 0, none⟩), .int .i64 2] ?_; (with_reducible refine (spec_l20Rd_pick.calls k g s0_0 s0_1 2 t211 t212 w0 _ ?side1 ?side2 A2.out).mono ?_); (case side1 => exact IsS69.j HI0.out); (case side2 => exact jB HB.out); rintro e w5 ⟨rfl, hi, hb, hk⟩; refine ⟨_, rfl, ?_⟩; replace HK := aM (kt HK.out hk); replace HB := aM (hb); replace HI0 := aM (hi); (try clear hb hk hi)) | ((with_reducible refine gate_callee (f := 20) rfl ?_); refine gL (some 10) Try.func20 #[.pointer (some ⟨g, 0, none⟩), .int .i64 8] ?_; (with_reducible refine (spec_l20Rd_pick.calls k g s0_0 t212 8 t213 t214 w0 _ ?side1 ?side2 A3.out).mono ?_); (case side1 => exact IsS69.j HI0.out); (case side2 => exact jB HB.out); rintro e w6 ⟨rfl, hi, hb, hk⟩; refine ⟨_, rfl, ?_⟩; replace HK := aM (kt HK.out hk); replace HB := aM (hb); replace HI0 := aM (hi); (try clear hb hk hi)))
 (try simp only [Act.put, sA, s0, sS])
 go_cut [11] (fun v11 wc => ∃ (kq : Nat) (x11_3 : Bool), v11 = .bool x11_3 ∧ Aside0 (spec_l20Act.j0 kq t211 t213 x11_3 s0_0 t214 = some (r1, r2)) ∧ Aside0 (kq ≤ k) ∧ Aside0 (IsS69 w0 wc g s0_0 t214) ∧ Aside0 (KeepBut w wc g none) ∧ Aside0 (Below w0.heap.size w0 wc))
 case first =>
  have H := HC4.out
  clear HC4
  by_cases c7 : t213 = 0
  ·rw [if_pos c7] at H
   have c7b0 := beq_iff_eq.mpr c7
   have c7b1 := bne_eq_false_iff_eq.mpr c7
   clear c7
   (first | rw [c7b0] | (simp only [i64_w, i32_w]; rw [c7b0]) | skip)
   have H' := aM H
   clear H
   go_wp2
   go_meet
   case rel => exact ⟨_, ((t213 == 0)), (by first | rfl | (simp; done) | (simp [*]; done)), H', ⟨by first | omega | exact Nat.le_refl _⟩, ⟨by exact IsS69.j HI0.out⟩, ⟨by exact jK HK.out⟩, ⟨by exact jB HB.out⟩⟩
  ·rw [if_neg c7] at H
   have c7b0 := beq_eq_false_iff_ne.mpr c7
   have c7b1 := bne_iff_ne.mpr c7
   (first | rw [c7b0] | (simp only [i64_w, i32_w]; rw [c7b0]) | skip)
   have H' := aM H
   clear H
   go_wp2
   go_meet
   case rel => exact ⟨_, ((t213 == 1)), (by first | rfl | (simp; done) | (simp [*]; done)), H', ⟨by first | omega | exact Nat.le_refl _⟩, ⟨by exact IsS69.j HI0.out⟩, ⟨by exact jK HK.out⟩, ⟨by exact jB HB.out⟩⟩
 case rest =>
  clear HC4
  try clear c2
  try clear p2
  try clear c5
  try clear c7
  try clear c7b0
  try clear c7b1
  obtain ⟨kq, x11_3, rfl, HA, HJ3, HI0, HK, HB⟩ := hcut
  cases kq with
  | zero => exact absurd HA.out (by simp [spec_l20Act.j0])
  | succ kj3 =>
   have H := HA.out
   clear HA
   simp only [spec_l20Act.j0] at H
   by_cases c8 : x11_3 = true
   ·subst c8
    rw [if_pos rfl] at H
    try dsimp only at H
    obtain ⟨⟨t215, t218, t221⟩, A9, H⟩ := bS H
    try dsimp only at H
    obtain ⟨⟨t222, t225, t228⟩, A10, H⟩ := bS H
    try dsimp only at H
    obtain ⟨⟨t229, t232, t235⟩, A11, H⟩ := bS H
    try dsimp only at H
    obtain ⟨⟨t236, t239, t242⟩, A12, H⟩ := bS H
    try dsimp only at H
    obtain ⟨⟨t243, t246, t249⟩, A13, H⟩ := bS H
    try dsimp only at H
    obtain ⟨y250, hy250⟩ : ∃ y_ : List (S45), y_ = (([(⟨1, 0, 2, (⟨t222, t225, t228⟩ : S43)⟩ : S45), (⟨2, t211, 0, (⟨t229, t232, t235⟩ : S43)⟩ : S45), (⟨3, 0, 0, (⟨t236, t239, t242⟩ : S43)⟩ : S45), (⟨1, 0, 1, (⟨t243, t246, t249⟩ : S43)⟩ : S45), (⟨4, 0, 0, (⟨([] : List Int), ([] : List Int), 0⟩ : S43)⟩ : S45)] : List (S45))) := ⟨_, rfl⟩
    try rw [← hy250] at H
    try dsimp only [Option.bind_some] at H
    have Ny250 := aM hy250
    clear hy250
    simp only [Option.some.injEq, Prod.mk.injEq] at H
    obtain ⟨rfl, rfl⟩ := H
    go_wp2_with (first | ((with_reducible refine gate_callee (f := 64) rfl ?_); refine gL (some 14) Try.func64 #[.int .i64 (-1), .int .i64 0, .int .i64 0] ?_; (with_reducible refine (spec_l20Num.calls (-1) 0 0 t215 t218 t221 _ A9.out).mono ?_); rintro e w14 ⟨v216, v219, rfl, ho0, ho1, hb⟩; refine ⟨_, rfl, ?_⟩; have HO217 := aM (lwM ho0 HK.out); have HO220 := aM (lwM ho1 HK.out); replace HI0 := aM (IsS69.below (by exact IsS69.j HI0.out) hb); replace HK := aM (kbl HK.out hb); replace HB := aM (bj HB.out hb); (try clear hb); (try clear ho0); (try clear ho1); obtain ⟨Ao15, co15, eo15⟩ := Kd.R_slice HO217.out; subst eo15; obtain ⟨Ao16, co16, eo16⟩ := Kd.R_slice HO220.out; subst eo16) | ((with_reducible refine gate_callee (f := 63) rfl ?_); refine gL (some 16) Try.func63 #[.agg #[.slice Ao15 t215.length co15, .slice Ao16 t218.length co16, .int .i64 t221], .int .i64 t211, .int .i64 1] ?_; (with_reducible refine (spec_l20With.calls (fun k_ => some k_ = (.slice Ao15 t215.length co15 : Value).ownBlock) (.slice Ao15 t215.length co15) t215 (fun k_ => some k_ = (.slice Ao16 t218.length co16 : Value).ownBlock) (.slice Ao16 t218.length co16) t218 t221 t211 1 t222 t225 t228 w0 _ ?side1 ?side2 ?side3 ?side4 ?side5 A10.out).mono ?_); (case side1 => exact jB HB.out); (case side2 => exact Kd.R_lower (Kd.R_tight rfl HO217.out) HL.out); (case side3 => exact fun k_ e_ => (HO217.out.1 k_ e_.symm).2); (case side4 => exact Kd.R_lower (Kd.R_tight rfl HO220.out) HL.out); (case side5 => exact fun k_ e_ => (HO220.out.1 k_ e_.symm).2); rintro e w17 ⟨v223, v226, rfl, ho0, ho1, hb, hkp⟩; refine ⟨_, rfl, ?_⟩; replace HI0 := aM (IsS69.kept (by exact IsS69.j HI0.out) hkp (fun hs_ => Or.elim hs_ (fun e_ => (fun e_ => (IsS69.own_ne HI0.out HO217.out (by decide)) e_) e_) (fun e_ => (fun e_ => (IsS69.own_ne HI0.out HO220.out (by decide)) e_) e_))); have HO224 := aM (Kd.R_mono (ok' := fun k_ => (w.heap.size ≤ k_) ∧ some k_ ≠ v226.ownBlock) (Kd.R_raise (d := (Kd.int .i64)) (b := w0.heap.size) (b' := w.heap.size) (fun _ _ _ _ h_ => h_) ho0 (fun k_ e_ => Or.elim (ho0.1 k_ e_).1 (fun hs_ => Or.elim hs_ (fun e_ => (fun e_ => Kd.R_base HO217.out k_ e_.symm) e_) (fun e_ => (fun e_ => Kd.R_base HO220.out k_ e_.symm) e_)) (fun hn_ => Nat.le_trans (keep_size (w := w) (g := g) (row := none) (by exact jK HK.out)) hn_))) (fun k_ hk_ => ⟨Or.elim hk_.1 (fun hs_ => Or.elim hs_ (fun hs_ => (HO217.out.1 k_ (hs_).symm).1) (fun hs_ => (HO220.out.1 k_ (hs_).symm).1)) (fun hn_ => (Nat.le_trans (keep_size (w := w) (g := g) (row := none) (by exact jK HK.out)) hn_)), hk_.2⟩)); have HO227 := aM (Kd.R_mono (ok' := fun k_ => (w.heap.size ≤ k_) ∧ some k_ ≠ v223.ownBlock) (Kd.R_raise (d := (Kd.int .i64)) (b := w0.heap.size) (b' := w.heap.size) (fun _ _ _ _ h_ => h_) ho1 (fun k_ e_ => Or.elim (ho1.1 k_ e_).1 (fun hs_ => Or.elim hs_ (fun e_ => (fun e_ => Kd.R_base HO217.out k_ e_.symm) e_) (fun e_ => (fun e_ => Kd.R_base HO220.out k_ e_.symm) e_)) (fun hn_ => Nat.le_trans (keep_size (w := w) (g := g) (row := none) (by exact jK HK.out)) hn_))) (fun k_ hk_ => ⟨Or.elim hk_.1 (fun hs_ => Or.elim hs_ (fun hs_ => (HO217.out.1 k_ (hs_).symm).1) (fun hs_ => (HO220.out.1 k_ (hs_).symm).1)) (fun hn_ => (Nat.le_trans (keep_size (w := w) (g := g) (row := none) (by exact jK HK.out)) hn_)), hk_.2⟩)); replace HK := aM (Kept.keepG (by exact jK HK.out) hkp (fun k_ hs_ => Or.elim hs_ (fun e_ => (fun e_ => .inr (Kd.R_base HO217.out k_ e_.symm)) e_) (fun e_ => (fun e_ => .inr (Kd.R_base HO220.out k_ e_.symm)) e_))); replace HB := aM (hb); clear HO217 HO220; (try clear hb); (try clear hkp); (try clear ho0); (try clear ho1); obtain ⟨Ao18, co18, eo18⟩ := Kd.R_slice HO227.out; subst eo18; obtain ⟨Ao19, co19, eo19⟩ := Kd.R_slice HO224.out; subst eo19) | ((with_reducible refine gate_callee (f := 64) rfl ?_); refine gL (some 19) Try.func64 #[.int .i64 (-1), .int .i64 0, .int .i64 0] ?_; (with_reducible refine (spec_l20Num.calls (-1) 0 0 t229 t232 t235 _ A11.out).mono ?_); rintro e w20 ⟨v230, v233, rfl, ho0, ho1, hb⟩; refine ⟨_, rfl, ?_⟩; have HO231 := aM (Kd.R_lower (Kd.R_new' (Kd.R_new' (Kd.R_newM (M := fun k_ => (w.heap.size ≤ k_)) ho0 (keep_size (w := w) (g := g) (row := none) (by exact jK HK.out)) (fun k_ h_ => h_)) (rl HO224.out)) (rl HO227.out)) (keep_size (w := w) (g := g) (row := none) (by exact jK HK.out))); have HO234 := aM (Kd.R_lower (Kd.R_new' (Kd.R_new' (Kd.R_newM (M := fun k_ => (w.heap.size ≤ k_)) ho1 (keep_size (w := w) (g := g) (row := none) (by exact jK HK.out)) (fun k_ h_ => h_)) (rl HO224.out)) (rl HO227.out)) (keep_size (w := w) (g := g) (row := none) (by exact jK HK.out))); replace HO224 := aM (o2 HO224.out hb ho0 ho1); replace HO227 := aM (o2 HO227.out hb ho0 ho1); replace HI0 := aM (IsS69.below (by exact IsS69.j HI0.out) hb); replace HK := aM (kbl HK.out hb); replace HB := aM (bj HB.out hb); (try clear hb); (try clear ho0); (try clear ho1); obtain ⟨Ao21, co21, eo21⟩ := Kd.R_slice HO234.out; subst eo21; obtain ⟨Ao22, co22, eo22⟩ := Kd.R_slice HO231.out; subst eo22) | ((with_reducible refine gate_callee (f := 64) rfl ?_); refine gL (some 21) Try.func64 #[.int .i64 1, .int .i64 0, .int .i64 0] ?_; (with_reducible refine (spec_l20Num.calls 1 0 0 t236 t239 t242 _ A12.out).mono ?_); rintro e w23 ⟨v237, v240, rfl, ho0, ho1, hb⟩; refine ⟨_, rfl, ?_⟩; have HO238 := aM (Kd.R_lower (Kd.R_new' (Kd.R_new' (Kd.R_new' (Kd.R_new' (Kd.R_newM (M := fun k_ => (w.heap.size ≤ k_)) ho0 (keep_size (w := w) (g := g) (row := none) (by exact jK HK.out)) (fun k_ h_ => h_)) (rl HO224.out)) (rl HO227.out)) (rl HO231.out)) (rl HO234.out)) (keep_size (w := w) (g := g) (row := none) (by exact jK HK.out))); have HO241 := aM (Kd.R_lower (Kd.R_new' (Kd.R_new' (Kd.R_new' (Kd.R_new' (Kd.R_newM (M := fun k_ => (w.heap.size ≤ k_)) ho1 (keep_size (w := w) (g := g) (row := none) (by exact jK HK.out)) (fun k_ h_ => h_)) (rl HO224.out)) (rl HO227.out)) (rl HO231.out)) (rl HO234.out)) (keep_size (w := w) (g := g) (row := none) (by exact jK HK.out))); replace HO224 := aM (o2 HO224.out hb ho0 ho1); replace HO227 := aM (o2 HO227.out hb ho0 ho1); replace HO231 := aM (o2 HO231.out hb ho0 ho1); replace HO234 := aM (o2 HO234.out hb ho0 ho1); replace HI0 := aM (IsS69.below (by exact IsS69.j HI0.out) hb); replace HK := aM (kbl HK.out hb); replace HB := aM (bj HB.out hb); (try clear hb); (try clear ho0); (try clear ho1); obtain ⟨Ao24, co24, eo24⟩ := Kd.R_slice HO241.out; subst eo24; obtain ⟨Ao25, co25, eo25⟩ := Kd.R_slice HO238.out; subst eo25) | ((with_reducible refine gate_callee (f := 64) rfl ?_); refine gL (some 23) Try.func64 #[.int .i64 1, .int .i64 0, .int .i64 (-9)] ?_; (with_reducible refine (spec_l20Num.calls 1 0 (-9) t243 t246 t249 _ A13.out).mono ?_); rintro e w26 ⟨v244, v247, rfl, ho0, ho1, hb⟩; refine ⟨_, rfl, ?_⟩; have HO245 := aM (Kd.R_lower (Kd.R_new' (Kd.R_new' (Kd.R_new' (Kd.R_new' (Kd.R_new' (Kd.R_new' (Kd.R_newM (M := fun k_ => (w.heap.size ≤ k_)) ho0 (keep_size (w := w) (g := g) (row := none) (by exact jK HK.out)) (fun k_ h_ => h_)) (rl HO224.out)) (rl HO227.out)) (rl HO231.out)) (rl HO234.out)) (rl HO238.out)) (rl HO241.out)) (keep_size (w := w) (g := g) (row := none) (by exact jK HK.out))); have HO248 := aM (Kd.R_lower (Kd.R_new' (Kd.R_new' (Kd.R_new' (Kd.R_new' (Kd.R_new' (Kd.R_new' (Kd.R_newM (M := fun k_ => (w.heap.size ≤ k_)) ho1 (keep_size (w := w) (g := g) (row := none) (by exact jK HK.out)) (fun k_ h_ => h_)) (rl HO224.out)) (rl HO227.out)) (rl HO231.out)) (rl HO234.out)) (rl HO238.out)) (rl HO241.out)) (keep_size (w := w) (g := g) (row := none) (by exact jK HK.out))); replace HO224 := aM (o2 HO224.out hb ho0 ho1); replace HO227 := aM (o2 HO227.out hb ho0 ho1); replace HO231 := aM (o2 HO231.out hb ho0 ho1); replace HO234 := aM (o2 HO234.out hb ho0 ho1); replace HO238 := aM (o2 HO238.out hb ho0 ho1); replace HO241 := aM (o2 HO241.out hb ho0 ho1); replace HI0 := aM (IsS69.below (by exact IsS69.j HI0.out) hb); replace HK := aM (kbl HK.out hb); replace HB := aM (bj HB.out hb); (try clear hb); (try clear ho0); (try clear ho1); obtain ⟨Ao27, co27, eo27⟩ := Kd.R_slice HO248.out; subst eo27; obtain ⟨Ao28, co28, eo28⟩ := Kd.R_slice HO245.out; subst eo28) | ((with_reducible refine gate_dst (N := 26) rfl ?_); refine Kd.N_lit k45 _ 45 ?hg (N' := 26) ?hd (xs := ([(⟨1, 0, 2, (⟨t222, t225, t228⟩ : S43)⟩ : S45), (⟨2, t211, 0, (⟨t229, t232, t235⟩ : S43)⟩ : S45), (⟨3, 0, 0, (⟨t236, t239, t242⟩ : S43)⟩ : S45), (⟨1, 0, 1, (⟨t243, t246, t249⟩ : S43)⟩ : S45), (⟨4, 0, 0, (⟨([] : List Int), ([] : List Int), 0⟩ : S43)⟩ : S45)] : List (S45))) (inner := [.int .i64 1, .int .i64 0, .int .i64 2, .slice Ao19 t222.length co19, .slice Ao18 t225.length co18, .int .i64 t228, .int .i64 2, .int .i64 t211, .int .i64 0, .slice Ao22 t229.length co22, .slice Ao21 t232.length co21, .int .i64 t235, .int .i64 3, .int .i64 0, .int .i64 0, .slice Ao25 t236.length co25, .slice Ao24 t239.length co24, .int .i64 t242, .int .i64 1, .int .i64 0, .int .i64 1, .slice Ao28 t243.length co28, .slice Ao27 t246.length co27, .int .i64 t249, .int .i64 4, .int .i64 0, .int .i64 0, .slice none 0 0, .slice none 0 0, .int .i64 0]) (ok := (fun k_ => (w.heap.size ≤ k_) ∧ k_ ≠ g)) (okp := (fun k_ => (w.heap.size ≤ k_) ∧ k_ ≠ g)) ?hr ?hp (fun _ hk => hk) ((show ∀ k_, w26.heap.size ≤ k_ → (fun k_ => (w.heap.size ≤ k_) ∧ k_ ≠ g) k_ from fun k_ hk => ⟨(Nat.le_trans (keep_size (w := w) (g := g) (row := none) (by exact jK HK.out)) hk), IsS69.fresh (by exact IsS69.j HI0.out) k_ hk⟩) _ (Nat.le_refl _)) (Below.refl _ _) (Nat.le_refl _) (by simp) ?_; (case hd => rfl); (case hg => rfl); (case hr => first | (go_simp; done) | (go_simp; rfl)); (case hp => exact (Reps.c6 (show Kd.FK k45 _ _ (⟨1, 0, 2, (⟨t222, t225, t228⟩ : S43)⟩ : S45) [.int .i64 1, .int .i64 0, .int .i64 2, .slice Ao19 t222.length co19, .slice Ao18 t225.length co18, .int .i64 t228] from (k45_mkR _ _ (⟨1, 0, 2, (⟨t222, t225, t228⟩ : S43)⟩ : S45) (Kd.R_mono (ok' := (fun k_ => (w.heap.size ≤ k_) ∧ k_ ≠ g)) (IsS69.apart HI0.out (HO224.out) (by decide)) (fun k_ hk => ⟨hk.1.1.1.1.1.1.1.1, hk.2⟩)) (Kd.R_mono (ok' := (fun k_ => (w.heap.size ≤ k_) ∧ k_ ≠ g)) (IsS69.apart HI0.out (HO227.out) (by decide)) (fun k_ hk => ⟨hk.1.1.1.1.1.1.1.1, hk.2⟩)))) (Reps.c6 (show Kd.FK k45 _ _ (⟨2, t211, 0, (⟨t229, t232, t235⟩ : S43)⟩ : S45) [.int .i64 2, .int .i64 t211, .int .i64 0, .slice Ao22 t229.length co22, .slice Ao21 t232.length co21, .int .i64 t235] from (k45_mkR _ _ (⟨2, t211, 0, (⟨t229, t232, t235⟩ : S43)⟩ : S45) (Kd.R_mono (ok' := (fun k_ => (w.heap.size ≤ k_) ∧ k_ ≠ g)) (IsS69.apart HI0.out (HO231.out) (by decide)) (fun k_ hk => ⟨hk.1.1.1.1.1.1.1.1, hk.2⟩)) (Kd.R_mono (ok' := (fun k_ => (w.heap.size ≤ k_) ∧ k_ ≠ g)) (IsS69.apart HI0.out (HO234.out) (by decide)) (fun k_ hk => ⟨hk.1.1.1.1.1.1.1.1, hk.2⟩)))) (Reps.c6 (show Kd.FK k45 _ _ (⟨3, 0, 0, (⟨t236, t239, t242⟩ : S43)⟩ : S45) [.int .i64 3, .int .i64 0, .int .i64 0, .slice Ao25 t236.length co25, .slice Ao24 t239.length co24, .int .i64 t242] from (k45_mkR _ _ (⟨3, 0, 0, (⟨t236, t239, t242⟩ : S43)⟩ : S45) (Kd.R_mono (ok' := (fun k_ => (w.heap.size ≤ k_) ∧ k_ ≠ g)) (IsS69.apart HI0.out (HO238.out) (by decide)) (fun k_ hk => ⟨hk.1.1.1.1.1.1.1.1, hk.2⟩)) (Kd.R_mono (ok' := (fun k_ => (w.heap.size ≤ k_) ∧ k_ ≠ g)) (IsS69.apart HI0.out (HO241.out) (by decide)) (fun k_ hk => ⟨hk.1.1.1.1.1.1.1.1, hk.2⟩)))) (Reps.c6 (show Kd.FK k45 _ _ (⟨1, 0, 1, (⟨t243, t246, t249⟩ : S43)⟩ : S45) [.int .i64 1, .int .i64 0, .int .i64 1, .slice Ao28 t243.length co28, .slice Ao27 t246.length co27, .int .i64 t249] from (k45_mkR _ _ (⟨1, 0, 1, (⟨t243, t246, t249⟩ : S43)⟩ : S45) (Kd.R_mono (ok' := (fun k_ => (w.heap.size ≤ k_) ∧ k_ ≠ g)) (IsS69.apart HI0.out (HO245.out) (by decide)) (fun k_ hk => ⟨hk.1.1.1.1.1.1.1.1, hk.2⟩)) (Kd.R_mono (ok' := (fun k_ => (w.heap.size ≤ k_) ∧ k_ ≠ g)) (IsS69.apart HI0.out (HO248.out) (by decide)) (fun k_ hk => ⟨hk.1.1.1.1.1.1.1.1, hk.2⟩)))) (Reps.c6 (show Kd.FK k45 _ _ (⟨4, 0, 0, (⟨([] : List Int), ([] : List Int), 0⟩ : S43)⟩ : S45) [.int .i64 4, .int .i64 0, .int .i64 0, .slice none 0 0, .slice none 0 0, .int .i64 0] from (k45_mkF _ _ (⟨4, 0, 0, (⟨([] : List Int), ([] : List Int), 0⟩ : S43)⟩ : S45) (Nat.le_refl _) (Kd.F_nil _ _ _) (Nat.le_refl _) (Kd.F_nil _ _ _))) (Reps.none _ _))))))); intro v251 w29 ho30 hb hg_ hnew_; clear hg_ hnew_; (first | rw [← Ny250.out] at ho30 | (simp only [Int.reduceToNat] at ho30; rw [← Ny250.out] at ho30)); replace HO224 := aM (rb HO224.out hb); replace HO227 := aM (rb HO227.out hb); replace HO231 := aM (rb HO231.out hb); replace HO234 := aM (rb HO234.out hb); replace HO238 := aM (rb HO238.out hb); replace HO241 := aM (rb HO241.out hb); replace HO245 := aM (rb HO245.out hb); replace HO248 := aM (rb HO248.out hb); have HO252 := aM (Kd.N_lower ho30 (keep_size (w := w) (g := g) (row := none) (by exact jK HK.out))); replace HI0 := aM (IsS69.below (by exact IsS69.j HI0.out) hb); replace HK := aM (kbl HK.out hb); replace HB := aM (bj HB.out hb); clear hb ho30))
    go_ret
    exact ⟨_, er, by exact lN <| Kd.N_mono HO252.out (fun _ hk => hk.1), by exact IsS69.j HI0.out, by exact jB HB.out, by exact jK HK.out⟩
   ·replace c8 := Bool.eq_false_iff.mpr c8
    subst c8
    rw [if_neg nf] at H
    try dsimp only at H
    by_cases c31 : t213 = 2
    ·rw [if_pos c31] at H
     have c31b0 := beq_iff_eq.mpr c31
     have c31b1 := bne_eq_false_iff_eq.mpr c31
     clear c31
     obtain ⟨⟨t253, t256, t259⟩, A32, H⟩ := bS H
     try dsimp only at H
     obtain ⟨y260, hy260⟩ : ∃ y_ : List (S45), y_ = (([(⟨2, t211, 0, (⟨t253, t256, t259⟩ : S43)⟩ : S45)] : List (S45))) := ⟨_, rfl⟩
     try rw [← hy260] at H
     try dsimp only [Option.bind_some] at H
     have Ny260 := aM hy260
     clear hy260
     simp only [Option.some.injEq, Prod.mk.injEq] at H
     obtain ⟨rfl, rfl⟩ := H
     go_wp2_with (first | ((with_reducible refine gate_callee (f := 64) rfl ?_); refine gL (some 30) Try.func64 #[.int .i64 1, .int .i64 0, .int .i64 0] ?_; (with_reducible refine (spec_l20Num.calls 1 0 0 t253 t256 t259 _ A32.out).mono ?_); rintro e w33 ⟨v254, v257, rfl, ho0, ho1, hb⟩; refine ⟨_, rfl, ?_⟩; have HO255 := aM (lwM ho0 HK.out); have HO258 := aM (lwM ho1 HK.out); replace HI0 := aM (IsS69.below (by exact IsS69.j HI0.out) hb); replace HK := aM (kbl HK.out hb); replace HB := aM (bj HB.out hb); (try clear hb); (try clear ho0); (try clear ho1); obtain ⟨Ao34, co34, eo34⟩ := Kd.R_slice HO258.out; subst eo34; obtain ⟨Ao35, co35, eo35⟩ := Kd.R_slice HO255.out; subst eo35) | ((with_reducible refine gate_dst (N := 32) rfl ?_); refine Kd.N_lit k45 _ 45 ?hg (N' := 32) ?hd (xs := ([(⟨2, t211, 0, (⟨t253, t256, t259⟩ : S43)⟩ : S45)] : List (S45))) (inner := [.int .i64 2, .int .i64 t211, .int .i64 0, .slice Ao35 t253.length co35, .slice Ao34 t256.length co34, .int .i64 t259]) (ok := (fun k_ => (w.heap.size ≤ k_) ∧ k_ ≠ g)) (okp := (fun k_ => (w.heap.size ≤ k_) ∧ k_ ≠ g)) ?hr ?hp (fun _ hk => hk) ((show ∀ k_, w33.heap.size ≤ k_ → (fun k_ => (w.heap.size ≤ k_) ∧ k_ ≠ g) k_ from fun k_ hk => ⟨(Nat.le_trans (keep_size (w := w) (g := g) (row := none) (by exact jK HK.out)) hk), IsS69.fresh (by exact IsS69.j HI0.out) k_ hk⟩) _ (Nat.le_refl _)) (Below.refl _ _) (Nat.le_refl _) (by simp) ?_; (case hd => rfl); (case hg => rfl); (case hr => first | (go_simp; done) | (go_simp; rfl)); (case hp => exact (Reps.c6 (show Kd.FK k45 _ _ (⟨2, t211, 0, (⟨t253, t256, t259⟩ : S43)⟩ : S45) [.int .i64 2, .int .i64 t211, .int .i64 0, .slice Ao35 t253.length co35, .slice Ao34 t256.length co34, .int .i64 t259] from (k45_mkR _ _ (⟨2, t211, 0, (⟨t253, t256, t259⟩ : S43)⟩ : S45) (Kd.R_mono (ok' := (fun k_ => (w.heap.size ≤ k_) ∧ k_ ≠ g)) (IsS69.apart HI0.out (HO255.out) (by decide)) (fun k_ hk => ⟨hk.1.1, hk.2⟩)) (Kd.R_mono (ok' := (fun k_ => (w.heap.size ≤ k_) ∧ k_ ≠ g)) (IsS69.apart HI0.out (HO258.out) (by decide)) (fun k_ hk => ⟨hk.1.1, hk.2⟩)))) (Reps.none _ _))); intro v261 w36 ho37 hb hg_ hnew_; clear hg_ hnew_; (first | rw [← Ny260.out] at ho37 | (simp only [Int.reduceToNat] at ho37; rw [← Ny260.out] at ho37)); replace HO255 := aM (rb HO255.out hb); replace HO258 := aM (rb HO258.out hb); have HO262 := aM (Kd.N_lower ho37 (keep_size (w := w) (g := g) (row := none) (by exact jK HK.out))); replace HI0 := aM (IsS69.below (by exact IsS69.j HI0.out) hb); replace HK := aM (kbl HK.out hb); replace HB := aM (bj HB.out hb); clear hb ho37))
     go_ret
     exact ⟨_, er, by exact lN <| Kd.N_mono HO262.out (fun _ hk => hk.1), by exact IsS69.j HI0.out, by exact jB HB.out, by exact jK HK.out⟩
    ·rw [if_neg c31] at H
     have c31b0 := beq_eq_false_iff_ne.mpr c31
     have c31b1 := bne_iff_ne.mpr c31
     by_cases c38 : t213 = 3
     ·rw [if_pos c38] at H
      have c38b0 := beq_iff_eq.mpr c38
      have c38b1 := bne_eq_false_iff_eq.mpr c38
      clear c38
      obtain ⟨⟨t263, t266, t269⟩, A39, H⟩ := bS H
      try dsimp only at H
      obtain ⟨⟨t270, t273, t276⟩, A40, H⟩ := bS H
      try dsimp only at H
      obtain ⟨⟨t277, t280, t283⟩, A41, H⟩ := bS H
      try dsimp only at H
      obtain ⟨⟨t284, t287, t290⟩, A42, H⟩ := bS H
      try dsimp only at H
      obtain ⟨y291, hy291⟩ : ∃ y_ : List (S45), y_ = (([(⟨1, 0, 2, (⟨t270, t273, t276⟩ : S43)⟩ : S45), (⟨2, t211, 0, (⟨t277, t280, t283⟩ : S43)⟩ : S45), (⟨2, wrap64 (1 - t211), 0, (⟨t284, t287, t290⟩ : S43)⟩ : S45)] : List (S45))) := ⟨_, rfl⟩
      try rw [← hy291] at H
      try dsimp only [Option.bind_some] at H
      have Ny291 := aM hy291
      clear hy291
      simp only [Option.some.injEq, Prod.mk.injEq] at H
      obtain ⟨rfl, rfl⟩ := H
      go_wp2_with (first | ((with_reducible refine gate_callee (f := 64) rfl ?_); refine gL (some 35) Try.func64 #[.int .i64 (-1), .int .i64 0, .int .i64 0] ?_; (with_reducible refine (spec_l20Num.calls (-1) 0 0 t263 t266 t269 _ A39.out).mono ?_); rintro e w43 ⟨v264, v267, rfl, ho0, ho1, hb⟩; refine ⟨_, rfl, ?_⟩; have HO265 := aM (lwM ho0 HK.out); have HO268 := aM (lwM ho1 HK.out); replace HI0 := aM (IsS69.below (by exact IsS69.j HI0.out) hb); replace HK := aM (kbl HK.out hb); replace HB := aM (bj HB.out hb); (try clear hb); (try clear ho0); (try clear ho1); obtain ⟨Ao44, co44, eo44⟩ := Kd.R_slice HO265.out; subst eo44; obtain ⟨Ao45, co45, eo45⟩ := Kd.R_slice HO268.out; subst eo45) | ((with_reducible refine gate_callee (f := 63) rfl ?_); refine gL (some 37) Try.func63 #[.agg #[.slice Ao44 t263.length co44, .slice Ao45 t266.length co45, .int .i64 t269], .int .i64 t211, .int .i64 1] ?_; (with_reducible refine (spec_l20With.calls (fun k_ => some k_ = (.slice Ao44 t263.length co44 : Value).ownBlock) (.slice Ao44 t263.length co44) t263 (fun k_ => some k_ = (.slice Ao45 t266.length co45 : Value).ownBlock) (.slice Ao45 t266.length co45) t266 t269 t211 1 t270 t273 t276 w0 _ ?side1 ?side2 ?side3 ?side4 ?side5 A40.out).mono ?_); (case side1 => exact jB HB.out); (case side2 => exact Kd.R_lower (Kd.R_tight rfl HO265.out) HL.out); (case side3 => exact fun k_ e_ => (HO265.out.1 k_ e_.symm).2); (case side4 => exact Kd.R_lower (Kd.R_tight rfl HO268.out) HL.out); (case side5 => exact fun k_ e_ => (HO268.out.1 k_ e_.symm).2); rintro e w46 ⟨v271, v274, rfl, ho0, ho1, hb, hkp⟩; refine ⟨_, rfl, ?_⟩; replace HI0 := aM (IsS69.kept (by exact IsS69.j HI0.out) hkp (fun hs_ => Or.elim hs_ (fun e_ => (fun e_ => (IsS69.own_ne HI0.out HO265.out (by decide)) e_) e_) (fun e_ => (fun e_ => (IsS69.own_ne HI0.out HO268.out (by decide)) e_) e_))); have HO272 := aM (Kd.R_mono (ok' := fun k_ => (w.heap.size ≤ k_) ∧ some k_ ≠ v274.ownBlock) (Kd.R_raise (d := (Kd.int .i64)) (b := w0.heap.size) (b' := w.heap.size) (fun _ _ _ _ h_ => h_) ho0 (fun k_ e_ => Or.elim (ho0.1 k_ e_).1 (fun hs_ => Or.elim hs_ (fun e_ => (fun e_ => Kd.R_base HO265.out k_ e_.symm) e_) (fun e_ => (fun e_ => Kd.R_base HO268.out k_ e_.symm) e_)) (fun hn_ => Nat.le_trans (keep_size (w := w) (g := g) (row := none) (by exact jK HK.out)) hn_))) (fun k_ hk_ => ⟨Or.elim hk_.1 (fun hs_ => Or.elim hs_ (fun hs_ => (HO265.out.1 k_ (hs_).symm).1) (fun hs_ => (HO268.out.1 k_ (hs_).symm).1)) (fun hn_ => (Nat.le_trans (keep_size (w := w) (g := g) (row := none) (by exact jK HK.out)) hn_)), hk_.2⟩)); have HO275 := aM (Kd.R_mono (ok' := fun k_ => (w.heap.size ≤ k_) ∧ some k_ ≠ v271.ownBlock) (Kd.R_raise (d := (Kd.int .i64)) (b := w0.heap.size) (b' := w.heap.size) (fun _ _ _ _ h_ => h_) ho1 (fun k_ e_ => Or.elim (ho1.1 k_ e_).1 (fun hs_ => Or.elim hs_ (fun e_ => (fun e_ => Kd.R_base HO265.out k_ e_.symm) e_) (fun e_ => (fun e_ => Kd.R_base HO268.out k_ e_.symm) e_)) (fun hn_ => Nat.le_trans (keep_size (w := w) (g := g) (row := none) (by exact jK HK.out)) hn_))) (fun k_ hk_ => ⟨Or.elim hk_.1 (fun hs_ => Or.elim hs_ (fun hs_ => (HO265.out.1 k_ (hs_).symm).1) (fun hs_ => (HO268.out.1 k_ (hs_).symm).1)) (fun hn_ => (Nat.le_trans (keep_size (w := w) (g := g) (row := none) (by exact jK HK.out)) hn_)), hk_.2⟩)); replace HK := aM (Kept.keepG (by exact jK HK.out) hkp (fun k_ hs_ => Or.elim hs_ (fun e_ => (fun e_ => .inr (Kd.R_base HO265.out k_ e_.symm)) e_) (fun e_ => (fun e_ => .inr (Kd.R_base HO268.out k_ e_.symm)) e_))); replace HB := aM (hb); clear HO265 HO268; (try clear hb); (try clear hkp); (try clear ho0); (try clear ho1); obtain ⟨Ao47, co47, eo47⟩ := Kd.R_slice HO275.out; subst eo47; obtain ⟨Ao48, co48, eo48⟩ := Kd.R_slice HO272.out; subst eo48) | ((with_reducible refine gate_callee (f := 64) rfl ?_); refine gL (some 40) Try.func64 #[.int .i64 (-1), .int .i64 0, .int .i64 0] ?_; (with_reducible refine (spec_l20Num.calls (-1) 0 0 t277 t280 t283 _ A41.out).mono ?_); rintro e w49 ⟨v278, v281, rfl, ho0, ho1, hb⟩; refine ⟨_, rfl, ?_⟩; have HO279 := aM (Kd.R_lower (Kd.R_new' (Kd.R_new' (Kd.R_newM (M := fun k_ => (w.heap.size ≤ k_)) ho0 (keep_size (w := w) (g := g) (row := none) (by exact jK HK.out)) (fun k_ h_ => h_)) (rl HO272.out)) (rl HO275.out)) (keep_size (w := w) (g := g) (row := none) (by exact jK HK.out))); have HO282 := aM (Kd.R_lower (Kd.R_new' (Kd.R_new' (Kd.R_newM (M := fun k_ => (w.heap.size ≤ k_)) ho1 (keep_size (w := w) (g := g) (row := none) (by exact jK HK.out)) (fun k_ h_ => h_)) (rl HO272.out)) (rl HO275.out)) (keep_size (w := w) (g := g) (row := none) (by exact jK HK.out))); replace HO272 := aM (o2 HO272.out hb ho0 ho1); replace HO275 := aM (o2 HO275.out hb ho0 ho1); replace HI0 := aM (IsS69.below (by exact IsS69.j HI0.out) hb); replace HK := aM (kbl HK.out hb); replace HB := aM (bj HB.out hb); (try clear hb); (try clear ho0); (try clear ho1); obtain ⟨Ao50, co50, eo50⟩ := Kd.R_slice HO282.out; subst eo50; obtain ⟨Ao51, co51, eo51⟩ := Kd.R_slice HO279.out; subst eo51) | ((with_reducible refine gate_callee (f := 64) rfl ?_); refine gL (some 44) Try.func64 #[.int .i64 1, .int .i64 0, .int .i64 0] ?_; (with_reducible refine (spec_l20Num.calls 1 0 0 t284 t287 t290 _ A42.out).mono ?_); rintro e w52 ⟨v285, v288, rfl, ho0, ho1, hb⟩; refine ⟨_, rfl, ?_⟩; have HO286 := aM (Kd.R_lower (Kd.R_new' (Kd.R_new' (Kd.R_new' (Kd.R_new' (Kd.R_newM (M := fun k_ => (w.heap.size ≤ k_)) ho0 (keep_size (w := w) (g := g) (row := none) (by exact jK HK.out)) (fun k_ h_ => h_)) (rl HO272.out)) (rl HO275.out)) (rl HO279.out)) (rl HO282.out)) (keep_size (w := w) (g := g) (row := none) (by exact jK HK.out))); have HO289 := aM (Kd.R_lower (Kd.R_new' (Kd.R_new' (Kd.R_new' (Kd.R_new' (Kd.R_newM (M := fun k_ => (w.heap.size ≤ k_)) ho1 (keep_size (w := w) (g := g) (row := none) (by exact jK HK.out)) (fun k_ h_ => h_)) (rl HO272.out)) (rl HO275.out)) (rl HO279.out)) (rl HO282.out)) (keep_size (w := w) (g := g) (row := none) (by exact jK HK.out))); replace HO272 := aM (o2 HO272.out hb ho0 ho1); replace HO275 := aM (o2 HO275.out hb ho0 ho1); replace HO279 := aM (o2 HO279.out hb ho0 ho1); replace HO282 := aM (o2 HO282.out hb ho0 ho1); replace HI0 := aM (IsS69.below (by exact IsS69.j HI0.out) hb); replace HK := aM (kbl HK.out hb); replace HB := aM (bj HB.out hb); (try clear hb); (try clear ho0); (try clear ho1); obtain ⟨Ao53, co53, eo53⟩ := Kd.R_slice HO289.out; subst eo53; obtain ⟨Ao54, co54, eo54⟩ := Kd.R_slice HO286.out; subst eo54) | ((with_reducible refine gate_dst (N := 46) rfl ?_); refine Kd.N_lit k45 _ 45 ?hg (N' := 46) ?hd (xs := ([(⟨1, 0, 2, (⟨t270, t273, t276⟩ : S43)⟩ : S45), (⟨2, t211, 0, (⟨t277, t280, t283⟩ : S43)⟩ : S45), (⟨2, wrap64 (1 - t211), 0, (⟨t284, t287, t290⟩ : S43)⟩ : S45)] : List (S45))) (inner := [.int .i64 1, .int .i64 0, .int .i64 2, .slice Ao48 t270.length co48, .slice Ao47 t273.length co47, .int .i64 t276, .int .i64 2, .int .i64 t211, .int .i64 0, .slice Ao51 t277.length co51, .slice Ao50 t280.length co50, .int .i64 t283, .int .i64 2, .int .i64 (wrap64 (1 - t211)), .int .i64 0, .slice Ao54 t284.length co54, .slice Ao53 t287.length co53, .int .i64 t290]) (ok := (fun k_ => (w.heap.size ≤ k_) ∧ k_ ≠ g)) (okp := (fun k_ => (w.heap.size ≤ k_) ∧ k_ ≠ g)) ?hr ?hp (fun _ hk => hk) ((show ∀ k_, w52.heap.size ≤ k_ → (fun k_ => (w.heap.size ≤ k_) ∧ k_ ≠ g) k_ from fun k_ hk => ⟨(Nat.le_trans (keep_size (w := w) (g := g) (row := none) (by exact jK HK.out)) hk), IsS69.fresh (by exact IsS69.j HI0.out) k_ hk⟩) _ (Nat.le_refl _)) (Below.refl _ _) (Nat.le_refl _) (by simp) ?_; (case hd => rfl); (case hg => rfl); (case hr => first | (go_simp; done) | (go_simp; rfl)); (case hp => exact (Reps.c6 (show Kd.FK k45 _ _ (⟨1, 0, 2, (⟨t270, t273, t276⟩ : S43)⟩ : S45) [.int .i64 1, .int .i64 0, .int .i64 2, .slice Ao48 t270.length co48, .slice Ao47 t273.length co47, .int .i64 t276] from (k45_mkR _ _ (⟨1, 0, 2, (⟨t270, t273, t276⟩ : S43)⟩ : S45) (Kd.R_mono (ok' := (fun k_ => (w.heap.size ≤ k_) ∧ k_ ≠ g)) (IsS69.apart HI0.out (HO272.out) (by decide)) (fun k_ hk => ⟨hk.1.1.1.1.1.1, hk.2⟩)) (Kd.R_mono (ok' := (fun k_ => (w.heap.size ≤ k_) ∧ k_ ≠ g)) (IsS69.apart HI0.out (HO275.out) (by decide)) (fun k_ hk => ⟨hk.1.1.1.1.1.1, hk.2⟩)))) (Reps.c6 (show Kd.FK k45 _ _ (⟨2, t211, 0, (⟨t277, t280, t283⟩ : S43)⟩ : S45) [.int .i64 2, .int .i64 t211, .int .i64 0, .slice Ao51 t277.length co51, .slice Ao50 t280.length co50, .int .i64 t283] from (k45_mkR _ _ (⟨2, t211, 0, (⟨t277, t280, t283⟩ : S43)⟩ : S45) (Kd.R_mono (ok' := (fun k_ => (w.heap.size ≤ k_) ∧ k_ ≠ g)) (IsS69.apart HI0.out (HO279.out) (by decide)) (fun k_ hk => ⟨hk.1.1.1.1.1.1, hk.2⟩)) (Kd.R_mono (ok' := (fun k_ => (w.heap.size ≤ k_) ∧ k_ ≠ g)) (IsS69.apart HI0.out (HO282.out) (by decide)) (fun k_ hk => ⟨hk.1.1.1.1.1.1, hk.2⟩)))) (Reps.c6 (show Kd.FK k45 _ _ (⟨2, wrap64 (1 - t211), 0, (⟨t284, t287, t290⟩ : S43)⟩ : S45) [.int .i64 2, .int .i64 (wrap64 (1 - t211)), .int .i64 0, .slice Ao54 t284.length co54, .slice Ao53 t287.length co53, .int .i64 t290] from (k45_mkR _ _ (⟨2, wrap64 (1 - t211), 0, (⟨t284, t287, t290⟩ : S43)⟩ : S45) (Kd.R_mono (ok' := (fun k_ => (w.heap.size ≤ k_) ∧ k_ ≠ g)) (IsS69.apart HI0.out (HO286.out) (by decide)) (fun k_ hk => ⟨hk.1.1.1.1.1.1, hk.2⟩)) (Kd.R_mono (ok' := (fun k_ => (w.heap.size ≤ k_) ∧ k_ ≠ g)) (IsS69.apart HI0.out (HO289.out) (by decide)) (fun k_ hk => ⟨hk.1.1.1.1.1.1, hk.2⟩)))) (Reps.none _ _))))); intro v292 w55 ho56 hb hg_ hnew_; clear hg_ hnew_; (first | rw [← Ny291.out] at ho56 | (simp only [Int.reduceToNat] at ho56; rw [← Ny291.out] at ho56)); replace HO272 := aM (rb HO272.out hb); replace HO275 := aM (rb HO275.out hb); replace HO279 := aM (rb HO279.out hb); replace HO282 := aM (rb HO282.out hb); replace HO286 := aM (rb HO286.out hb); replace HO289 := aM (rb HO289.out hb); have HO293 := aM (Kd.N_lower ho56 (keep_size (w := w) (g := g) (row := none) (by exact jK HK.out))); replace HI0 := aM (IsS69.below (by exact IsS69.j HI0.out) hb); replace HK := aM (kbl HK.out hb); replace HB := aM (bj HB.out hb); clear hb ho56))
      go_ret
      exact ⟨_, er, by exact lN <| Kd.N_mono HO293.out (fun _ hk => hk.1), by exact IsS69.j HI0.out, by exact jB HB.out, by exact jK HK.out⟩
     ·rw [if_neg c38] at H
      have c38b0 := beq_eq_false_iff_ne.mpr c38
      have c38b1 := bne_iff_ne.mpr c38
      by_cases c57 : t213 = 4
      ·rw [if_pos c57] at H
       have c57b0 := beq_iff_eq.mpr c57
       have c57b1 := bne_eq_false_iff_eq.mpr c57
       clear c57
       obtain ⟨⟨t294, t297, t300⟩, A58, H⟩ := bS H
       try dsimp only at H
       obtain ⟨⟨t301, t304, t307⟩, A59, H⟩ := bS H
       try dsimp only at H
       obtain ⟨y308, hy308⟩ : ∃ y_ : List (S45), y_ = (([(⟨3, 0, 0, (⟨t301, t304, t307⟩ : S43)⟩ : S45)] : List (S45))) := ⟨_, rfl⟩
       try rw [← hy308] at H
       try dsimp only [Option.bind_some] at H
       have Ny308 := aM hy308
       clear hy308
       simp only [Option.some.injEq, Prod.mk.injEq] at H
       obtain ⟨rfl, rfl⟩ := H
       go_wp2_with (first | ((with_reducible refine gate_callee (f := 64) rfl ?_); refine gL (some 49) Try.func64 #[.int .i64 0, .int .i64 0, .int .i64 0] ?_; (with_reducible refine (spec_l20Num.calls 0 0 0 t294 t297 t300 _ A58.out).mono ?_); rintro e w60 ⟨v295, v298, rfl, ho0, ho1, hb⟩; refine ⟨_, rfl, ?_⟩; have HO296 := aM (lwM ho0 HK.out); have HO299 := aM (lwM ho1 HK.out); replace HI0 := aM (IsS69.below (by exact IsS69.j HI0.out) hb); replace HK := aM (kbl HK.out hb); replace HB := aM (bj HB.out hb); (try clear hb); (try clear ho0); (try clear ho1); obtain ⟨Ao61, co61, eo61⟩ := Kd.R_slice HO296.out; subst eo61; obtain ⟨Ao62, co62, eo62⟩ := Kd.R_slice HO299.out; subst eo62) | ((with_reducible refine gate_callee (f := 63) rfl ?_); refine gL (some 50) Try.func63 #[.agg #[.slice Ao61 t294.length co61, .slice Ao62 t297.length co62, .int .i64 t300], .int .i64 2, .int .i64 1] ?_; (with_reducible refine (spec_l20With.calls (fun k_ => some k_ = (.slice Ao61 t294.length co61 : Value).ownBlock) (.slice Ao61 t294.length co61) t294 (fun k_ => some k_ = (.slice Ao62 t297.length co62 : Value).ownBlock) (.slice Ao62 t297.length co62) t297 t300 2 1 t301 t304 t307 w0 _ ?side1 ?side2 ?side3 ?side4 ?side5 A59.out).mono ?_); (case side1 => exact jB HB.out); (case side2 => exact Kd.R_lower (Kd.R_tight rfl HO296.out) HL.out); (case side3 => exact fun k_ e_ => (HO296.out.1 k_ e_.symm).2); (case side4 => exact Kd.R_lower (Kd.R_tight rfl HO299.out) HL.out); (case side5 => exact fun k_ e_ => (HO299.out.1 k_ e_.symm).2); rintro e w63 ⟨v302, v305, rfl, ho0, ho1, hb, hkp⟩; refine ⟨_, rfl, ?_⟩; replace HI0 := aM (IsS69.kept (by exact IsS69.j HI0.out) hkp (fun hs_ => Or.elim hs_ (fun e_ => (fun e_ => (IsS69.own_ne HI0.out HO296.out (by decide)) e_) e_) (fun e_ => (fun e_ => (IsS69.own_ne HI0.out HO299.out (by decide)) e_) e_))); have HO303 := aM (Kd.R_mono (ok' := fun k_ => (w.heap.size ≤ k_) ∧ some k_ ≠ v305.ownBlock) (Kd.R_raise (d := (Kd.int .i64)) (b := w0.heap.size) (b' := w.heap.size) (fun _ _ _ _ h_ => h_) ho0 (fun k_ e_ => Or.elim (ho0.1 k_ e_).1 (fun hs_ => Or.elim hs_ (fun e_ => (fun e_ => Kd.R_base HO296.out k_ e_.symm) e_) (fun e_ => (fun e_ => Kd.R_base HO299.out k_ e_.symm) e_)) (fun hn_ => Nat.le_trans (keep_size (w := w) (g := g) (row := none) (by exact jK HK.out)) hn_))) (fun k_ hk_ => ⟨Or.elim hk_.1 (fun hs_ => Or.elim hs_ (fun hs_ => (HO296.out.1 k_ (hs_).symm).1) (fun hs_ => (HO299.out.1 k_ (hs_).symm).1)) (fun hn_ => (Nat.le_trans (keep_size (w := w) (g := g) (row := none) (by exact jK HK.out)) hn_)), hk_.2⟩)); have HO306 := aM (Kd.R_mono (ok' := fun k_ => (w.heap.size ≤ k_) ∧ some k_ ≠ v302.ownBlock) (Kd.R_raise (d := (Kd.int .i64)) (b := w0.heap.size) (b' := w.heap.size) (fun _ _ _ _ h_ => h_) ho1 (fun k_ e_ => Or.elim (ho1.1 k_ e_).1 (fun hs_ => Or.elim hs_ (fun e_ => (fun e_ => Kd.R_base HO296.out k_ e_.symm) e_) (fun e_ => (fun e_ => Kd.R_base HO299.out k_ e_.symm) e_)) (fun hn_ => Nat.le_trans (keep_size (w := w) (g := g) (row := none) (by exact jK HK.out)) hn_))) (fun k_ hk_ => ⟨Or.elim hk_.1 (fun hs_ => Or.elim hs_ (fun hs_ => (HO296.out.1 k_ (hs_).symm).1) (fun hs_ => (HO299.out.1 k_ (hs_).symm).1)) (fun hn_ => (Nat.le_trans (keep_size (w := w) (g := g) (row := none) (by exact jK HK.out)) hn_)), hk_.2⟩)); replace HK := aM (Kept.keepG (by exact jK HK.out) hkp (fun k_ hs_ => Or.elim hs_ (fun e_ => (fun e_ => .inr (Kd.R_base HO296.out k_ e_.symm)) e_) (fun e_ => (fun e_ => .inr (Kd.R_base HO299.out k_ e_.symm)) e_))); replace HB := aM (hb); clear HO296 HO299; (try clear hb); (try clear hkp); (try clear ho0); (try clear ho1); obtain ⟨Ao64, co64, eo64⟩ := Kd.R_slice HO306.out; subst eo64; obtain ⟨Ao65, co65, eo65⟩ := Kd.R_slice HO303.out; subst eo65) | ((with_reducible refine gate_dst (N := 52) rfl ?_); refine Kd.N_lit k45 _ 45 ?hg (N' := 52) ?hd (xs := ([(⟨3, 0, 0, (⟨t301, t304, t307⟩ : S43)⟩ : S45)] : List (S45))) (inner := [.int .i64 3, .int .i64 0, .int .i64 0, .slice Ao65 t301.length co65, .slice Ao64 t304.length co64, .int .i64 t307]) (ok := (fun k_ => (w.heap.size ≤ k_) ∧ k_ ≠ g)) (okp := (fun k_ => (w.heap.size ≤ k_) ∧ k_ ≠ g)) ?hr ?hp (fun _ hk => hk) ((show ∀ k_, w63.heap.size ≤ k_ → (fun k_ => (w.heap.size ≤ k_) ∧ k_ ≠ g) k_ from fun k_ hk => ⟨(Nat.le_trans (keep_size (w := w) (g := g) (row := none) (by exact jK HK.out)) hk), IsS69.fresh (by exact IsS69.j HI0.out) k_ hk⟩) _ (Nat.le_refl _)) (Below.refl _ _) (Nat.le_refl _) (by simp) ?_; (case hd => rfl); (case hg => rfl); (case hr => first | (go_simp; done) | (go_simp; rfl)); (case hp => exact (Reps.c6 (show Kd.FK k45 _ _ (⟨3, 0, 0, (⟨t301, t304, t307⟩ : S43)⟩ : S45) [.int .i64 3, .int .i64 0, .int .i64 0, .slice Ao65 t301.length co65, .slice Ao64 t304.length co64, .int .i64 t307] from (k45_mkR _ _ (⟨3, 0, 0, (⟨t301, t304, t307⟩ : S43)⟩ : S45) (Kd.R_mono (ok' := (fun k_ => (w.heap.size ≤ k_) ∧ k_ ≠ g)) (IsS69.apart HI0.out (HO303.out) (by decide)) (fun k_ hk => ⟨hk.1.1, hk.2⟩)) (Kd.R_mono (ok' := (fun k_ => (w.heap.size ≤ k_) ∧ k_ ≠ g)) (IsS69.apart HI0.out (HO306.out) (by decide)) (fun k_ hk => ⟨hk.1.1, hk.2⟩)))) (Reps.none _ _))); intro v309 w66 ho67 hb hg_ hnew_; clear hg_ hnew_; (first | rw [← Ny308.out] at ho67 | (simp only [Int.reduceToNat] at ho67; rw [← Ny308.out] at ho67)); replace HO303 := aM (rb HO303.out hb); replace HO306 := aM (rb HO306.out hb); have HO310 := aM (Kd.N_lower ho67 (keep_size (w := w) (g := g) (row := none) (by exact jK HK.out))); replace HI0 := aM (IsS69.below (by exact IsS69.j HI0.out) hb); replace HK := aM (kbl HK.out hb); replace HB := aM (bj HB.out hb); clear hb ho67))
       go_ret
       exact ⟨_, er, by exact lN <| Kd.N_mono HO310.out (fun _ hk => hk.1), by exact IsS69.j HI0.out, by exact jB HB.out, by exact jK HK.out⟩
      ·rw [if_neg c57] at H
       have c57b0 := beq_eq_false_iff_ne.mpr c57
       have c57b1 := bne_iff_ne.mpr c57
       by_cases c68 : t213 = 5
       ·rw [if_pos c68] at H
        have c68b0 := beq_iff_eq.mpr c68
        have c68b1 := bne_eq_false_iff_eq.mpr c68
        clear c68
        obtain ⟨⟨t311, t314, t317⟩, A69, H⟩ := bS H
        try dsimp only at H
        obtain ⟨⟨t318, t321, t324⟩, A70, H⟩ := bS H
        try dsimp only at H
        obtain ⟨⟨t325, t328, t331⟩, A71, H⟩ := bS H
        try dsimp only at H
        obtain ⟨⟨t332, t335, t338⟩, A72, H⟩ := bS H
        try dsimp only at H
        obtain ⟨y339, hy339⟩ : ∃ y_ : List (S45), y_ = (([(⟨1, 0, 1, (⟨t325, t328, t331⟩ : S43)⟩ : S45), (⟨2, 2, 0, (⟨t332, t335, t338⟩ : S43)⟩ : S45)] : List (S45))) := ⟨_, rfl⟩
        try rw [← hy339] at H
        try dsimp only [Option.bind_some] at H
        have Ny339 := aM hy339
        clear hy339
        simp only [Option.some.injEq, Prod.mk.injEq] at H
        obtain ⟨rfl, rfl⟩ := H
        go_wp2_with (first | ((with_reducible refine gate_callee (f := 64) rfl ?_); refine gL (some 55) Try.func64 #[.int .i64 0, .int .i64 1, .int .i64 5] ?_; (with_reducible refine (spec_l20Num.calls 0 1 5 t311 t314 t317 _ A69.out).mono ?_); rintro e w73 ⟨v312, v315, rfl, ho0, ho1, hb⟩; refine ⟨_, rfl, ?_⟩; have HO313 := aM (lwM ho0 HK.out); have HO316 := aM (lwM ho1 HK.out); replace HI0 := aM (IsS69.below (by exact IsS69.j HI0.out) hb); replace HK := aM (kbl HK.out hb); replace HB := aM (bj HB.out hb); (try clear hb); (try clear ho0); (try clear ho1); obtain ⟨Ao74, co74, eo74⟩ := Kd.R_slice HO313.out; subst eo74; obtain ⟨Ao75, co75, eo75⟩ := Kd.R_slice HO316.out; subst eo75) | ((with_reducible refine gate_callee (f := 63) rfl ?_); refine gL (some 56) Try.func63 #[.agg #[.slice Ao74 t311.length co74, .slice Ao75 t314.length co75, .int .i64 t317], .int .i64 0, .int .i64 1] ?_; (with_reducible refine (spec_l20With.calls (fun k_ => some k_ = (.slice Ao74 t311.length co74 : Value).ownBlock) (.slice Ao74 t311.length co74) t311 (fun k_ => some k_ = (.slice Ao75 t314.length co75 : Value).ownBlock) (.slice Ao75 t314.length co75) t314 t317 0 1 t318 t321 t324 w0 _ ?side1 ?side2 ?side3 ?side4 ?side5 A70.out).mono ?_); (case side1 => exact jB HB.out); (case side2 => exact Kd.R_lower (Kd.R_tight rfl HO313.out) HL.out); (case side3 => exact fun k_ e_ => (HO313.out.1 k_ e_.symm).2); (case side4 => exact Kd.R_lower (Kd.R_tight rfl HO316.out) HL.out); (case side5 => exact fun k_ e_ => (HO316.out.1 k_ e_.symm).2); rintro e w76 ⟨v319, v322, rfl, ho0, ho1, hb, hkp⟩; refine ⟨_, rfl, ?_⟩; replace HI0 := aM (IsS69.kept (by exact IsS69.j HI0.out) hkp (fun hs_ => Or.elim hs_ (fun e_ => (fun e_ => (IsS69.own_ne HI0.out HO313.out (by decide)) e_) e_) (fun e_ => (fun e_ => (IsS69.own_ne HI0.out HO316.out (by decide)) e_) e_))); have HO320 := aM (Kd.R_mono (ok' := fun k_ => (w.heap.size ≤ k_) ∧ some k_ ≠ v322.ownBlock) (Kd.R_raise (d := (Kd.int .i64)) (b := w0.heap.size) (b' := w.heap.size) (fun _ _ _ _ h_ => h_) ho0 (fun k_ e_ => Or.elim (ho0.1 k_ e_).1 (fun hs_ => Or.elim hs_ (fun e_ => (fun e_ => Kd.R_base HO313.out k_ e_.symm) e_) (fun e_ => (fun e_ => Kd.R_base HO316.out k_ e_.symm) e_)) (fun hn_ => Nat.le_trans (keep_size (w := w) (g := g) (row := none) (by exact jK HK.out)) hn_))) (fun k_ hk_ => ⟨Or.elim hk_.1 (fun hs_ => Or.elim hs_ (fun hs_ => (HO313.out.1 k_ (hs_).symm).1) (fun hs_ => (HO316.out.1 k_ (hs_).symm).1)) (fun hn_ => (Nat.le_trans (keep_size (w := w) (g := g) (row := none) (by exact jK HK.out)) hn_)), hk_.2⟩)); have HO323 := aM (Kd.R_mono (ok' := fun k_ => (w.heap.size ≤ k_) ∧ some k_ ≠ v319.ownBlock) (Kd.R_raise (d := (Kd.int .i64)) (b := w0.heap.size) (b' := w.heap.size) (fun _ _ _ _ h_ => h_) ho1 (fun k_ e_ => Or.elim (ho1.1 k_ e_).1 (fun hs_ => Or.elim hs_ (fun e_ => (fun e_ => Kd.R_base HO313.out k_ e_.symm) e_) (fun e_ => (fun e_ => Kd.R_base HO316.out k_ e_.symm) e_)) (fun hn_ => Nat.le_trans (keep_size (w := w) (g := g) (row := none) (by exact jK HK.out)) hn_))) (fun k_ hk_ => ⟨Or.elim hk_.1 (fun hs_ => Or.elim hs_ (fun hs_ => (HO313.out.1 k_ (hs_).symm).1) (fun hs_ => (HO316.out.1 k_ (hs_).symm).1)) (fun hn_ => (Nat.le_trans (keep_size (w := w) (g := g) (row := none) (by exact jK HK.out)) hn_)), hk_.2⟩)); replace HK := aM (Kept.keepG (by exact jK HK.out) hkp (fun k_ hs_ => Or.elim hs_ (fun e_ => (fun e_ => .inr (Kd.R_base HO313.out k_ e_.symm)) e_) (fun e_ => (fun e_ => .inr (Kd.R_base HO316.out k_ e_.symm)) e_))); replace HB := aM (hb); clear HO313 HO316; (try clear hb); (try clear hkp); (try clear ho0); (try clear ho1); obtain ⟨Ao77, co77, eo77⟩ := Kd.R_slice HO320.out; subst eo77; obtain ⟨Ao78, co78, eo78⟩ := Kd.R_slice HO323.out; subst eo78) | ((with_reducible refine gate_callee (f := 63) rfl ?_); refine gL (some 57) Try.func63 #[.agg #[.slice Ao77 t318.length co77, .slice Ao78 t321.length co78, .int .i64 t324], .int .i64 1, .int .i64 (-1)] ?_; (with_reducible refine (spec_l20With.calls (fun k_ => some k_ = (.slice Ao77 t318.length co77 : Value).ownBlock) (.slice Ao77 t318.length co77) t318 (fun k_ => some k_ = (.slice Ao78 t321.length co78 : Value).ownBlock) (.slice Ao78 t321.length co78) t321 t324 1 (-1) t325 t328 t331 w0 _ ?side1 ?side2 ?side3 ?side4 ?side5 A71.out).mono ?_); (case side1 => exact jB HB.out); (case side2 => exact Kd.R_lower (Kd.R_tight rfl HO320.out) HL.out); (case side3 => exact fun k_ e_ => (HO320.out.1 k_ e_.symm).2); (case side4 => exact Kd.R_lower (Kd.R_tight rfl HO323.out) HL.out); (case side5 => exact fun k_ e_ => (HO323.out.1 k_ e_.symm).2); rintro e w79 ⟨v326, v329, rfl, ho0, ho1, hb, hkp⟩; refine ⟨_, rfl, ?_⟩; replace HI0 := aM (IsS69.kept (by exact IsS69.j HI0.out) hkp (fun hs_ => Or.elim hs_ (fun e_ => (fun e_ => (IsS69.own_ne HI0.out HO320.out (by decide)) e_) e_) (fun e_ => (fun e_ => (IsS69.own_ne HI0.out HO323.out (by decide)) e_) e_))); have HO327 := aM (Kd.R_mono (ok' := fun k_ => (w.heap.size ≤ k_) ∧ some k_ ≠ v329.ownBlock) (Kd.R_raise (d := (Kd.int .i64)) (b := w0.heap.size) (b' := w.heap.size) (fun _ _ _ _ h_ => h_) ho0 (fun k_ e_ => Or.elim (ho0.1 k_ e_).1 (fun hs_ => Or.elim hs_ (fun e_ => (fun e_ => Kd.R_base HO320.out k_ e_.symm) e_) (fun e_ => (fun e_ => Kd.R_base HO323.out k_ e_.symm) e_)) (fun hn_ => Nat.le_trans (keep_size (w := w) (g := g) (row := none) (by exact jK HK.out)) hn_))) (fun k_ hk_ => ⟨Or.elim hk_.1 (fun hs_ => Or.elim hs_ (fun hs_ => (HO320.out.1 k_ (hs_).symm).1) (fun hs_ => (HO323.out.1 k_ (hs_).symm).1)) (fun hn_ => (Nat.le_trans (keep_size (w := w) (g := g) (row := none) (by exact jK HK.out)) hn_)), hk_.2⟩)); have HO330 := aM (Kd.R_mono (ok' := fun k_ => (w.heap.size ≤ k_) ∧ some k_ ≠ v326.ownBlock) (Kd.R_raise (d := (Kd.int .i64)) (b := w0.heap.size) (b' := w.heap.size) (fun _ _ _ _ h_ => h_) ho1 (fun k_ e_ => Or.elim (ho1.1 k_ e_).1 (fun hs_ => Or.elim hs_ (fun e_ => (fun e_ => Kd.R_base HO320.out k_ e_.symm) e_) (fun e_ => (fun e_ => Kd.R_base HO323.out k_ e_.symm) e_)) (fun hn_ => Nat.le_trans (keep_size (w := w) (g := g) (row := none) (by exact jK HK.out)) hn_))) (fun k_ hk_ => ⟨Or.elim hk_.1 (fun hs_ => Or.elim hs_ (fun hs_ => (HO320.out.1 k_ (hs_).symm).1) (fun hs_ => (HO323.out.1 k_ (hs_).symm).1)) (fun hn_ => (Nat.le_trans (keep_size (w := w) (g := g) (row := none) (by exact jK HK.out)) hn_)), hk_.2⟩)); replace HK := aM (Kept.keepG (by exact jK HK.out) hkp (fun k_ hs_ => Or.elim hs_ (fun e_ => (fun e_ => .inr (Kd.R_base HO320.out k_ e_.symm)) e_) (fun e_ => (fun e_ => .inr (Kd.R_base HO323.out k_ e_.symm)) e_))); replace HB := aM (hb); clear HO320 HO323; (try clear hb); (try clear hkp); (try clear ho0); (try clear ho1); obtain ⟨Ao80, co80, eo80⟩ := Kd.R_slice HO330.out; subst eo80; obtain ⟨Ao81, co81, eo81⟩ := Kd.R_slice HO327.out; subst eo81) | ((with_reducible refine gate_callee (f := 64) rfl ?_); refine gL (some 59) Try.func64 #[.int .i64 0, .int .i64 0, .int .i64 1] ?_; (with_reducible refine (spec_l20Num.calls 0 0 1 t332 t335 t338 _ A72.out).mono ?_); rintro e w82 ⟨v333, v336, rfl, ho0, ho1, hb⟩; refine ⟨_, rfl, ?_⟩; have HO334 := aM (Kd.R_lower (Kd.R_new' (Kd.R_new' (Kd.R_newM (M := fun k_ => (w.heap.size ≤ k_)) ho0 (keep_size (w := w) (g := g) (row := none) (by exact jK HK.out)) (fun k_ h_ => h_)) (rl HO327.out)) (rl HO330.out)) (keep_size (w := w) (g := g) (row := none) (by exact jK HK.out))); have HO337 := aM (Kd.R_lower (Kd.R_new' (Kd.R_new' (Kd.R_newM (M := fun k_ => (w.heap.size ≤ k_)) ho1 (keep_size (w := w) (g := g) (row := none) (by exact jK HK.out)) (fun k_ h_ => h_)) (rl HO327.out)) (rl HO330.out)) (keep_size (w := w) (g := g) (row := none) (by exact jK HK.out))); replace HO327 := aM (o2 HO327.out hb ho0 ho1); replace HO330 := aM (o2 HO330.out hb ho0 ho1); replace HI0 := aM (IsS69.below (by exact IsS69.j HI0.out) hb); replace HK := aM (kbl HK.out hb); replace HB := aM (bj HB.out hb); (try clear hb); (try clear ho0); (try clear ho1); obtain ⟨Ao83, co83, eo83⟩ := Kd.R_slice HO337.out; subst eo83; obtain ⟨Ao84, co84, eo84⟩ := Kd.R_slice HO334.out; subst eo84) | ((with_reducible refine gate_dst (N := 61) rfl ?_); refine Kd.N_lit k45 _ 45 ?hg (N' := 61) ?hd (xs := ([(⟨1, 0, 1, (⟨t325, t328, t331⟩ : S43)⟩ : S45), (⟨2, 2, 0, (⟨t332, t335, t338⟩ : S43)⟩ : S45)] : List (S45))) (inner := [.int .i64 1, .int .i64 0, .int .i64 1, .slice Ao81 t325.length co81, .slice Ao80 t328.length co80, .int .i64 t331, .int .i64 2, .int .i64 2, .int .i64 0, .slice Ao84 t332.length co84, .slice Ao83 t335.length co83, .int .i64 t338]) (ok := (fun k_ => (w.heap.size ≤ k_) ∧ k_ ≠ g)) (okp := (fun k_ => (w.heap.size ≤ k_) ∧ k_ ≠ g)) ?hr ?hp (fun _ hk => hk) ((show ∀ k_, w82.heap.size ≤ k_ → (fun k_ => (w.heap.size ≤ k_) ∧ k_ ≠ g) k_ from fun k_ hk => ⟨(Nat.le_trans (keep_size (w := w) (g := g) (row := none) (by exact jK HK.out)) hk), IsS69.fresh (by exact IsS69.j HI0.out) k_ hk⟩) _ (Nat.le_refl _)) (Below.refl _ _) (Nat.le_refl _) (by simp) ?_; (case hd => rfl); (case hg => rfl); (case hr => first | (go_simp; done) | (go_simp; rfl)); (case hp => exact (Reps.c6 (show Kd.FK k45 _ _ (⟨1, 0, 1, (⟨t325, t328, t331⟩ : S43)⟩ : S45) [.int .i64 1, .int .i64 0, .int .i64 1, .slice Ao81 t325.length co81, .slice Ao80 t328.length co80, .int .i64 t331] from (k45_mkR _ _ (⟨1, 0, 1, (⟨t325, t328, t331⟩ : S43)⟩ : S45) (Kd.R_mono (ok' := (fun k_ => (w.heap.size ≤ k_) ∧ k_ ≠ g)) (IsS69.apart HI0.out (HO327.out) (by decide)) (fun k_ hk => ⟨hk.1.1.1.1, hk.2⟩)) (Kd.R_mono (ok' := (fun k_ => (w.heap.size ≤ k_) ∧ k_ ≠ g)) (IsS69.apart HI0.out (HO330.out) (by decide)) (fun k_ hk => ⟨hk.1.1.1.1, hk.2⟩)))) (Reps.c6 (show Kd.FK k45 _ _ (⟨2, 2, 0, (⟨t332, t335, t338⟩ : S43)⟩ : S45) [.int .i64 2, .int .i64 2, .int .i64 0, .slice Ao84 t332.length co84, .slice Ao83 t335.length co83, .int .i64 t338] from (k45_mkR _ _ (⟨2, 2, 0, (⟨t332, t335, t338⟩ : S43)⟩ : S45) (Kd.R_mono (ok' := (fun k_ => (w.heap.size ≤ k_) ∧ k_ ≠ g)) (IsS69.apart HI0.out (HO334.out) (by decide)) (fun k_ hk => ⟨hk.1.1.1.1, hk.2⟩)) (Kd.R_mono (ok' := (fun k_ => (w.heap.size ≤ k_) ∧ k_ ≠ g)) (IsS69.apart HI0.out (HO337.out) (by decide)) (fun k_ hk => ⟨hk.1.1.1.1, hk.2⟩)))) (Reps.none _ _)))); intro v340 w85 ho86 hb hg_ hnew_; clear hg_ hnew_; (first | rw [← Ny339.out] at ho86 | (simp only [Int.reduceToNat] at ho86; rw [← Ny339.out] at ho86)); replace HO327 := aM (rb HO327.out hb); replace HO330 := aM (rb HO330.out hb); replace HO334 := aM (rb HO334.out hb); replace HO337 := aM (rb HO337.out hb); have HO341 := aM (Kd.N_lower ho86 (keep_size (w := w) (g := g) (row := none) (by exact jK HK.out))); replace HI0 := aM (IsS69.below (by exact IsS69.j HI0.out) hb); replace HK := aM (kbl HK.out hb); replace HB := aM (bj HB.out hb); clear hb ho86))
        go_ret
        exact ⟨_, er, by exact lN <| Kd.N_mono HO341.out (fun _ hk => hk.1), by exact IsS69.j HI0.out, by exact jB HB.out, by exact jK HK.out⟩
       ·rw [if_neg c68] at H
        have c68b0 := beq_eq_false_iff_ne.mpr c68
        have c68b1 := bne_iff_ne.mpr c68
        obtain ⟨y342, hy342⟩ : ∃ y_ : List (S45), y_ = (([] : List (S45))) := ⟨_, rfl⟩
        replace H : ((spec_l20Rd_pick.f kj3 s0_0 t214 5).bind fun bt345 => (spec_l20Act.l0 kj3 y342 (wrap64 (1 + bt345.1)) s0_0 bt345.2)) = some (r1, r2) := by first | (rw [hy342]; exact H) | exact H
        have Ny342 := aM hy342
        clear hy342
        obtain ⟨⟨t345, t346⟩, A87, H⟩ := bS H
        try dsimp only at H
        have H' := aM H
        clear H
        go_wp2_with (first | ((with_reducible refine gate_dst (N := 62) rfl ?_); refine Kd.N_lit k45 _ 45 ?hg (N' := 62) ?hd (xs := ([] : List (S45))) (inner := []) (ok := (fun k_ => (w.heap.size ≤ k_) ∧ k_ ≠ g)) (okp := (fun k_ => (w.heap.size ≤ k_) ∧ k_ ≠ g)) ?hr ?hp (fun _ hk => hk) ((show ∀ k_, wc.heap.size ≤ k_ → (fun k_ => (w.heap.size ≤ k_) ∧ k_ ≠ g) k_ from fun k_ hk => ⟨(Nat.le_trans (keep_size (w := w) (g := g) (row := none) (by exact jK HK.out)) hk), IsS69.fresh (by exact IsS69.j HI0.out) k_ hk⟩) _ (Nat.le_refl _)) (Below.refl _ _) (Nat.le_refl _) (by simp) ?_; (case hd => rfl); (case hg => rfl); (case hr => first | (go_simp; done) | (go_simp; rfl)); (case hp => exact (Reps.none _ _)); intro v343 w88 ho89 hb hg_ hnew_; clear hg_ hnew_; (first | rw [← Ny342.out] at ho89 | (simp only [Int.reduceToNat] at ho89; rw [← Ny342.out] at ho89)); have HO344 := aM (Kd.N_lower ho89 (keep_size (w := w) (g := g) (row := none) (by exact jK HK.out))); replace HI0 := aM (IsS69.below (by exact IsS69.j HI0.out) hb); replace HK := aM (kbl HK.out hb); replace HB := aM (bj HB.out hb); clear hb ho89) | ((with_reducible refine gate_callee (f := 20) rfl ?_); refine gL (some 64) Try.func20 #[.pointer (some ⟨g, 0, none⟩), .int .i64 5] ?_; (with_reducible refine (spec_l20Rd_pick.calls kj3 g s0_0 t214 5 t345 t346 w0 _ ?side1 ?side2 A87.out).mono ?_); (case side1 => exact IsS69.j HI0.out); (case side2 => exact jB HB.out); rintro e w90 ⟨rfl, hi, hb, hk⟩; refine ⟨_, rfl, ?_⟩; replace HO344 := aM (Kd.N_mono (Kd.N_keep (Kd.N_mono (ok := fun k_ => (((w.heap.size ≤ k_)) ∧ k_ ≠ g)) (by exact lN <| HO344.out) (fun k_ hk_ => (⟨hk_, hk_.2⟩ : _ ∧ k_ ≠ g))) hk (fun _ h => h.2)) (fun _ h => h.1)); replace HK := aM (kt HK.out hk); replace HB := aM (hb); replace HI0 := aM (hi); (try clear hb hk hi)))
        go_loopg [4, 5] kj3 (fun kq v4 v5 w' => ∃ (x4_2 : List (S45)) (x5_2 : Int) (x1001_2 : Int), v5 = .int .i64 x5_2 ∧ Aside0 (spec_l20Act.l0 kq x4_2 x5_2 s0_0 x1001_2 = some (r1, r2)) ∧ Aside0 (kq ≤ kj3) ∧ Aside0 (Kd.N k45 45 w' w.heap.size (fun k_ => (w.heap.size ≤ k_) ∧ k_ ≠ g) v4 x4_2) ∧ Aside0 (IsS69 w0 w' g s0_0 x1001_2) ∧ Aside0 (KeepBut w w' g none) ∧ Aside0 (Below w0.heap.size w0 w'))
        case atStart => exact ⟨(y342), (wrap64 (1 + t345)), (t346), (by first | rfl | (simp; done) | (simp [*]; done)), H', ⟨Nat.le_refl _⟩, ⟨by exact lN <| HO344.out⟩, ⟨by exact IsS69.j HI0.out⟩, ⟨by exact jK HK.out⟩, ⟨by exact jB HB.out⟩⟩
        case round =>
         clear H'
         try clear c2
         try clear p2
         try clear c3
         try clear c5
         try clear c6
         try clear p6
         try clear c7
         try clear c7b0
         try clear c7b1
         try clear c8
         try clear c20
         try clear c31
         try clear c31b0
         try clear c31b1
         try clear c38
         try clear c38b0
         try clear c38b1
         try clear c53
         try clear c57
         try clear c57b0
         try clear c57b1
         try clear c63
         try clear c64
         try clear p64
         try clear c68
         try clear c68b0
         try clear c68b1
         try clear p2
         obtain ⟨x4_2, x5_2, x1001_2, rfl, HA, HK2, HO_4, HI0, HK, HB⟩ := hrel
         cases gk with
         | zero => exact absurd HA.out (by simp [spec_l20Act.l0])
         | succ k2 =>
          have H := HA.out
          clear HA
          simp only [spec_l20Act.l0] at H
          by_cases c91 : x5_2 > 0
          ·rw [if_pos c91] at H
           have c91b0 := decide_eq_true c91
           clear c91
           obtain ⟨⟨t347, t348, t349, t350, t353, t356, t357⟩, A92, H⟩ := bS H
           try dsimp only at H
           obtain ⟨y359, hy359⟩ : ∃ y_ : List (S45), y_ = (([] : List (S45))) := ⟨_, rfl⟩
           replace H : (if y359.length + x4_2.length < 1759218604441 then ((some (y359 ++ x4_2 : List (S45))).bind fun y362 => ((some (([(⟨t347, t348, t349, (⟨t350, t353, t356⟩ : S43)⟩ : S45)] : List (S45)) : List (S45))).bind fun y365 => (if y362.length + y365.length < 1759218604441 then ((spec_ActOk.f k2 (y362 ++ y365)).bind fun t371 => (if t371 = true then ((some (([(⟨t347, t348, t349, (⟨t350, t353, t356⟩ : S43)⟩ : S45)] : List (S45)) : List (S45))).bind fun y372 => (if x4_2.length + y372.length < 1759218604441 then (spec_l20Act.l0 k2 (x4_2 ++ y372) (wrap64 (x5_2 - 1)) s0_0 t357) else (none))) else (spec_l20Act.l0 k2 x4_2 (wrap64 (x5_2 - 1)) s0_0 t357))) else (none)))) else (none)) = some (r1, r2) := by first | (rw [hy359]; exact H) | exact H
           have Ny359 := aM hy359
           clear hy359
           by_cases c93 : y359.length + x4_2.length < 1759218604441
           ·rw [if_pos c93] at H
            have LMc93 := aM c93
            clear c93
            obtain ⟨y362, hy362⟩ : ∃ y_ : List (S45), y_ = (y359 ++ x4_2) := ⟨_, rfl⟩
            try rw [← hy362] at H
            try dsimp only [Option.bind_some] at H
            have Ny362 := aM hy362
            clear hy362
            obtain ⟨y365, hy365⟩ : ∃ y_ : List (S45), y_ = (([(⟨t347, t348, t349, (⟨t350, t353, t356⟩ : S43)⟩ : S45)] : List (S45))) := ⟨_, rfl⟩
            replace H : (if y362.length + y365.length < 1759218604441 then ((spec_ActOk.f k2 (y362 ++ y365)).bind fun t371 => (if t371 = true then ((some (([(⟨t347, t348, t349, (⟨t350, t353, t356⟩ : S43)⟩ : S45)] : List (S45)) : List (S45))).bind fun y372 => (if x4_2.length + y372.length < 1759218604441 then (spec_l20Act.l0 k2 (x4_2 ++ y372) (wrap64 (x5_2 - 1)) s0_0 t357) else (none))) else (spec_l20Act.l0 k2 x4_2 (wrap64 (x5_2 - 1)) s0_0 t357))) else (none)) = some (r1, r2) := by first | (rw [hy365]; exact H) | exact H
            have Ny365 := aM hy365
            clear hy365
            by_cases c94 : y362.length + y365.length < 1759218604441
            ·rw [if_pos c94] at H
             have LMc94 := aM c94
             clear c94
             obtain ⟨y368, hy368⟩ : ∃ y_ : List (S45), y_ = (y362 ++ y365) := ⟨_, rfl⟩
             try rw [← hy368] at H
             try dsimp only [Option.bind_some] at H
             have Ny368 := aM hy368
             clear hy368
             obtain ⟨t371, A95, H⟩ := bS H
             try dsimp only at H
             by_cases c96 : t371 = true
             ·subst c96
              rw [if_pos rfl] at H
              try dsimp only at H
              obtain ⟨y372, hy372⟩ : ∃ y_ : List (S45), y_ = (([(⟨t347, t348, t349, (⟨t350, t353, t356⟩ : S43)⟩ : S45)] : List (S45))) := ⟨_, rfl⟩
              replace H : (if x4_2.length + y372.length < 1759218604441 then (spec_l20Act.l0 k2 (x4_2 ++ y372) (wrap64 (x5_2 - 1)) s0_0 t357) else (none)) = some (r1, r2) := by first | (rw [hy372]; exact H) | exact H
              have Ny372 := aM hy372
              clear hy372
              by_cases c97 : x4_2.length + y372.length < 1759218604441
              ·rw [if_pos c97] at H
               have LMc97 := aM c97
               clear c97
               obtain ⟨y375, hy375⟩ : ∃ y_ : List (S45), y_ = (x4_2 ++ y372) := ⟨_, rfl⟩
               try rw [← hy375] at H
               try dsimp only [Option.bind_some] at H
               have Ny375 := aM hy375
               clear hy375
               have H' := aM H
               clear H
               try go_wp2_with (first | ((with_reducible refine gate_callee (f := 65) rfl ?_); refine gL (some 71) Try.func65 #[.pointer (some ⟨g, 0, none⟩)] ?_; (with_reducible refine (spec_l20Line.calls k2 g s0_0 x1001_2 t347 t348 t349 t350 t353 t356 t357 w0 _ ?side1 ?side2 A92.out).mono ?_); (case side1 => exact IsS69.j HI0.out); (case side2 => exact jB HB.out); rintro e w98 ⟨v351, v354, rfl, ho0, ho1, hi, hb, hk⟩; refine ⟨_, rfl, ?_⟩; replace HO_4 := aM (Kd.N_mono (Kd.N_told (Kd.N_told (Kd.N_oldK (Kd.N_mono (ok := fun k_ => (((w.heap.size ≤ k_)) ∧ k_ ≠ g)) (by exact lN <| HO_4.out) (fun k_ hk_ => (⟨hk_, hk_.2⟩ : _ ∧ k_ ≠ g))) hk) (Kd.R_base ho0)) (Kd.R_base ho1)) (fun _ h_ => h_.1)); have HO352 := aM (lwM ho0 HK.out); have HO355 := aM (lwM ho1 HK.out); replace HK := aM (kt HK.out hk); replace HB := aM (hb); replace HI0 := aM (hi); (try clear hb hk hi); (try clear ho0); (try clear ho1)) | ((with_reducible refine gate_dst (N := 6) rfl ?_); refine bx 6 #[.int .i64 0, .int .i64 0, .int .i64 0, .slice none 0 0, .slice none 0 0, .int .i64 0] 45 ?_; intro gb358 hg w99 hbox hb; replace HO_4 := aM (Kd.N_below (Kd.N_elderB (by exact lN <| HO_4.out) gb358 (Nat.le_of_eq hg.symm)) hb); replace HO352 := aM (rb HO352.out hb); replace HO355 := aM (rb HO355.out hb); replace HB := aM (bj HB.out hb); have BK358 := aM (hbox); have GW358 := aM ((gk hg HK.out)); have IGW358 : Nonempty _ := ⟨GW358.out⟩; have GE358 := aM ((Nat.le_trans HW0.out (gk hg HK.out) : w0.heap.size ≤ gb358)); have IGE358 : Nonempty _ := ⟨GE358.out⟩; replace HK := aM (kbl HK.out hb); have NB0_358 := aM ((by rw [hg]; exact Nat.ne_of_lt (IsS69.lt (show IsS69 w0 _ g s0_0 t357 from by exact IsS69.j HI0.out)) : g ≠ gb358)); have INB0_358 : Nonempty _ := ⟨NB0_358.out⟩; have NB358_0 := aM ((by rw [hg]; exact Nat.ne_of_gt (IsS69.lt (show IsS69 w0 _ g s0_0 t357 from by exact IsS69.j HI0.out)) : gb358 ≠ g)); replace HI0 := aM (IsS69.below (by exact IsS69.j HI0.out) hb); clear hb hbox hg; have hnb100 := NB358_0.out; have hnc100 := NB0_358.out; obtain ⟨hcz101_0, hcz101_1, hcz101_2, hcz101_3, hcz101_4, hcz101_5, hfz101_0, hfz101_1, hfz101_2, hfz101_3, hfz101_4, hfz101_5⟩ := cf6 BK358.out; obtain ⟨Ao102, co102, eo102⟩ := Kd.R_slice HO352.out; subst eo102; obtain ⟨Ao103, co103, eo103⟩ := Kd.R_slice HO355.out; subst eo103; obtain ⟨Ao104, co104, eo104⟩ := Kd.N_slice HO_4.out; subst eo104))
               have n0_ : Aside0 (Kd.N k45 45 ((((((w99.setCell ⟨gb358, 0, none⟩ (.int .i64 t347)).setCell ⟨gb358, 1, none⟩ (.int .i64 t348)).setCell ⟨gb358, 2, none⟩ (.int .i64 t349)).setCell ⟨gb358, 3, none⟩ (.slice Ao102 t350.length co102)).setCell ⟨gb358, 4, none⟩ (.slice Ao103 t353.length co103)).setCell ⟨gb358, 5, none⟩ (.int .i64 t356)) w.heap.size (fun k_ => (w.heap.size ≤ k_) ∧ some k_ ≠ ownBlock (.slice Ao102 t350.length co102) ∧ some k_ ≠ ownBlock (.slice Ao103 t353.length co103) ∧ k_ ≠ g ∧ k_ ≠ gb358) (.slice Ao104 x4_2.length co104) x4_2) := ⟨by exact lN <| Kd.N_mono (Kd.N_far (p := ⟨gb358, 5, none⟩) (Kd.N_far (p := ⟨gb358, 4, none⟩) (Kd.N_far (p := ⟨gb358, 3, none⟩) (Kd.N_far (p := ⟨gb358, 2, none⟩) (Kd.N_far (p := ⟨gb358, 1, none⟩) (Kd.N_far (p := ⟨gb358, 0, none⟩) (Kd.N_mono HO_4.out (fun k_ hk => (⟨hk, hk.2⟩ : _ ∧ k_ ≠ gb358))) (fun _ hk => hk.2) (.int .i64 t347)) (fun _ hk => hk.2) (.int .i64 t348)) (fun _ hk => hk.2) (.int .i64 t349)) (fun _ hk => hk.2) (.slice Ao102 t350.length co102)) (fun _ hk => hk.2) (.slice Ao103 t353.length co103)) (fun _ hk => hk.2) (.int .i64 t356)) (fun _ hk => ⟨hk.1.1.1.1.1, ⟨hk.1.1.1.2, ⟨hk.1.1.2, ⟨hk.1.1.1.1.2, hk.1.2⟩⟩⟩⟩)⟩
               have n1_ := aM (Kd.R_mono (ok' := (fun k_ => (w.heap.size ≤ k_) ∧ some k_ ≠ ownBlock (.slice Ao103 t353.length co103))) (R6 (w := w99) (x := (.int .i64 t347)) (y := (.int .i64 t348)) (z := (.int .i64 t349)) (u := (.slice Ao102 t350.length co102)) (v := (.slice Ao103 t353.length co103)) (t := (.int .i64 t356)) (lR HO352.out) (lK BK358.out)) (fun _ hk => ⟨hk.1, hk.2⟩))
               have n2_ := aM (Kd.R_mono (ok' := (fun k_ => (w.heap.size ≤ k_) ∧ some k_ ≠ ownBlock (.slice Ao102 t350.length co102))) (R6 (w := w99) (x := (.int .i64 t347)) (y := (.int .i64 t348)) (z := (.int .i64 t349)) (u := (.slice Ao102 t350.length co102)) (v := (.slice Ao103 t353.length co103)) (t := (.int .i64 t356)) (lR HO355.out) (lK BK358.out)) (fun _ hk => ⟨hk.1, hk.2⟩))
               have n3_ := aM (p6 (w := w99) (x := (.int .i64 t347)) (y := (.int .i64 t348)) (z := (.int .i64 t349)) (u := (.slice Ao102 t350.length co102)) (v := (.slice Ao103 t353.length co103)) (t := (.int .i64 t356)) (lK BK358.out))
               have n4_ : Aside0 (IsS69 w0 ((((((w99.setCell ⟨gb358, 0, none⟩ (.int .i64 t347)).setCell ⟨gb358, 1, none⟩ (.int .i64 t348)).setCell ⟨gb358, 2, none⟩ (.int .i64 t349)).setCell ⟨gb358, 3, none⟩ (.slice Ao102 t350.length co102)).setCell ⟨gb358, 4, none⟩ (.slice Ao103 t353.length co103)).setCell ⟨gb358, 5, none⟩ (.int .i64 t356)) g s0_0 t357) := ⟨by exact IsS69.j HI0.out⟩
               have n5_ : Aside0 (KeepBut w ((((((w99.setCell ⟨gb358, 0, none⟩ (.int .i64 t347)).setCell ⟨gb358, 1, none⟩ (.int .i64 t348)).setCell ⟨gb358, 2, none⟩ (.int .i64 t349)).setCell ⟨gb358, 3, none⟩ (.slice Ao102 t350.length co102)).setCell ⟨gb358, 4, none⟩ (.slice Ao103 t353.length co103)).setCell ⟨gb358, 5, none⟩ (.int .i64 t356)) g none) := ⟨by exact jK HK.out⟩
               have n6_ : Aside0 (Below w0.heap.size w0 ((((((w99.setCell ⟨gb358, 0, none⟩ (.int .i64 t347)).setCell ⟨gb358, 1, none⟩ (.int .i64 t348)).setCell ⟨gb358, 2, none⟩ (.int .i64 t349)).setCell ⟨gb358, 3, none⟩ (.slice Ao102 t350.length co102)).setCell ⟨gb358, 4, none⟩ (.slice Ao103 t353.length co103)).setCell ⟨gb358, 5, none⟩ (.int .i64 t356))) := ⟨by exact jB HB.out⟩
               (try clear HO_4)
               (try clear HO352)
               (try clear HO355)
               (try clear BK358)
               (try clear HI0)
               (try clear HK)
               (try clear HB)
               generalize ((((((w99.setCell ⟨gb358, 0, none⟩ (.int .i64 t347)).setCell ⟨gb358, 1, none⟩ (.int .i64 t348)).setCell ⟨gb358, 2, none⟩ (.int .i64 t349)).setCell ⟨gb358, 3, none⟩ (.slice Ao102 t350.length co102)).setCell ⟨gb358, 4, none⟩ (.slice Ao103 t353.length co103)).setCell ⟨gb358, 5, none⟩ (.int .i64 t356)) = w105 at n0_ n1_ n2_ n3_ n4_ n5_ n6_ ⊢
               have HO_4 := n0_
               have HO352 := n1_
               have HO355 := n2_
               have BK358 := n3_
               have HI0 := n4_
               have HK := n5_
               have HB := n6_
               clear n0_ n1_ n2_ n3_ n4_ n5_ n6_
               replace HO_4 := aM (Kd.N_drew HO_4.out)
               replace HO352 := aM (Kd.R_drew HO352.out)
               replace HO355 := aM (Kd.R_drew HO355.out)
               replace BK358 := aM (blk_drew BK358.out)
               replace HI0 := aM (IsS69.drew HI0.out)
               replace HK := aM (keep_drew HK.out)
               replace HB := aM (below_drew1 HB.out)
               refine start_ (n := 7) (S := fun w' => w'.cell? ⟨gb358, 0, none⟩ = some (.int .i64 t347) ∧ w'.cell? ⟨gb358, 1, none⟩ = some (.int .i64 t348) ∧ w'.cell? ⟨gb358, 2, none⟩ = some (.int .i64 t349) ∧ w'.cell? ⟨gb358, 3, none⟩ = some (.slice Ao102 t350.length co102) ∧ w'.cell? ⟨gb358, 4, none⟩ = some (.slice Ao103 t353.length co103) ∧ w'.cell? ⟨gb358, 5, none⟩ = some (.int .i64 t356)) (ds := []) #[false, false, false, false, false, false, false] (by kernel_rfl) rfl rfl (cz6 BK358.out) (fun hHeld => ?_)
               generalize w105.drew = w106 at HO_4 HO352 HO355 BK358 HI0 HK HB hHeld ⊢
               refine pure_ (i := 1) (N := some 73) (v := ?_) (a' := ?_) #[false, true, false, false, false, false, false] rfl rfl (by kernel_rfl) (fun _ _ _ h => h) (Or.inl ⟨by rfl, ?_⟩) ?_ ?_
               rotate_left
               ·intro w'
                go_simp
                with_reducible rfl
               rotate_left
               ·simp only [Act.put, sA, s0, sS, i64_w, i32_w]
                rfl
               refine take_ (i := 3) (N := some 75) (v := ?_) (a' := ?_) #[false, true, false, true, false, false, false] rfl rfl (by kernel_rfl) (fun _ _ _ h => h) (Or.inl ⟨by rfl, ?_⟩) hHeld ?_ ?_
               rotate_left
               ·rintro w' ⟨s0, s1, s2, s3, s4, s5⟩
                go_simp
                with_reducible rfl
               rotate_left
               ·simp only [Act.put, sA, s0, sS, i64_w, i32_w]
                rfl
               refine join_ (σ := Value × Value × Value) 2 #[true, true, true, true, true, false, false] (fun s_ => [(72, s_.1), (74, s_.2.1), (76, s_.2.2)]) (fun s_ w' => (w'.cell? ⟨gb358, 0, none⟩ = some (.int .i64 t347) ∧ w'.cell? ⟨gb358, 1, none⟩ = some (.int .i64 t348) ∧ w'.cell? ⟨gb358, 2, none⟩ = some (.int .i64 t349) ∧ w'.cell? ⟨gb358, 3, none⟩ = some (.slice Ao102 t350.length co102) ∧ w'.cell? ⟨gb358, 4, none⟩ = some (.slice Ao103 t353.length co103) ∧ w'.cell? ⟨gb358, 5, none⟩ = some (.int .i64 t356)) ∧ (Kd.R (Kd.int .i64) 3 w' w.heap.size (fun k_ => (w.heap.size ≤ k_) ∧ some k_ ≠ ownBlock (.slice Ao103 t353.length co103)) (.slice Ao102 t350.length co102) t350) ∧ (Kd.R (Kd.int .i64) 3 w' w.heap.size (fun k_ => (w.heap.size ≤ k_) ∧ some k_ ≠ ownBlock (.slice Ao102 t350.length co102)) (.slice Ao103 t353.length co103) t353) ∧ (Kd.N k45 45 w' w.heap.size (fun k_ => (w.heap.size ≤ k_) ∧ some k_ ≠ ownBlock (.slice Ao102 t350.length co102) ∧ some k_ ≠ ownBlock (.slice Ao103 t353.length co103) ∧ some k_ ≠ (s_.2.2 : Value).ownBlock ∧ k_ ≠ g ∧ k_ ≠ gb358) s_.2.1 y362) ∧ (Kd.N k45 45 w' w.heap.size (fun k_ => (w.heap.size ≤ k_) ∧ some k_ ≠ (s_.2.1 : Value).ownBlock ∧ some k_ ≠ ownBlock (.slice Ao104 x4_2.length co104) ∧ k_ ≠ g ∧ k_ ≠ gb358) s_.2.2 y365) ∧ (Kd.N k45 45 w' w.heap.size (fun k_ => (w.heap.size ≤ k_) ∧ some k_ ≠ ownBlock (.slice Ao102 t350.length co102) ∧ some k_ ≠ ownBlock (.slice Ao103 t353.length co103) ∧ some k_ ≠ (s_.2.1 : Value).ownBlock ∧ some k_ ≠ (s_.2.2 : Value).ownBlock ∧ k_ ≠ g ∧ k_ ≠ gb358) (.slice Ao104 x4_2.length co104) x4_2) ∧ (w'.heap[gb358]? = some (.cells #[.int .i64 t347, .int .i64 t348, .int .i64 t349, .slice Ao102 t350.length co102, .slice Ao103 t353.length co103, .int .i64 t356] 45 (0, 0))) ∧ (IsS69 w0 w' g s0_0 t357) ∧ (KeepBut w w' g none) ∧ (Below w0.heap.size w0 w')) ?_ ?_
               rotate_left
               ·intro hCont
                refine two_ (i := 0) (j := 4) (Ni := some 72) (Nj := some 76) #[true, true, false, true, false, false, false] #[false, true, false, true, true, false, false] rfl rfl rfl rfl (by kernel_rfl) (by decide) (by decide) (fun K hK => ?_) (fun K hK => ?_)
                ·skip
                 refine Kd.N_lit_step k45 _ 45 ?hg (N' := 72) ?hd (xs := ([] : List (S45))) (inner := []) (ok := (fun k_ => (w.heap.size ≤ k_) ∧ some k_ ≠ ownBlock (.slice Ao104 x4_2.length co104) ∧ some k_ ≠ ownBlock (.slice Ao102 t350.length co102) ∧ some k_ ≠ ownBlock (.slice Ao103 t353.length co103) ∧ k_ ≠ gb358 ∧ k_ ≠ g)) (okp := (fun k_ => (w.heap.size ≤ k_) ∧ some k_ ≠ ownBlock (.slice Ao104 x4_2.length co104) ∧ some k_ ≠ ownBlock (.slice Ao102 t350.length co102) ∧ some k_ ≠ ownBlock (.slice Ao103 t353.length co103) ∧ k_ ≠ gb358 ∧ k_ ≠ g)) ?hr ?hp (fun _ hk => hk) ((show ∀ k_, w106.heap.size ≤ k_ → (fun k_ => (w.heap.size ≤ k_) ∧ some k_ ≠ ownBlock (.slice Ao104 x4_2.length co104) ∧ some k_ ≠ ownBlock (.slice Ao102 t350.length co102) ∧ some k_ ≠ ownBlock (.slice Ao103 t353.length co103) ∧ k_ ≠ gb358 ∧ k_ ≠ g) k_ from fun k_ hk => ⟨(Nat.le_trans (keep_size (w := w) (g := g) (row := none) (by exact jK HK.out)) hk), Kd.fresh' (Kd.N_lt (by exact lN <| HO_4.out)) k_ hk, Kd.fresh' (rl HO352.out) k_ hk, Kd.fresh' (rl HO355.out) k_ hk, Kd.freshB (g := gb358) (o := .cells #[.int .i64 t347, .int .i64 t348, .int .i64 t349, .slice Ao102 t350.length co102, .slice Ao103 t353.length co103, .int .i64 t356] 45 (0, 0)) (by exact lK BK358.out) k_ hk, IsS69.fresh (by exact IsS69.j HI0.out) k_ hk⟩) _ (Nat.le_refl _)) (Below.refl _ _) (Nat.le_refl _) (by simp) ?_; (case hd => rfl); (case hg => rfl); (case hr => first | (go_simp; done) | (go_simp; rfl)); (case hp => exact (Reps.none _ _))
                 intro v360 w107 ho108 hb hg_ hnew_
                 clear hg_ hnew_
                 (first | rw [← Ny359.out] at ho108 | (simp only [Int.reduceToNat] at ho108; rw [← Ny359.out] at ho108))
                 replace HO_4 := aM (Kd.N_elder' (by exact lN <| HO_4.out) (Kd.N_base ho108) hb)
                 replace HO352 := aM (rb HO352.out hb)
                 replace HO355 := aM (rb HO355.out hb)
                 have HO361 := aM (Kd.N_lower ho108 (keep_size (w := w) (g := g) (row := none) (by exact jK HK.out)))
                 replace HI0 := aM (IsS69.below (by exact IsS69.j HI0.out) hb)
                 replace BK358 := aM (bb BK358.out hb)
                 replace HK := aM (kbl HK.out hb)
                 replace HB := aM (bj HB.out hb)
                 clear hb ho108
                 refine hK.out _ _ (cz6 BK358.out) (fun hHeld => ?_)
                 clear hK K
                 refine norm_ (a' := ?_) ?_ ?_
                 rotate_left
                 ·show Act.put _ (some 72) _ = _
                  simp only [Act.put, sA, s0, sS, i64_w, i32_w]
                  rfl
                 refine two_ (i := 2) (j := 4) (Ni := some 74) (Nj := some 76) #[true, true, true, true, false, false, false] #[true, true, false, true, true, false, false] rfl rfl rfl rfl (by kernel_rfl) (by decide) (by decide) (fun K hK => ?_) (fun K hK => ?_)
                 ·skip
                  refine Kd.N_append_rows_step k45 w.heap.size (by rfl) (.tmp 72) (.tmp 73) 33 45 (.agg #[(.int .i64 0), (.int .i64 0), (.int .i64 0), (.slice none 0 0), (.slice none 0 0), (.int .i64 0)]) 80 rfl Try.underlying33 info45 rfl (by decide) (by omega) v360 y359 x4_2 _ _ _ (fun k_ => (w.heap.size ≤ k_) ∧ some k_ ≠ ownBlock (.slice Ao102 t350.length co102) ∧ some k_ ≠ ownBlock (.slice Ao103 t353.length co103) ∧ k_ ≠ gb358 ∧ k_ ≠ g) (fun k_ => ((fun k_ => (w.heap.size ≤ k_) ∧ some k_ ≠ ownBlock (.slice Ao102 t350.length co102) ∧ some k_ ≠ ownBlock (.slice Ao103 t353.length co103) ∧ k_ ≠ gb358 ∧ k_ ≠ g)) k_ ∧ some k_ ≠ v360.ownBlock) rfl rfl ?aO ?aR (fun _ hk => hk) ?aF (Below.refl _ _) ?aS ?aL ?_
                  (case aR => exact (by skip; exact Kd.N_F (Kd.N_mono (ok' := (fun k_ => ((fun k_ => (w.heap.size ≤ k_) ∧ some k_ ≠ ownBlock (.slice Ao102 t350.length co102) ∧ some k_ ≠ ownBlock (.slice Ao103 t353.length co103) ∧ k_ ≠ gb358 ∧ k_ ≠ g)) k_ ∧ some k_ ≠ v360.ownBlock)) (HO_4.out) (fun k_ hk => ⟨⟨hk.1.1, ⟨hk.1.2.1, ⟨hk.1.2.2.1, ⟨hk.1.2.2.2.2, hk.1.2.2.2.1⟩⟩⟩⟩, hk.2⟩))))
                  (case aF => exact (fun k_ hk => ⟨(Nat.le_trans (keep_size (w := w) (g := g) (row := none) (by exact jK HK.out)) hk), Kd.fresh' (rl HO352.out) k_ hk, Kd.fresh' (rl HO355.out) k_ hk, Kd.freshB (g := gb358) (o := .cells #[.int .i64 t347, .int .i64 t348, .int .i64 t349, .slice Ao102 t350.length co102, .slice Ao103 t353.length co103, .int .i64 t356] 45 (0, 0)) (by exact lK BK358.out) k_ hk, IsS69.fresh (by exact IsS69.j HI0.out) k_ hk⟩))
                  (case aO => exact (by exact lN <| Kd.N_mono HO361.out (fun _ hk => ⟨hk.1, ⟨hk.2.2.1, ⟨hk.2.2.2.1, ⟨hk.2.2.2.2.1, hk.2.2.2.2.2⟩⟩⟩⟩)))
                  (case aS => exact (keep_size (w := w) (g := g) (row := none) (by exact jK HK.out)))
                  (case aL => have := LMc93.out; omega)
                  intro v363 w109 ho hb hg hat
                  rw [← Ny362.out] at ho
                  replace HO_4 := aM (Kd.N_afterv (ok := (fun k_ => (w.heap.size ≤ k_) ∧ some k_ ≠ ownBlock (.slice Ao102 t350.length co102) ∧ some k_ ≠ ownBlock (.slice Ao103 t353.length co103) ∧ k_ ≠ g ∧ k_ ≠ gb358)) (by exact lN <| HO_4.out) hg hat)
                  replace HI0 := aM (IsS69.grown (by exact IsS69.j HI0.out) hg (IsS69.own_neN HI0.out HO361.out (by decide)))
                  replace HO352 := aM (Kd.R_over' (by exact lR HO352.out) (Kd.N_typed (by exact lN <| HO361.out)) (by decide) hg)
                  replace HO355 := aM (Kd.R_over' (by exact lR HO355.out) (Kd.N_typed (by exact lN <| HO361.out)) (by decide) hg)
                  replace BK358 := aM (blk_grown (g := gb358) (o := .cells #[.int .i64 t347, .int .i64 t348, .int .i64 t349, .slice Ao102 t350.length co102, .slice Ao103 t353.length co103, .int .i64 t356] 45 (0, 0)) (by exact lK BK358.out) hg (Kd.N_away HO361.out (fun _ hk => hk.2.2.2.2.1)))
                  replace HB := aM (below_weaken (by exact jB HB.out) HL.out hb)
                  replace HK := aM (KeepBut.trans (by exact jK HK.out) (KeepBut.of_grown hg g) (Kd.N_base2 HO361.out))
                  have HO364 := aM (ho)
                  clear HO361 ho hb hg hat
                  refine hK.out _ _ (cz6 BK358.out) (fun hHeld => ?_)
                  clear hK K
                  refine norm_ (a' := ?_) ?_ ?_
                  rotate_left
                  ·show Act.put _ (some 74) _ = _
                   simp only [Act.put, sA, s0, sS, i64_w, i32_w]
                   rfl
                  refine one_ (i := 4) (N := some 76) #[true, true, true, true, true, false, false] rfl rfl (by kernel_rfl) (by decide) (fun K hK => ?_)
                  refine Kd.N_lit_step k45 _ 45 ?hg (N' := 76) ?hd (xs := ([(⟨t347, t348, t349, (⟨t350, t353, t356⟩ : S43)⟩ : S45)] : List (S45))) (inner := [.int .i64 t347, .int .i64 t348, .int .i64 t349, .slice Ao102 t350.length co102, .slice Ao103 t353.length co103, .int .i64 t356]) (ok := (fun k_ => (w.heap.size ≤ k_) ∧ some k_ ≠ ownBlock (.slice Ao104 x4_2.length co104) ∧ some k_ ≠ v363.ownBlock ∧ k_ ≠ gb358 ∧ k_ ≠ g)) (okp := (fun k_ => (w.heap.size ≤ k_) ∧ some k_ ≠ ownBlock (.slice Ao104 x4_2.length co104) ∧ some k_ ≠ v363.ownBlock ∧ k_ ≠ gb358 ∧ k_ ≠ g)) ?hr ?hp (fun _ hk => hk) ((show ∀ k_, w109.heap.size ≤ k_ → (fun k_ => (w.heap.size ≤ k_) ∧ some k_ ≠ ownBlock (.slice Ao104 x4_2.length co104) ∧ some k_ ≠ v363.ownBlock ∧ k_ ≠ gb358 ∧ k_ ≠ g) k_ from fun k_ hk => ⟨(Nat.le_trans (keep_size (w := w) (g := g) (row := none) (by exact jK HK.out)) hk), Kd.fresh' (Kd.N_lt (by exact lN <| HO_4.out)) k_ hk, Kd.fresh' (Kd.N_lt (by exact lN <| HO364.out)) k_ hk, Kd.freshB (g := gb358) (o := .cells #[.int .i64 t347, .int .i64 t348, .int .i64 t349, .slice Ao102 t350.length co102, .slice Ao103 t353.length co103, .int .i64 t356] 45 (0, 0)) (by exact lK BK358.out) k_ hk, IsS69.fresh (by exact IsS69.j HI0.out) k_ hk⟩) _ (Nat.le_refl _)) (Below.refl _ _) (Nat.le_refl _) (by simp) ?_; (case hd => rfl); (case hg => rfl); (case hr => first | (go_simp; done) | (go_simp; rfl)); (case hp => exact (Reps.c6 (show Kd.FK k45 _ _ (⟨t347, t348, t349, (⟨t350, t353, t356⟩ : S43)⟩ : S45) [.int .i64 t347, .int .i64 t348, .int .i64 t349, .slice Ao102 t350.length co102, .slice Ao103 t353.length co103, .int .i64 t356] from (k45_mkR _ _ (⟨t347, t348, t349, (⟨t350, t353, t356⟩ : S43)⟩ : S45) (Kd.R_mono (ok' := (fun k_ => (w.heap.size ≤ k_) ∧ some k_ ≠ ownBlock (.slice Ao104 x4_2.length co104) ∧ some k_ ≠ v363.ownBlock ∧ k_ ≠ gb358 ∧ k_ ≠ g)) (IsS69.apart HI0.out (Kd.R_types (Kd.R_apart' (Kd.R_apart' (HO352.out) (Kd.N_typed HO_4.out) (show ∀ q_, q_ ∈ 3 :: ((Kd.int .i64)).E → q_ ≠ 45 from by decide)) (Kd.N_typed HO364.out) (show ∀ q_, q_ ∈ 3 :: ((Kd.int .i64)).E → q_ ≠ 45 from by decide)) BK358.out (by decide)) (by decide)) (fun k_ hk => ⟨hk.1.1.1.1.1, ⟨hk.1.1.1.2, ⟨hk.1.1.2, ⟨hk.1.2, hk.2⟩⟩⟩⟩)) (Kd.R_mono (ok' := (fun k_ => (w.heap.size ≤ k_) ∧ some k_ ≠ ownBlock (.slice Ao104 x4_2.length co104) ∧ some k_ ≠ v363.ownBlock ∧ k_ ≠ gb358 ∧ k_ ≠ g)) (IsS69.apart HI0.out (Kd.R_types (Kd.R_apart' (Kd.R_apart' (HO355.out) (Kd.N_typed HO_4.out) (show ∀ q_, q_ ∈ 3 :: ((Kd.int .i64)).E → q_ ≠ 45 from by decide)) (Kd.N_typed HO364.out) (show ∀ q_, q_ ∈ 3 :: ((Kd.int .i64)).E → q_ ≠ 45 from by decide)) BK358.out (by decide)) (by decide)) (fun k_ hk => ⟨hk.1.1.1.1.1, ⟨hk.1.1.1.2, ⟨hk.1.1.2, ⟨hk.1.2, hk.2⟩⟩⟩⟩)))) (Reps.none _ _)))
                  intro v366 w110 ho111 hb hg_ hnew_
                  clear hg_ hnew_
                  (first | rw [← Ny365.out] at ho111 | (simp only [Int.reduceToNat] at ho111; rw [← Ny365.out] at ho111))
                  replace HO_4 := aM (Kd.N_elder' (by exact lN <| HO_4.out) (Kd.N_base ho111) hb)
                  replace HO352 := aM (rb HO352.out hb)
                  replace HO355 := aM (rb HO355.out hb)
                  replace HO364 := aM (Kd.N_elder' (by exact lN <| HO364.out) (Kd.N_base ho111) hb)
                  have HO367 := aM (Kd.N_lower ho111 (keep_size (w := w) (g := g) (row := none) (by exact jK HK.out)))
                  replace HI0 := aM (IsS69.below (by exact IsS69.j HI0.out) hb)
                  replace BK358 := aM (bb BK358.out hb)
                  replace HK := aM (kbl HK.out hb)
                  replace HB := aM (bj HB.out hb)
                  clear hb ho111
                  refine hK.out _ _ (cz6 BK358.out) (fun hHeld => ?_)
                  clear hK K
                  refine norm_ (a' := ?_) ?_ ?_
                  rotate_left
                  ·show Act.put _ (some 76) _ = _
                   simp only [Act.put, sA, s0, sS, i64_w, i32_w]
                   rfl
                  exact norm_ (by simp only [putAll, Act.put, List.setIfInBounds_toArray, List.set_cons_zero, List.set_cons_succ]) (hCont (v360, v363, v366) _ ⟨hHeld, (by exact lR HO352.out), (by exact lR HO355.out), (by exact lN <| Kd.N_mono HO364.out (fun _ hk => ⟨hk.1.1, ⟨hk.1.2.1, ⟨hk.1.2.2.1, ⟨hk.2, ⟨hk.1.2.2.2.2, hk.1.2.2.2.1⟩⟩⟩⟩⟩)), (by exact lN <| Kd.N_mono HO367.out (fun _ hk => ⟨hk.1, ⟨hk.2.2.1, ⟨hk.2.1, ⟨hk.2.2.2.2, hk.2.2.2.1⟩⟩⟩⟩)), (by exact lN <| Kd.N_mono HO_4.out (fun _ hk => ⟨hk.1.1.1, ⟨hk.1.1.2.1, ⟨hk.1.1.2.2.1, ⟨hk.1.2, ⟨hk.2, ⟨hk.1.1.2.2.2.1, hk.1.1.2.2.2.2⟩⟩⟩⟩⟩⟩)), (by exact lK BK358.out), (by exact IsS69.j HI0.out), (by exact jK HK.out), (by exact jB HB.out)⟩)
                 ·skip
                  refine Kd.N_lit_step k45 _ 45 ?hg (N' := 76) ?hd (xs := ([(⟨t347, t348, t349, (⟨t350, t353, t356⟩ : S43)⟩ : S45)] : List (S45))) (inner := [.int .i64 t347, .int .i64 t348, .int .i64 t349, .slice Ao102 t350.length co102, .slice Ao103 t353.length co103, .int .i64 t356]) (ok := (fun k_ => (w.heap.size ≤ k_) ∧ some k_ ≠ ownBlock (.slice Ao104 x4_2.length co104) ∧ some k_ ≠ v360.ownBlock ∧ k_ ≠ gb358 ∧ k_ ≠ g)) (okp := (fun k_ => (w.heap.size ≤ k_) ∧ some k_ ≠ ownBlock (.slice Ao104 x4_2.length co104) ∧ some k_ ≠ v360.ownBlock ∧ k_ ≠ gb358 ∧ k_ ≠ g)) ?hr ?hp (fun _ hk => hk) ((show ∀ k_, w107.heap.size ≤ k_ → (fun k_ => (w.heap.size ≤ k_) ∧ some k_ ≠ ownBlock (.slice Ao104 x4_2.length co104) ∧ some k_ ≠ v360.ownBlock ∧ k_ ≠ gb358 ∧ k_ ≠ g) k_ from fun k_ hk => ⟨(Nat.le_trans (keep_size (w := w) (g := g) (row := none) (by exact jK HK.out)) hk), Kd.fresh' (Kd.N_lt (by exact lN <| HO_4.out)) k_ hk, Kd.fresh' (Kd.N_lt (by exact lN <| HO361.out)) k_ hk, Kd.freshB (g := gb358) (o := .cells #[.int .i64 t347, .int .i64 t348, .int .i64 t349, .slice Ao102 t350.length co102, .slice Ao103 t353.length co103, .int .i64 t356] 45 (0, 0)) (by exact lK BK358.out) k_ hk, IsS69.fresh (by exact IsS69.j HI0.out) k_ hk⟩) _ (Nat.le_refl _)) (Below.refl _ _) (Nat.le_refl _) (by simp) ?_; (case hd => rfl); (case hg => rfl); (case hr => first | (go_simp; done) | (go_simp; rfl)); (case hp => exact (Reps.c6 (show Kd.FK k45 _ _ (⟨t347, t348, t349, (⟨t350, t353, t356⟩ : S43)⟩ : S45) [.int .i64 t347, .int .i64 t348, .int .i64 t349, .slice Ao102 t350.length co102, .slice Ao103 t353.length co103, .int .i64 t356] from (k45_mkR _ _ (⟨t347, t348, t349, (⟨t350, t353, t356⟩ : S43)⟩ : S45) (Kd.R_mono (ok' := (fun k_ => (w.heap.size ≤ k_) ∧ some k_ ≠ ownBlock (.slice Ao104 x4_2.length co104) ∧ some k_ ≠ v360.ownBlock ∧ k_ ≠ gb358 ∧ k_ ≠ g)) (IsS69.apart HI0.out (Kd.R_types (Kd.R_apart' (Kd.R_apart' (HO352.out) (Kd.N_typed HO_4.out) (show ∀ q_, q_ ∈ 3 :: ((Kd.int .i64)).E → q_ ≠ 45 from by decide)) (Kd.N_typed HO361.out) (show ∀ q_, q_ ∈ 3 :: ((Kd.int .i64)).E → q_ ≠ 45 from by decide)) BK358.out (by decide)) (by decide)) (fun k_ hk => ⟨hk.1.1.1.1.1, ⟨hk.1.1.1.2, ⟨hk.1.1.2, ⟨hk.1.2, hk.2⟩⟩⟩⟩)) (Kd.R_mono (ok' := (fun k_ => (w.heap.size ≤ k_) ∧ some k_ ≠ ownBlock (.slice Ao104 x4_2.length co104) ∧ some k_ ≠ v360.ownBlock ∧ k_ ≠ gb358 ∧ k_ ≠ g)) (IsS69.apart HI0.out (Kd.R_types (Kd.R_apart' (Kd.R_apart' (HO355.out) (Kd.N_typed HO_4.out) (show ∀ q_, q_ ∈ 3 :: ((Kd.int .i64)).E → q_ ≠ 45 from by decide)) (Kd.N_typed HO361.out) (show ∀ q_, q_ ∈ 3 :: ((Kd.int .i64)).E → q_ ≠ 45 from by decide)) BK358.out (by decide)) (by decide)) (fun k_ hk => ⟨hk.1.1.1.1.1, ⟨hk.1.1.1.2, ⟨hk.1.1.2, ⟨hk.1.2, hk.2⟩⟩⟩⟩)))) (Reps.none _ _)))
                  intro v366 w109 ho110 hb hg_ hnew_
                  clear hg_ hnew_
                  (first | rw [← Ny365.out] at ho110 | (simp only [Int.reduceToNat] at ho110; rw [← Ny365.out] at ho110))
                  replace HO_4 := aM (Kd.N_elder' (by exact lN <| HO_4.out) (Kd.N_base ho110) hb)
                  replace HO352 := aM (rb HO352.out hb)
                  replace HO355 := aM (rb HO355.out hb)
                  replace HO361 := aM (Kd.N_elder' (by exact lN <| HO361.out) (Kd.N_base ho110) hb)
                  have HO367 := aM (Kd.N_lower ho110 (keep_size (w := w) (g := g) (row := none) (by exact jK HK.out)))
                  replace HI0 := aM (IsS69.below (by exact IsS69.j HI0.out) hb)
                  replace BK358 := aM (bb BK358.out hb)
                  replace HK := aM (kbl HK.out hb)
                  replace HB := aM (bj HB.out hb)
                  clear hb ho110
                  refine hK.out _ _ (cz6 BK358.out) (fun hHeld => ?_)
                  clear hK K
                  refine norm_ (a' := ?_) ?_ ?_
                  rotate_left
                  ·show Act.put _ (some 76) _ = _
                   simp only [Act.put, sA, s0, sS, i64_w, i32_w]
                   rfl
                  refine one_ (i := 2) (N := some 74) #[true, true, true, true, true, false, false] rfl rfl (by kernel_rfl) (by decide) (fun K hK => ?_)
                  refine Kd.N_append_rows_step k45 w.heap.size (by rfl) (.tmp 72) (.tmp 73) 33 45 (.agg #[(.int .i64 0), (.int .i64 0), (.int .i64 0), (.slice none 0 0), (.slice none 0 0), (.int .i64 0)]) 80 rfl Try.underlying33 info45 rfl (by decide) (by omega) v360 y359 x4_2 _ _ _ (fun k_ => (w.heap.size ≤ k_) ∧ some k_ ≠ ownBlock (.slice Ao102 t350.length co102) ∧ some k_ ≠ ownBlock (.slice Ao103 t353.length co103) ∧ some k_ ≠ v366.ownBlock ∧ k_ ≠ gb358 ∧ k_ ≠ g) (fun k_ => ((fun k_ => (w.heap.size ≤ k_) ∧ some k_ ≠ ownBlock (.slice Ao102 t350.length co102) ∧ some k_ ≠ ownBlock (.slice Ao103 t353.length co103) ∧ some k_ ≠ v366.ownBlock ∧ k_ ≠ gb358 ∧ k_ ≠ g)) k_ ∧ some k_ ≠ v360.ownBlock) rfl rfl ?aO ?aR (fun _ hk => hk) ?aF (Below.refl _ _) ?aS ?aL ?_
                  (case aR => exact (by skip; exact Kd.N_F (Kd.N_mono (ok' := (fun k_ => ((fun k_ => (w.heap.size ≤ k_) ∧ some k_ ≠ ownBlock (.slice Ao102 t350.length co102) ∧ some k_ ≠ ownBlock (.slice Ao103 t353.length co103) ∧ some k_ ≠ v366.ownBlock ∧ k_ ≠ gb358 ∧ k_ ≠ g)) k_ ∧ some k_ ≠ v360.ownBlock)) (HO_4.out) (fun k_ hk => ⟨⟨hk.1.1.1, ⟨hk.1.1.2.1, ⟨hk.1.1.2.2.1, ⟨hk.2, ⟨hk.1.1.2.2.2.2, hk.1.1.2.2.2.1⟩⟩⟩⟩⟩, hk.1.2⟩))))
                  (case aF => exact (fun k_ hk => ⟨(Nat.le_trans (keep_size (w := w) (g := g) (row := none) (by exact jK HK.out)) hk), Kd.fresh' (rl HO352.out) k_ hk, Kd.fresh' (rl HO355.out) k_ hk, Kd.fresh' (Kd.N_lt (by exact lN <| HO367.out)) k_ hk, Kd.freshB (g := gb358) (o := .cells #[.int .i64 t347, .int .i64 t348, .int .i64 t349, .slice Ao102 t350.length co102, .slice Ao103 t353.length co103, .int .i64 t356] 45 (0, 0)) (by exact lK BK358.out) k_ hk, IsS69.fresh (by exact IsS69.j HI0.out) k_ hk⟩))
                  (case aO => exact (by exact lN <| Kd.N_mono HO361.out (fun _ hk => ⟨hk.1.1, ⟨hk.1.2.2.1, ⟨hk.1.2.2.2.1, ⟨hk.2, ⟨hk.1.2.2.2.2.1, hk.1.2.2.2.2.2⟩⟩⟩⟩⟩)))
                  (case aS => exact (keep_size (w := w) (g := g) (row := none) (by exact jK HK.out)))
                  (case aL => have := LMc93.out; omega)
                  intro v363 w111 ho hb hg hat
                  rw [← Ny362.out] at ho
                  replace HO_4 := aM (Kd.N_afterv (ok := (fun k_ => (w.heap.size ≤ k_) ∧ some k_ ≠ ownBlock (.slice Ao102 t350.length co102) ∧ some k_ ≠ ownBlock (.slice Ao103 t353.length co103) ∧ some k_ ≠ v366.ownBlock ∧ k_ ≠ g ∧ k_ ≠ gb358)) (by exact lN <| Kd.N_mono HO_4.out (fun _ hk => ⟨⟨hk.1.1.1, ⟨hk.1.1.2.1, ⟨hk.1.1.2.2.1, ⟨hk.2, ⟨hk.1.1.2.2.2.1, hk.1.1.2.2.2.2⟩⟩⟩⟩⟩, hk.1.2⟩)) hg hat)
                  replace HI0 := aM (IsS69.grown (by exact IsS69.j HI0.out) hg (IsS69.own_neN HI0.out HO361.out (by decide)))
                  replace HO352 := aM (Kd.R_over' (by exact lR HO352.out) (Kd.N_typed (by exact lN <| HO361.out)) (by decide) hg)
                  replace HO355 := aM (Kd.R_over' (by exact lR HO355.out) (Kd.N_typed (by exact lN <| HO361.out)) (by decide) hg)
                  replace BK358 := aM (blk_grown (g := gb358) (o := .cells #[.int .i64 t347, .int .i64 t348, .int .i64 t349, .slice Ao102 t350.length co102, .slice Ao103 t353.length co103, .int .i64 t356] 45 (0, 0)) (by exact lK BK358.out) hg (Kd.N_away HO361.out (fun _ hk => hk.1.2.2.2.2.1)))
                  replace HO367 := aM (Kd.N_afterv (ok := (fun k_ => (w.heap.size ≤ k_) ∧ some k_ ≠ ownBlock (.slice Ao104 x4_2.length co104) ∧ k_ ≠ gb358 ∧ k_ ≠ g)) (by exact lN <| Kd.N_mono HO367.out (fun _ hk => ⟨⟨hk.1, ⟨hk.2.1, ⟨hk.2.2.2.1, hk.2.2.2.2⟩⟩⟩, hk.2.2.1⟩)) hg hat)
                  replace HB := aM (below_weaken (by exact jB HB.out) HL.out hb)
                  replace HK := aM (KeepBut.trans (by exact jK HK.out) (KeepBut.of_grown hg g) (Kd.N_base2 HO361.out))
                  have HO364 := aM (ho)
                  clear HO361 ho hb hg hat
                  refine hK.out _ _ (cz6 BK358.out) (fun hHeld => ?_)
                  clear hK K
                  refine norm_ (a' := ?_) ?_ ?_
                  rotate_left
                  ·show Act.put _ (some 74) _ = _
                   simp only [Act.put, sA, s0, sS, i64_w, i32_w]
                   rfl
                  exact norm_ (by simp only [putAll, Act.put, List.setIfInBounds_toArray, List.set_cons_zero, List.set_cons_succ]) (hCont (v360, v363, v366) _ ⟨hHeld, (by exact lR HO352.out), (by exact lR HO355.out), (by exact lN <| Kd.N_mono HO364.out (fun _ hk => ⟨hk.1, ⟨hk.2.1, ⟨hk.2.2.1, ⟨hk.2.2.2.1, ⟨hk.2.2.2.2.2, hk.2.2.2.2.1⟩⟩⟩⟩⟩)), (by exact lN <| Kd.N_mono HO367.out (fun _ hk => ⟨hk.1.1, ⟨hk.2, ⟨hk.1.2.1, ⟨hk.1.2.2.2, hk.1.2.2.1⟩⟩⟩⟩)), (by exact lN <| Kd.N_mono HO_4.out (fun _ hk => ⟨hk.1.1, ⟨hk.1.2.1, ⟨hk.1.2.2.1, ⟨hk.2, ⟨hk.1.2.2.2.1, ⟨hk.1.2.2.2.2.1, hk.1.2.2.2.2.2⟩⟩⟩⟩⟩⟩)), (by exact lK BK358.out), (by exact IsS69.j HI0.out), (by exact jK HK.out), (by exact jB HB.out)⟩)
                ·skip
                 refine Kd.N_lit_step k45 _ 45 ?hg (N' := 76) ?hd (xs := ([(⟨t347, t348, t349, (⟨t350, t353, t356⟩ : S43)⟩ : S45)] : List (S45))) (inner := [.int .i64 t347, .int .i64 t348, .int .i64 t349, .slice Ao102 t350.length co102, .slice Ao103 t353.length co103, .int .i64 t356]) (ok := (fun k_ => (w.heap.size ≤ k_) ∧ some k_ ≠ ownBlock (.slice Ao104 x4_2.length co104) ∧ k_ ≠ gb358 ∧ k_ ≠ g)) (okp := (fun k_ => (w.heap.size ≤ k_) ∧ some k_ ≠ ownBlock (.slice Ao104 x4_2.length co104) ∧ k_ ≠ gb358 ∧ k_ ≠ g)) ?hr ?hp (fun _ hk => hk) ((show ∀ k_, w106.heap.size ≤ k_ → (fun k_ => (w.heap.size ≤ k_) ∧ some k_ ≠ ownBlock (.slice Ao104 x4_2.length co104) ∧ k_ ≠ gb358 ∧ k_ ≠ g) k_ from fun k_ hk => ⟨(Nat.le_trans (keep_size (w := w) (g := g) (row := none) (by exact jK HK.out)) hk), Kd.fresh' (Kd.N_lt (by exact lN <| HO_4.out)) k_ hk, Kd.freshB (g := gb358) (o := .cells #[.int .i64 t347, .int .i64 t348, .int .i64 t349, .slice Ao102 t350.length co102, .slice Ao103 t353.length co103, .int .i64 t356] 45 (0, 0)) (by exact lK BK358.out) k_ hk, IsS69.fresh (by exact IsS69.j HI0.out) k_ hk⟩) _ (Nat.le_refl _)) (Below.refl _ _) (Nat.le_refl _) (by simp) ?_; (case hd => rfl); (case hg => rfl); (case hr => first | (go_simp; done) | (go_simp; rfl)); (case hp => exact (Reps.c6 (show Kd.FK k45 _ _ (⟨t347, t348, t349, (⟨t350, t353, t356⟩ : S43)⟩ : S45) [.int .i64 t347, .int .i64 t348, .int .i64 t349, .slice Ao102 t350.length co102, .slice Ao103 t353.length co103, .int .i64 t356] from (k45_mkR _ _ (⟨t347, t348, t349, (⟨t350, t353, t356⟩ : S43)⟩ : S45) (Kd.R_mono (ok' := (fun k_ => (w.heap.size ≤ k_) ∧ some k_ ≠ ownBlock (.slice Ao104 x4_2.length co104) ∧ k_ ≠ gb358 ∧ k_ ≠ g)) (IsS69.apart HI0.out (Kd.R_types (Kd.R_apart' (HO352.out) (Kd.N_typed HO_4.out) (show ∀ q_, q_ ∈ 3 :: ((Kd.int .i64)).E → q_ ≠ 45 from by decide)) BK358.out (by decide)) (by decide)) (fun k_ hk => ⟨hk.1.1.1.1, ⟨hk.1.1.2, ⟨hk.1.2, hk.2⟩⟩⟩)) (Kd.R_mono (ok' := (fun k_ => (w.heap.size ≤ k_) ∧ some k_ ≠ ownBlock (.slice Ao104 x4_2.length co104) ∧ k_ ≠ gb358 ∧ k_ ≠ g)) (IsS69.apart HI0.out (Kd.R_types (Kd.R_apart' (HO355.out) (Kd.N_typed HO_4.out) (show ∀ q_, q_ ∈ 3 :: ((Kd.int .i64)).E → q_ ≠ 45 from by decide)) BK358.out (by decide)) (by decide)) (fun k_ hk => ⟨hk.1.1.1.1, ⟨hk.1.1.2, ⟨hk.1.2, hk.2⟩⟩⟩)))) (Reps.none _ _)))
                 intro v366 w107 ho108 hb hg_ hnew_
                 clear hg_ hnew_
                 (first | rw [← Ny365.out] at ho108 | (simp only [Int.reduceToNat] at ho108; rw [← Ny365.out] at ho108))
                 replace HO_4 := aM (Kd.N_elder' (by exact lN <| HO_4.out) (Kd.N_base ho108) hb)
                 replace HO352 := aM (rb HO352.out hb)
                 replace HO355 := aM (rb HO355.out hb)
                 have HO367 := aM (Kd.N_lower ho108 (keep_size (w := w) (g := g) (row := none) (by exact jK HK.out)))
                 replace HI0 := aM (IsS69.below (by exact IsS69.j HI0.out) hb)
                 replace BK358 := aM (bb BK358.out hb)
                 replace HK := aM (kbl HK.out hb)
                 replace HB := aM (bj HB.out hb)
                 clear hb ho108
                 refine hK.out _ _ (cz6 BK358.out) (fun hHeld => ?_)
                 clear hK K
                 refine norm_ (a' := ?_) ?_ ?_
                 rotate_left
                 ·show Act.put _ (some 76) _ = _
                  simp only [Act.put, sA, s0, sS, i64_w, i32_w]
                  rfl
                 refine one_ (i := 0) (N := some 72) #[true, true, false, true, true, false, false] rfl rfl (by kernel_rfl) (by decide) (fun K hK => ?_)
                 refine Kd.N_lit_step k45 _ 45 ?hg (N' := 72) ?hd (xs := ([] : List (S45))) (inner := []) (ok := (fun k_ => (w.heap.size ≤ k_) ∧ some k_ ≠ ownBlock (.slice Ao104 x4_2.length co104) ∧ some k_ ≠ ownBlock (.slice Ao102 t350.length co102) ∧ some k_ ≠ ownBlock (.slice Ao103 t353.length co103) ∧ some k_ ≠ v366.ownBlock ∧ k_ ≠ gb358 ∧ k_ ≠ g)) (okp := (fun k_ => (w.heap.size ≤ k_) ∧ some k_ ≠ ownBlock (.slice Ao104 x4_2.length co104) ∧ some k_ ≠ ownBlock (.slice Ao102 t350.length co102) ∧ some k_ ≠ ownBlock (.slice Ao103 t353.length co103) ∧ some k_ ≠ v366.ownBlock ∧ k_ ≠ gb358 ∧ k_ ≠ g)) ?hr ?hp (fun _ hk => hk) ((show ∀ k_, w107.heap.size ≤ k_ → (fun k_ => (w.heap.size ≤ k_) ∧ some k_ ≠ ownBlock (.slice Ao104 x4_2.length co104) ∧ some k_ ≠ ownBlock (.slice Ao102 t350.length co102) ∧ some k_ ≠ ownBlock (.slice Ao103 t353.length co103) ∧ some k_ ≠ v366.ownBlock ∧ k_ ≠ gb358 ∧ k_ ≠ g) k_ from fun k_ hk => ⟨(Nat.le_trans (keep_size (w := w) (g := g) (row := none) (by exact jK HK.out)) hk), Kd.fresh' (Kd.N_lt (by exact lN <| HO_4.out)) k_ hk, Kd.fresh' (rl HO352.out) k_ hk, Kd.fresh' (rl HO355.out) k_ hk, Kd.fresh' (Kd.N_lt (by exact lN <| HO367.out)) k_ hk, Kd.freshB (g := gb358) (o := .cells #[.int .i64 t347, .int .i64 t348, .int .i64 t349, .slice Ao102 t350.length co102, .slice Ao103 t353.length co103, .int .i64 t356] 45 (0, 0)) (by exact lK BK358.out) k_ hk, IsS69.fresh (by exact IsS69.j HI0.out) k_ hk⟩) _ (Nat.le_refl _)) (Below.refl _ _) (Nat.le_refl _) (by simp) ?_; (case hd => rfl); (case hg => rfl); (case hr => first | (go_simp; done) | (go_simp; rfl)); (case hp => exact (Reps.none _ _))
                 intro v360 w109 ho110 hb hg_ hnew_
                 clear hg_ hnew_
                 (first | rw [← Ny359.out] at ho110 | (simp only [Int.reduceToNat] at ho110; rw [← Ny359.out] at ho110))
                 replace HO_4 := aM (Kd.N_elder' (by exact lN <| HO_4.out) (Kd.N_base ho110) hb)
                 replace HO352 := aM (rb HO352.out hb)
                 replace HO355 := aM (rb HO355.out hb)
                 replace HO367 := aM (Kd.N_elder' (by exact lN <| HO367.out) (Kd.N_base ho110) hb)
                 have HO361 := aM (Kd.N_lower ho110 (keep_size (w := w) (g := g) (row := none) (by exact jK HK.out)))
                 replace HI0 := aM (IsS69.below (by exact IsS69.j HI0.out) hb)
                 replace BK358 := aM (bb BK358.out hb)
                 replace HK := aM (kbl HK.out hb)
                 replace HB := aM (bj HB.out hb)
                 clear hb ho110
                 refine hK.out _ _ (cz6 BK358.out) (fun hHeld => ?_)
                 clear hK K
                 refine norm_ (a' := ?_) ?_ ?_
                 rotate_left
                 ·show Act.put _ (some 72) _ = _
                  simp only [Act.put, sA, s0, sS, i64_w, i32_w]
                  rfl
                 refine one_ (i := 2) (N := some 74) #[true, true, true, true, true, false, false] rfl rfl (by kernel_rfl) (by decide) (fun K hK => ?_)
                 refine Kd.N_append_rows_step k45 w.heap.size (by rfl) (.tmp 72) (.tmp 73) 33 45 (.agg #[(.int .i64 0), (.int .i64 0), (.int .i64 0), (.slice none 0 0), (.slice none 0 0), (.int .i64 0)]) 80 rfl Try.underlying33 info45 rfl (by decide) (by omega) v360 y359 x4_2 _ _ _ (fun k_ => (w.heap.size ≤ k_) ∧ some k_ ≠ ownBlock (.slice Ao102 t350.length co102) ∧ some k_ ≠ ownBlock (.slice Ao103 t353.length co103) ∧ some k_ ≠ v366.ownBlock ∧ k_ ≠ gb358 ∧ k_ ≠ g) (fun k_ => ((fun k_ => (w.heap.size ≤ k_) ∧ some k_ ≠ ownBlock (.slice Ao102 t350.length co102) ∧ some k_ ≠ ownBlock (.slice Ao103 t353.length co103) ∧ some k_ ≠ v366.ownBlock ∧ k_ ≠ gb358 ∧ k_ ≠ g)) k_ ∧ some k_ ≠ v360.ownBlock) rfl rfl ?aO ?aR (fun _ hk => hk) ?aF (Below.refl _ _) ?aS ?aL ?_
                 (case aR => exact (by skip; exact Kd.N_F (Kd.N_mono (ok' := (fun k_ => ((fun k_ => (w.heap.size ≤ k_) ∧ some k_ ≠ ownBlock (.slice Ao102 t350.length co102) ∧ some k_ ≠ ownBlock (.slice Ao103 t353.length co103) ∧ some k_ ≠ v366.ownBlock ∧ k_ ≠ gb358 ∧ k_ ≠ g)) k_ ∧ some k_ ≠ v360.ownBlock)) (HO_4.out) (fun k_ hk => ⟨⟨hk.1.1.1, ⟨hk.1.1.2.1, ⟨hk.1.1.2.2.1, ⟨hk.1.2, ⟨hk.1.1.2.2.2.2, hk.1.1.2.2.2.1⟩⟩⟩⟩⟩, hk.2⟩))))
                 (case aF => exact (fun k_ hk => ⟨(Nat.le_trans (keep_size (w := w) (g := g) (row := none) (by exact jK HK.out)) hk), Kd.fresh' (rl HO352.out) k_ hk, Kd.fresh' (rl HO355.out) k_ hk, Kd.fresh' (Kd.N_lt (by exact lN <| HO367.out)) k_ hk, Kd.freshB (g := gb358) (o := .cells #[.int .i64 t347, .int .i64 t348, .int .i64 t349, .slice Ao102 t350.length co102, .slice Ao103 t353.length co103, .int .i64 t356] 45 (0, 0)) (by exact lK BK358.out) k_ hk, IsS69.fresh (by exact IsS69.j HI0.out) k_ hk⟩))
                 (case aO => exact (by exact lN <| Kd.N_mono HO361.out (fun _ hk => ⟨hk.1, ⟨hk.2.2.1, ⟨hk.2.2.2.1, ⟨hk.2.2.2.2.1, ⟨hk.2.2.2.2.2.1, hk.2.2.2.2.2.2⟩⟩⟩⟩⟩)))
                 (case aS => exact (keep_size (w := w) (g := g) (row := none) (by exact jK HK.out)))
                 (case aL => have := LMc93.out; omega)
                 intro v363 w111 ho hb hg hat
                 rw [← Ny362.out] at ho
                 replace HO_4 := aM (Kd.N_afterv (ok := (fun k_ => (w.heap.size ≤ k_) ∧ some k_ ≠ ownBlock (.slice Ao102 t350.length co102) ∧ some k_ ≠ ownBlock (.slice Ao103 t353.length co103) ∧ some k_ ≠ v366.ownBlock ∧ k_ ≠ g ∧ k_ ≠ gb358)) (by exact lN <| Kd.N_mono HO_4.out (fun _ hk => ⟨⟨hk.1.1.1, ⟨hk.1.1.2.1, ⟨hk.1.1.2.2.1, ⟨hk.1.2, ⟨hk.1.1.2.2.2.1, hk.1.1.2.2.2.2⟩⟩⟩⟩⟩, hk.2⟩)) hg hat)
                 replace HI0 := aM (IsS69.grown (by exact IsS69.j HI0.out) hg (IsS69.own_neN HI0.out HO361.out (by decide)))
                 replace HO352 := aM (Kd.R_over' (by exact lR HO352.out) (Kd.N_typed (by exact lN <| HO361.out)) (by decide) hg)
                 replace HO355 := aM (Kd.R_over' (by exact lR HO355.out) (Kd.N_typed (by exact lN <| HO361.out)) (by decide) hg)
                 replace BK358 := aM (blk_grown (g := gb358) (o := .cells #[.int .i64 t347, .int .i64 t348, .int .i64 t349, .slice Ao102 t350.length co102, .slice Ao103 t353.length co103, .int .i64 t356] 45 (0, 0)) (by exact lK BK358.out) hg (Kd.N_away HO361.out (fun _ hk => hk.2.2.2.2.2.1)))
                 replace HO367 := aM (Kd.N_afterv (ok := (fun k_ => (w.heap.size ≤ k_) ∧ some k_ ≠ ownBlock (.slice Ao104 x4_2.length co104) ∧ k_ ≠ gb358 ∧ k_ ≠ g)) (by exact lN <| HO367.out) hg hat)
                 replace HB := aM (below_weaken (by exact jB HB.out) HL.out hb)
                 replace HK := aM (KeepBut.trans (by exact jK HK.out) (KeepBut.of_grown hg g) (Kd.N_base2 HO361.out))
                 have HO364 := aM (ho)
                 clear HO361 ho hb hg hat
                 refine hK.out _ _ (cz6 BK358.out) (fun hHeld => ?_)
                 clear hK K
                 refine norm_ (a' := ?_) ?_ ?_
                 rotate_left
                 ·show Act.put _ (some 74) _ = _
                  simp only [Act.put, sA, s0, sS, i64_w, i32_w]
                  rfl
                 exact norm_ (by simp only [putAll, Act.put, List.setIfInBounds_toArray, List.set_cons_zero, List.set_cons_succ]) (hCont (v360, v363, v366) _ ⟨hHeld, (by exact lR HO352.out), (by exact lR HO355.out), (by exact lN <| Kd.N_mono HO364.out (fun _ hk => ⟨hk.1, ⟨hk.2.1, ⟨hk.2.2.1, ⟨hk.2.2.2.1, ⟨hk.2.2.2.2.2, hk.2.2.2.2.1⟩⟩⟩⟩⟩)), (by exact lN <| Kd.N_mono HO367.out (fun _ hk => ⟨hk.1.1, ⟨hk.2, ⟨hk.1.2.1, ⟨hk.1.2.2.2, hk.1.2.2.1⟩⟩⟩⟩)), (by exact lN <| Kd.N_mono HO_4.out (fun _ hk => ⟨hk.1.1, ⟨hk.1.2.1, ⟨hk.1.2.2.1, ⟨hk.2, ⟨hk.1.2.2.2.1, ⟨hk.1.2.2.2.2.1, hk.1.2.2.2.2.2⟩⟩⟩⟩⟩⟩)), (by exact lK BK358.out), (by exact IsS69.j HI0.out), (by exact jK HK.out), (by exact jB HB.out)⟩)
               rintro ⟨v360, v363, v366⟩ w112 ⟨hS_, h0_, h1_, h2_, h3_, h4_, h5_, h6_, h7_, h8_⟩
               replace HO352 : Aside0 (Kd.R (Kd.int .i64) 3 w112 w.heap.size (fun k_ => (w.heap.size ≤ k_) ∧ some k_ ≠ ownBlock (.slice Ao103 t353.length co103)) (.slice Ao102 t350.length co102) t350) := ⟨h0_⟩
               replace HO355 : Aside0 (Kd.R (Kd.int .i64) 3 w112 w.heap.size (fun k_ => (w.heap.size ≤ k_) ∧ some k_ ≠ ownBlock (.slice Ao102 t350.length co102)) (.slice Ao103 t353.length co103) t353) := ⟨h1_⟩
               have HO364 : Aside0 (Kd.N k45 45 w112 w.heap.size (fun k_ => (w.heap.size ≤ k_) ∧ some k_ ≠ ownBlock (.slice Ao102 t350.length co102) ∧ some k_ ≠ ownBlock (.slice Ao103 t353.length co103) ∧ some k_ ≠ v366.ownBlock ∧ k_ ≠ g ∧ k_ ≠ gb358) v363 y362) := ⟨h2_⟩
               have HO367 : Aside0 (Kd.N k45 45 w112 w.heap.size (fun k_ => (w.heap.size ≤ k_) ∧ some k_ ≠ v363.ownBlock ∧ some k_ ≠ ownBlock (.slice Ao104 x4_2.length co104) ∧ k_ ≠ g ∧ k_ ≠ gb358) v366 y365) := ⟨h3_⟩
               replace HO_4 : Aside0 (Kd.N k45 45 w112 w.heap.size (fun k_ => (w.heap.size ≤ k_) ∧ some k_ ≠ ownBlock (.slice Ao102 t350.length co102) ∧ some k_ ≠ ownBlock (.slice Ao103 t353.length co103) ∧ some k_ ≠ v363.ownBlock ∧ some k_ ≠ v366.ownBlock ∧ k_ ≠ g ∧ k_ ≠ gb358) (.slice Ao104 x4_2.length co104) x4_2) := ⟨h4_⟩
               replace BK358 : Aside0 (w112.heap[gb358]? = some (.cells #[.int .i64 t347, .int .i64 t348, .int .i64 t349, .slice Ao102 t350.length co102, .slice Ao103 t353.length co103, .int .i64 t356] 45 (0, 0))) := ⟨h5_⟩
               replace HI0 : Aside0 (IsS69 w0 w112 g s0_0 t357) := ⟨h6_⟩
               replace HK : Aside0 (KeepBut w w112 g none) := ⟨h7_⟩
               replace HB : Aside0 (Below w0.heap.size w0 w112) := ⟨h8_⟩
               clear h0_ h1_ h2_ h3_ h4_ h5_ h6_ h7_ h8_
               have hHeld : w112.cell? ⟨gb358, 0, none⟩ = some (.int .i64 t347) ∧ w112.cell? ⟨gb358, 1, none⟩ = some (.int .i64 t348) ∧ w112.cell? ⟨gb358, 2, none⟩ = some (.int .i64 t349) ∧ w112.cell? ⟨gb358, 3, none⟩ = some (.slice Ao102 t350.length co102) ∧ w112.cell? ⟨gb358, 4, none⟩ = some (.slice Ao103 t353.length co103) ∧ w112.cell? ⟨gb358, 5, none⟩ = some (.int .i64 t356) := hS_
               obtain ⟨Ao114, co114, eo114⟩ := Kd.N_slice HO367.out
               (first | subst eo114 | (injection eo114 with f1_ f2_ f3_; have f4_ := f1_.symm; have f5_ := f3_.symm; clear f1_ f2_ f3_; subst f4_; subst f5_))
               refine norm_ (a' := ?_) ?_ ?_
               rotate_left
               ·simp only [putAll, Act.put, List.setIfInBounds_toArray, List.set_cons_zero, List.set_cons_succ]
                rfl
               refine one_ (i := 5) (N := some 77) #[true, true, true, true, true, true, false] rfl rfl (by kernel_rfl) (by decide) (fun K hK => ?_)
               refine Kd.N_append_rows_step k45 w.heap.size (by rfl) (.tmp 74) (.tmp 76) 33 45 (.agg #[(.int .i64 0), (.int .i64 0), (.int .i64 0), (.slice none 0 0), (.slice none 0 0), (.int .i64 0)]) 80 rfl Try.underlying33 info45 rfl (by decide) (by omega) v363 y362 y365 _ _ _ (fun k_ => (w.heap.size ≤ k_) ∧ k_ ≠ gb358 ∧ k_ ≠ g) (fun k_ => ((fun k_ => (w.heap.size ≤ k_) ∧ k_ ≠ gb358 ∧ k_ ≠ g)) k_ ∧ some k_ ≠ v363.ownBlock) rfl rfl ?aO ?aR (fun _ hk => hk) ?aF (Below.refl _ _) ?aS ?aL ?_
               (case aR => exact (by skip; exact Kd.N_F (Kd.N_mono (ok' := (fun k_ => ((fun k_ => (w.heap.size ≤ k_) ∧ k_ ≠ gb358 ∧ k_ ≠ g)) k_ ∧ some k_ ≠ v363.ownBlock)) (HO367.out) (fun k_ hk => ⟨⟨hk.1, ⟨hk.2.2.2.2, hk.2.2.2.1⟩⟩, hk.2.1⟩))))
               (case aF => exact (fun k_ hk => ⟨(Nat.le_trans (keep_size (w := w) (g := g) (row := none) (by exact jK HK.out)) hk), Kd.freshB (g := gb358) (o := .cells #[.int .i64 t347, .int .i64 t348, .int .i64 t349, .slice Ao102 t350.length co102, .slice Ao103 t353.length co103, .int .i64 t356] 45 (0, 0)) (by exact lK BK358.out) k_ hk, IsS69.fresh (by exact IsS69.j HI0.out) k_ hk⟩))
               (case aO => exact (by exact lN <| Kd.N_mono HO364.out (fun _ hk => ⟨hk.1, ⟨hk.2.2.2.2.2, hk.2.2.2.2.1⟩⟩)))
               (case aS => exact (keep_size (w := w) (g := g) (row := none) (by exact jK HK.out)))
               (case aL => have := LMc94.out; omega)
               intro v369 w113 ho hb hg hat
               rw [← Ny368.out] at ho
               replace HO_4 := aM (Kd.N_afterv (ok := (fun k_ => (w.heap.size ≤ k_) ∧ some k_ ≠ ownBlock (.slice Ao102 t350.length co102) ∧ some k_ ≠ ownBlock (.slice Ao103 t353.length co103) ∧ some k_ ≠ ownBlock (.slice Ao114 y365.length co114) ∧ k_ ≠ g ∧ k_ ≠ gb358)) (by exact lN <| Kd.N_mono HO_4.out (fun _ hk => ⟨⟨hk.1, ⟨hk.2.1, ⟨hk.2.2.1, ⟨hk.2.2.2.2.1, ⟨hk.2.2.2.2.2.1, hk.2.2.2.2.2.2⟩⟩⟩⟩⟩, hk.2.2.2.1⟩)) hg hat)
               replace HI0 := aM (IsS69.grown (by exact IsS69.j HI0.out) hg (IsS69.own_neN HI0.out HO364.out (by decide)))
               replace HO352 := aM (Kd.R_over' (by exact lR HO352.out) (Kd.N_typed (by exact lN <| HO364.out)) (by decide) hg)
               replace HO355 := aM (Kd.R_over' (by exact lR HO355.out) (Kd.N_typed (by exact lN <| HO364.out)) (by decide) hg)
               replace BK358 := aM (blk_grown (g := gb358) (o := .cells #[.int .i64 t347, .int .i64 t348, .int .i64 t349, .slice Ao102 t350.length co102, .slice Ao103 t353.length co103, .int .i64 t356] 45 (0, 0)) (by exact lK BK358.out) hg (Kd.N_away HO364.out (fun _ hk => hk.2.2.2.2.2)))
               replace HO367 := aM (Kd.N_afterv (ok := (fun k_ => (w.heap.size ≤ k_) ∧ some k_ ≠ ownBlock (.slice Ao104 x4_2.length co104) ∧ k_ ≠ g ∧ k_ ≠ gb358)) (by exact lN <| Kd.N_mono HO367.out (fun _ hk => ⟨⟨hk.1, ⟨hk.2.2.1, ⟨hk.2.2.2.1, hk.2.2.2.2⟩⟩⟩, hk.2.1⟩)) hg hat)
               replace HB := aM (below_weaken (by exact jB HB.out) HL.out hb)
               replace HK := aM (KeepBut.trans (by exact jK HK.out) (KeepBut.of_grown hg g) (Kd.N_base2 HO364.out))
               have HO370 := aM (ho)
               clear HO364 ho hb hg hat
               obtain ⟨Ao115, co115, eo115⟩ := Kd.N_slice HO370.out
               (first | subst eo115 | (injection eo115 with f1_ f2_ f3_; have f4_ := f1_.symm; have f5_ := f3_.symm; clear f1_ f2_ f3_; subst f4_; subst f5_))
               refine hK.out _ _ (cz6 BK358.out) (fun hHeld => ?_)
               clear hK K
               refine norm_ (a' := ?_) ?_ ?_
               rotate_left
               ·show Act.put _ (some 77) _ = _
                simp only [Act.put, sA, s0, sS, i64_w, i32_w]
                rfl
               refine one_ (i := 6) (N := some 78) #[true, true, true, true, true, true, true] rfl rfl (by kernel_rfl) (by decide) (fun K hK => ?_)
               refine goes_ Try.func40 (by kernel_rfl) rfl #[.slice Ao115 y368.length co115] (by rfl) rfl rfl (by (try simp only [mA, mC, mN]); first | done | rfl | (simp only [ld, lt]; rfl)) ?_
               with_reducible refine (spec_ActOk.calls k2 _ _ y368 true _ ?side1 ?side2 A95.out).mono ?_
               (case side1 => exact lC <| (Kd.N_reads' HO370.out).2.2)
               (case side2 => exact (Kd.N_reads' HO370.out).2.1)
               rintro e w116 ⟨rfl, hb⟩
               refine ⟨_, rfl, ?_⟩
               replace HO_4 := aM (Kd.N_below (by exact lN <| HO_4.out) hb)
               replace HO352 := aM (rb HO352.out hb)
               replace HO355 := aM (rb HO355.out hb)
               replace HO367 := aM (Kd.N_below (by exact lN <| HO367.out) hb)
               replace HO370 := aM (Kd.N_below (by exact lN <| HO370.out) hb)
               replace HI0 := aM (IsS69.below (by exact IsS69.j HI0.out) hb)
               replace BK358 := aM (bb BK358.out hb)
               replace HK := aM (kbl HK.out hb)
               replace HB := aM (bj HB.out hb)
               (try clear hb)
               (try clear hb2)
               (try clear hk)
               (try clear hi)
               refine hK.out _ _ (cz6 BK358.out) (fun hHeld => ?_)
               clear hK K
               refine norm_ (a' := ?_) ?_ ?_
               rotate_left
               ·show Act.put _ (some 78) _ = _
                simp only [Act.put, sA, s0, sS, i64_w, i32_w]
                rfl
               refine done_ (by kernel_rfl) ?_
               obtain ⟨hcz117_0, hcz117_1, hcz117_2, hcz117_3, hcz117_4, hcz117_5, hfz117_0, hfz117_1, hfz117_2, hfz117_3, hfz117_4, hfz117_5⟩ := cf6 BK358.out
               try go_wp2_with (first | ((with_reducible refine gate_dst (N := 81) rfl ?_); refine Kd.N_lit k45 _ 45 ?hg (N' := 81) ?hd (xs := ([(⟨t347, t348, t349, (⟨t350, t353, t356⟩ : S43)⟩ : S45)] : List (S45))) (inner := [.int .i64 t347, .int .i64 t348, .int .i64 t349, .slice Ao102 t350.length co102, .slice Ao103 t353.length co103, .int .i64 t356]) (ok := (fun k_ => (w.heap.size ≤ k_) ∧ some k_ ≠ ownBlock (.slice Ao104 x4_2.length co104) ∧ some k_ ≠ ownBlock (.slice Ao114 y365.length co114) ∧ some k_ ≠ ownBlock (.slice Ao115 y368.length co115) ∧ k_ ≠ gb358 ∧ k_ ≠ g)) (okp := (fun k_ => (w.heap.size ≤ k_) ∧ some k_ ≠ ownBlock (.slice Ao104 x4_2.length co104) ∧ some k_ ≠ ownBlock (.slice Ao114 y365.length co114) ∧ some k_ ≠ ownBlock (.slice Ao115 y368.length co115) ∧ k_ ≠ gb358 ∧ k_ ≠ g)) ?hr ?hp (fun _ hk => hk) ((show ∀ k_, w116.heap.size ≤ k_ → (fun k_ => (w.heap.size ≤ k_) ∧ some k_ ≠ ownBlock (.slice Ao104 x4_2.length co104) ∧ some k_ ≠ ownBlock (.slice Ao114 y365.length co114) ∧ some k_ ≠ ownBlock (.slice Ao115 y368.length co115) ∧ k_ ≠ gb358 ∧ k_ ≠ g) k_ from fun k_ hk => ⟨(Nat.le_trans (keep_size (w := w) (g := g) (row := none) (by exact jK HK.out)) hk), Kd.fresh' (Kd.N_lt (by exact lN <| HO_4.out)) k_ hk, Kd.fresh' (Kd.N_lt (by exact lN <| HO367.out)) k_ hk, Kd.fresh' (Kd.N_lt (by exact lN <| HO370.out)) k_ hk, Kd.freshB (g := gb358) (o := .cells #[.int .i64 t347, .int .i64 t348, .int .i64 t349, .slice Ao102 t350.length co102, .slice Ao103 t353.length co103, .int .i64 t356] 45 (0, 0)) (by exact lK BK358.out) k_ hk, IsS69.fresh (by exact IsS69.j HI0.out) k_ hk⟩) _ (Nat.le_refl _)) (Below.refl _ _) (Nat.le_refl _) (by simp) ?_; (case hd => rfl); (case hg => rfl); (case hr => first | (go_simp; done) | (go_simp; rfl)); (case hp => exact (Reps.c6 (show Kd.FK k45 _ _ (⟨t347, t348, t349, (⟨t350, t353, t356⟩ : S43)⟩ : S45) [.int .i64 t347, .int .i64 t348, .int .i64 t349, .slice Ao102 t350.length co102, .slice Ao103 t353.length co103, .int .i64 t356] from (k45_mkR _ _ (⟨t347, t348, t349, (⟨t350, t353, t356⟩ : S43)⟩ : S45) (Kd.R_mono (ok' := (fun k_ => (w.heap.size ≤ k_) ∧ some k_ ≠ ownBlock (.slice Ao104 x4_2.length co104) ∧ some k_ ≠ ownBlock (.slice Ao114 y365.length co114) ∧ some k_ ≠ ownBlock (.slice Ao115 y368.length co115) ∧ k_ ≠ gb358 ∧ k_ ≠ g)) (IsS69.apart HI0.out (Kd.R_types (Kd.R_apart' (Kd.R_apart' (Kd.R_apart' (HO352.out) (Kd.N_typed HO_4.out) (show ∀ q_, q_ ∈ 3 :: ((Kd.int .i64)).E → q_ ≠ 45 from by decide)) (Kd.N_typed HO367.out) (show ∀ q_, q_ ∈ 3 :: ((Kd.int .i64)).E → q_ ≠ 45 from by decide)) (Kd.N_typed HO370.out) (show ∀ q_, q_ ∈ 3 :: ((Kd.int .i64)).E → q_ ≠ 45 from by decide)) BK358.out (by decide)) (by decide)) (fun k_ hk => ⟨hk.1.1.1.1.1.1, ⟨hk.1.1.1.1.2, ⟨hk.1.1.1.2, ⟨hk.1.1.2, ⟨hk.1.2, hk.2⟩⟩⟩⟩⟩)) (Kd.R_mono (ok' := (fun k_ => (w.heap.size ≤ k_) ∧ some k_ ≠ ownBlock (.slice Ao104 x4_2.length co104) ∧ some k_ ≠ ownBlock (.slice Ao114 y365.length co114) ∧ some k_ ≠ ownBlock (.slice Ao115 y368.length co115) ∧ k_ ≠ gb358 ∧ k_ ≠ g)) (IsS69.apart HI0.out (Kd.R_types (Kd.R_apart' (Kd.R_apart' (Kd.R_apart' (HO355.out) (Kd.N_typed HO_4.out) (show ∀ q_, q_ ∈ 3 :: ((Kd.int .i64)).E → q_ ≠ 45 from by decide)) (Kd.N_typed HO367.out) (show ∀ q_, q_ ∈ 3 :: ((Kd.int .i64)).E → q_ ≠ 45 from by decide)) (Kd.N_typed HO370.out) (show ∀ q_, q_ ∈ 3 :: ((Kd.int .i64)).E → q_ ≠ 45 from by decide)) BK358.out (by decide)) (by decide)) (fun k_ hk => ⟨hk.1.1.1.1.1.1, ⟨hk.1.1.1.1.2, ⟨hk.1.1.1.2, ⟨hk.1.1.2, ⟨hk.1.2, hk.2⟩⟩⟩⟩⟩)))) (Reps.none _ _))); intro v373 w118 ho119 hb hg_ hnew_; clear hg_ hnew_; (first | rw [← Ny372.out] at ho119 | (simp only [Int.reduceToNat] at ho119; rw [← Ny372.out] at ho119)); replace HO_4 := aM (Kd.N_elder' (by exact lN <| HO_4.out) (Kd.N_base ho119) hb); replace HO352 := aM (rb HO352.out hb); replace HO355 := aM (rb HO355.out hb); replace HO367 := aM (Kd.N_elder' (by exact lN <| HO367.out) (Kd.N_base ho119) hb); replace HO370 := aM (Kd.N_elder' (by exact lN <| HO370.out) (Kd.N_base ho119) hb); have HO374 := aM (Kd.N_lower ho119 (keep_size (w := w) (g := g) (row := none) (by exact jK HK.out))); replace HI0 := aM (IsS69.below (by exact IsS69.j HI0.out) hb); replace BK358 := aM (bb BK358.out hb); replace HK := aM (kbl HK.out hb); replace HB := aM (bj HB.out hb); clear hb ho119; obtain ⟨Ao121, co121, eo121⟩ := Kd.N_slice HO374.out; subst eo121) | ((with_reducible refine gate_builtin (b := .append) (xs := #[.tmp 79, .tmp 81]) rfl ?_); at_builtin; refine Kd.N_append_rows k45 w.heap.size rfl (.tmp 79) (.tmp 81) 33 45 (.agg #[(.int .i64 0), (.int .i64 0), (.int .i64 0), (.slice none 0 0), (.slice none 0 0), (.int .i64 0)]) 80 rfl Try.underlying33 info45 rfl (by decide) (by omega) (.slice Ao104 x4_2.length co104) x4_2 y372 _ _ _ (fun k_ => (w.heap.size ≤ k_) ∧ some k_ ≠ ownBlock (.slice Ao114 y365.length co114) ∧ some k_ ≠ ownBlock (.slice Ao115 y368.length co115) ∧ k_ ≠ gb358 ∧ k_ ≠ g) (fun k_ => ((fun k_ => (w.heap.size ≤ k_) ∧ some k_ ≠ ownBlock (.slice Ao114 y365.length co114) ∧ some k_ ≠ ownBlock (.slice Ao115 y368.length co115) ∧ k_ ≠ gb358 ∧ k_ ≠ g)) k_ ∧ some k_ ≠ ownBlock (.slice Ao104 x4_2.length co104)) rfl rfl ?aO ?aR (fun _ hk => hk) ?aF (Below.refl _ _) ?aS ?aL ?_; (case aR => exact (by skip; exact Kd.N_F (Kd.N_mono (ok' := (fun k_ => ((fun k_ => (w.heap.size ≤ k_) ∧ some k_ ≠ ownBlock (.slice Ao114 y365.length co114) ∧ some k_ ≠ ownBlock (.slice Ao115 y368.length co115) ∧ k_ ≠ gb358 ∧ k_ ≠ g)) k_ ∧ some k_ ≠ ownBlock (.slice Ao104 x4_2.length co104))) (HO374.out) (fun k_ hk => ⟨⟨hk.1, ⟨hk.2.2.1, ⟨hk.2.2.2.1, ⟨hk.2.2.2.2.1, hk.2.2.2.2.2⟩⟩⟩⟩, hk.2.1⟩)))); (case aF => exact (fun k_ hk => ⟨(Nat.le_trans (keep_size (w := w) (g := g) (row := none) (by exact jK HK.out)) hk), Kd.fresh' (Kd.N_lt (by exact lN <| HO367.out)) k_ hk, Kd.fresh' (Kd.N_lt (by exact lN <| HO370.out)) k_ hk, Kd.freshB (g := gb358) (o := .cells #[.int .i64 t347, .int .i64 t348, .int .i64 t349, .slice Ao102 t350.length co102, .slice Ao103 t353.length co103, .int .i64 t356] 45 (0, 0)) (by exact lK BK358.out) k_ hk, IsS69.fresh (by exact IsS69.j HI0.out) k_ hk⟩)); (case aO => exact (by exact lN <| Kd.N_mono HO_4.out (fun _ hk => ⟨hk.1.1.1, ⟨hk.1.1.2.2.2.1, ⟨hk.1.2, ⟨hk.1.1.2.2.2.2.2, hk.1.1.2.2.2.2.1⟩⟩⟩⟩))); (case aS => exact (keep_size (w := w) (g := g) (row := none) (by exact jK HK.out))); (case aL => have := LMc97.out; omega); intro v376 w120 ho hb hg hat; rw [← Ny375.out] at ho; replace HI0 := aM (IsS69.grown (by exact IsS69.j HI0.out) hg (IsS69.own_neN HI0.out HO_4.out (by decide))); replace HO352 := aM (Kd.R_over' (by exact lR HO352.out) (Kd.N_typed (by exact lN <| HO_4.out)) (by decide) hg); replace HO355 := aM (Kd.R_over' (by exact lR HO355.out) (Kd.N_typed (by exact lN <| HO_4.out)) (by decide) hg); replace BK358 := aM (blk_grown (g := gb358) (o := .cells #[.int .i64 t347, .int .i64 t348, .int .i64 t349, .slice Ao102 t350.length co102, .slice Ao103 t353.length co103, .int .i64 t356] 45 (0, 0)) (by exact lK BK358.out) hg (Kd.N_away HO_4.out (fun _ hk => hk.1.1.2.2.2.2.2))); replace HO367 := aM (Kd.N_afterv (ok := (fun k_ => (w.heap.size ≤ k_) ∧ some k_ ≠ ownBlock (.slice Ao115 y368.length co115) ∧ some k_ ≠ ownBlock (.slice Ao121 y372.length co121) ∧ k_ ≠ g ∧ k_ ≠ gb358)) (by exact lN <| Kd.N_mono HO367.out (fun _ hk => ⟨⟨hk.1.1.1, ⟨hk.1.2, ⟨hk.2, ⟨hk.1.1.2.2.1, hk.1.1.2.2.2⟩⟩⟩⟩, hk.1.1.2.1⟩)) hg hat); replace HO374 := aM (Kd.N_afterv (ok := (fun k_ => (w.heap.size ≤ k_) ∧ some k_ ≠ ownBlock (.slice Ao114 y365.length co114) ∧ some k_ ≠ ownBlock (.slice Ao115 y368.length co115) ∧ k_ ≠ gb358 ∧ k_ ≠ g)) (by exact lN <| Kd.N_mono HO374.out (fun _ hk => ⟨⟨hk.1, ⟨hk.2.2.1, ⟨hk.2.2.2.1, ⟨hk.2.2.2.2.1, hk.2.2.2.2.2⟩⟩⟩⟩, hk.2.1⟩)) hg hat); replace HB := aM (below_weaken (by exact jB HB.out) HL.out hb); replace HK := aM (KeepBut.trans (by exact jK HK.out) (KeepBut.of_grown hg g) (Kd.N_base2 HO_4.out)); have HO377 := aM (ho); clear HO_4 HO370 ho hb hg hat))
               go_roundg k2
               case measure => have := HJ3.out; have := HK2.out; omega
               case rel => exact ⟨(y375), (wrap64 (x5_2 - 1)), (t357), (by first | rfl | (simp; done) | (simp [*]; done)), H', ⟨by have := HJ3.out; have := HK2.out; omega⟩, ⟨by exact lN <| Kd.N_mono HO377.out (fun _ hk => ⟨hk.1, hk.2.2.2.2⟩)⟩, ⟨by exact IsS69.j HI0.out⟩, ⟨by exact jK HK.out⟩, ⟨by exact jB HB.out⟩⟩
              ·rw [if_neg c97] at H
               exact absurd H (by simp)
             ·replace c96 := Bool.eq_false_iff.mpr c96
              subst c96
              rw [if_neg nf] at H
              try dsimp only at H
              have H' := aM H
              clear H
              try go_wp2_with (first | ((with_reducible refine gate_callee (f := 65) rfl ?_); refine gL (some 71) Try.func65 #[.pointer (some ⟨g, 0, none⟩)] ?_; (with_reducible refine (spec_l20Line.calls k2 g s0_0 x1001_2 t347 t348 t349 t350 t353 t356 t357 w0 _ ?side1 ?side2 A92.out).mono ?_); (case side1 => exact IsS69.j HI0.out); (case side2 => exact jB HB.out); rintro e w122 ⟨v351, v354, rfl, ho0, ho1, hi, hb, hk⟩; refine ⟨_, rfl, ?_⟩; replace HO_4 := aM (Kd.N_mono (Kd.N_told (Kd.N_told (Kd.N_oldK (Kd.N_mono (ok := fun k_ => (((w.heap.size ≤ k_)) ∧ k_ ≠ g)) (by exact lN <| HO_4.out) (fun k_ hk_ => (⟨hk_, hk_.2⟩ : _ ∧ k_ ≠ g))) hk) (Kd.R_base ho0)) (Kd.R_base ho1)) (fun _ h_ => h_.1)); have HO352 := aM (lwM ho0 HK.out); have HO355 := aM (lwM ho1 HK.out); replace HK := aM (kt HK.out hk); replace HB := aM (hb); replace HI0 := aM (hi); (try clear hb hk hi); (try clear ho0); (try clear ho1)) | ((with_reducible refine gate_dst (N := 6) rfl ?_); refine bx 6 #[.int .i64 0, .int .i64 0, .int .i64 0, .slice none 0 0, .slice none 0 0, .int .i64 0] 45 ?_; intro gb358 hg w123 hbox hb; replace HO_4 := aM (Kd.N_below (Kd.N_elderB (by exact lN <| HO_4.out) gb358 (Nat.le_of_eq hg.symm)) hb); replace HO352 := aM (rb HO352.out hb); replace HO355 := aM (rb HO355.out hb); replace HB := aM (bj HB.out hb); have BK358 := aM (hbox); have GW358 := aM ((gk hg HK.out)); have IGW358 : Nonempty _ := ⟨GW358.out⟩; have GE358 := aM ((Nat.le_trans HW0.out (gk hg HK.out) : w0.heap.size ≤ gb358)); have IGE358 : Nonempty _ := ⟨GE358.out⟩; replace HK := aM (kbl HK.out hb); have NB0_358 := aM ((by rw [hg]; exact Nat.ne_of_lt (IsS69.lt (show IsS69 w0 _ g s0_0 t357 from by exact IsS69.j HI0.out)) : g ≠ gb358)); have INB0_358 : Nonempty _ := ⟨NB0_358.out⟩; have NB358_0 := aM ((by rw [hg]; exact Nat.ne_of_gt (IsS69.lt (show IsS69 w0 _ g s0_0 t357 from by exact IsS69.j HI0.out)) : gb358 ≠ g)); replace HI0 := aM (IsS69.below (by exact IsS69.j HI0.out) hb); clear hb hbox hg; have hnb124 := NB358_0.out; have hnc124 := NB0_358.out; obtain ⟨hcz125_0, hcz125_1, hcz125_2, hcz125_3, hcz125_4, hcz125_5, hfz125_0, hfz125_1, hfz125_2, hfz125_3, hfz125_4, hfz125_5⟩ := cf6 BK358.out; obtain ⟨Ao126, co126, eo126⟩ := Kd.R_slice HO352.out; subst eo126; obtain ⟨Ao127, co127, eo127⟩ := Kd.R_slice HO355.out; subst eo127; obtain ⟨Ao128, co128, eo128⟩ := Kd.N_slice HO_4.out; subst eo128))
              have n0_ : Aside0 (Kd.N k45 45 ((((((w123.setCell ⟨gb358, 0, none⟩ (.int .i64 t347)).setCell ⟨gb358, 1, none⟩ (.int .i64 t348)).setCell ⟨gb358, 2, none⟩ (.int .i64 t349)).setCell ⟨gb358, 3, none⟩ (.slice Ao126 t350.length co126)).setCell ⟨gb358, 4, none⟩ (.slice Ao127 t353.length co127)).setCell ⟨gb358, 5, none⟩ (.int .i64 t356)) w.heap.size (fun k_ => (w.heap.size ≤ k_) ∧ some k_ ≠ ownBlock (.slice Ao126 t350.length co126) ∧ some k_ ≠ ownBlock (.slice Ao127 t353.length co127) ∧ k_ ≠ g ∧ k_ ≠ gb358) (.slice Ao128 x4_2.length co128) x4_2) := ⟨by exact lN <| Kd.N_mono (Kd.N_far (p := ⟨gb358, 5, none⟩) (Kd.N_far (p := ⟨gb358, 4, none⟩) (Kd.N_far (p := ⟨gb358, 3, none⟩) (Kd.N_far (p := ⟨gb358, 2, none⟩) (Kd.N_far (p := ⟨gb358, 1, none⟩) (Kd.N_far (p := ⟨gb358, 0, none⟩) (Kd.N_mono HO_4.out (fun k_ hk => (⟨hk, hk.2⟩ : _ ∧ k_ ≠ gb358))) (fun _ hk => hk.2) (.int .i64 t347)) (fun _ hk => hk.2) (.int .i64 t348)) (fun _ hk => hk.2) (.int .i64 t349)) (fun _ hk => hk.2) (.slice Ao126 t350.length co126)) (fun _ hk => hk.2) (.slice Ao127 t353.length co127)) (fun _ hk => hk.2) (.int .i64 t356)) (fun _ hk => ⟨hk.1.1.1.1.1, ⟨hk.1.1.1.2, ⟨hk.1.1.2, ⟨hk.1.1.1.1.2, hk.1.2⟩⟩⟩⟩)⟩
              have n1_ := aM (Kd.R_mono (ok' := (fun k_ => (w.heap.size ≤ k_) ∧ some k_ ≠ ownBlock (.slice Ao127 t353.length co127))) (R6 (w := w123) (x := (.int .i64 t347)) (y := (.int .i64 t348)) (z := (.int .i64 t349)) (u := (.slice Ao126 t350.length co126)) (v := (.slice Ao127 t353.length co127)) (t := (.int .i64 t356)) (lR HO352.out) (lK BK358.out)) (fun _ hk => ⟨hk.1, hk.2⟩))
              have n2_ := aM (Kd.R_mono (ok' := (fun k_ => (w.heap.size ≤ k_) ∧ some k_ ≠ ownBlock (.slice Ao126 t350.length co126))) (R6 (w := w123) (x := (.int .i64 t347)) (y := (.int .i64 t348)) (z := (.int .i64 t349)) (u := (.slice Ao126 t350.length co126)) (v := (.slice Ao127 t353.length co127)) (t := (.int .i64 t356)) (lR HO355.out) (lK BK358.out)) (fun _ hk => ⟨hk.1, hk.2⟩))
              have n3_ := aM (p6 (w := w123) (x := (.int .i64 t347)) (y := (.int .i64 t348)) (z := (.int .i64 t349)) (u := (.slice Ao126 t350.length co126)) (v := (.slice Ao127 t353.length co127)) (t := (.int .i64 t356)) (lK BK358.out))
              have n4_ : Aside0 (IsS69 w0 ((((((w123.setCell ⟨gb358, 0, none⟩ (.int .i64 t347)).setCell ⟨gb358, 1, none⟩ (.int .i64 t348)).setCell ⟨gb358, 2, none⟩ (.int .i64 t349)).setCell ⟨gb358, 3, none⟩ (.slice Ao126 t350.length co126)).setCell ⟨gb358, 4, none⟩ (.slice Ao127 t353.length co127)).setCell ⟨gb358, 5, none⟩ (.int .i64 t356)) g s0_0 t357) := ⟨by exact IsS69.j HI0.out⟩
              have n5_ : Aside0 (KeepBut w ((((((w123.setCell ⟨gb358, 0, none⟩ (.int .i64 t347)).setCell ⟨gb358, 1, none⟩ (.int .i64 t348)).setCell ⟨gb358, 2, none⟩ (.int .i64 t349)).setCell ⟨gb358, 3, none⟩ (.slice Ao126 t350.length co126)).setCell ⟨gb358, 4, none⟩ (.slice Ao127 t353.length co127)).setCell ⟨gb358, 5, none⟩ (.int .i64 t356)) g none) := ⟨by exact jK HK.out⟩
              have n6_ : Aside0 (Below w0.heap.size w0 ((((((w123.setCell ⟨gb358, 0, none⟩ (.int .i64 t347)).setCell ⟨gb358, 1, none⟩ (.int .i64 t348)).setCell ⟨gb358, 2, none⟩ (.int .i64 t349)).setCell ⟨gb358, 3, none⟩ (.slice Ao126 t350.length co126)).setCell ⟨gb358, 4, none⟩ (.slice Ao127 t353.length co127)).setCell ⟨gb358, 5, none⟩ (.int .i64 t356))) := ⟨by exact jB HB.out⟩
              (try clear HO_4)
              (try clear HO352)
              (try clear HO355)
              (try clear BK358)
              (try clear HI0)
              (try clear HK)
              (try clear HB)
              generalize ((((((w123.setCell ⟨gb358, 0, none⟩ (.int .i64 t347)).setCell ⟨gb358, 1, none⟩ (.int .i64 t348)).setCell ⟨gb358, 2, none⟩ (.int .i64 t349)).setCell ⟨gb358, 3, none⟩ (.slice Ao126 t350.length co126)).setCell ⟨gb358, 4, none⟩ (.slice Ao127 t353.length co127)).setCell ⟨gb358, 5, none⟩ (.int .i64 t356)) = w129 at n0_ n1_ n2_ n3_ n4_ n5_ n6_ ⊢
              have HO_4 := n0_
              have HO352 := n1_
              have HO355 := n2_
              have BK358 := n3_
              have HI0 := n4_
              have HK := n5_
              have HB := n6_
              clear n0_ n1_ n2_ n3_ n4_ n5_ n6_
              replace HO_4 := aM (Kd.N_drew HO_4.out)
              replace HO352 := aM (Kd.R_drew HO352.out)
              replace HO355 := aM (Kd.R_drew HO355.out)
              replace BK358 := aM (blk_drew BK358.out)
              replace HI0 := aM (IsS69.drew HI0.out)
              replace HK := aM (keep_drew HK.out)
              replace HB := aM (below_drew1 HB.out)
              refine start_ (n := 7) (S := fun w' => w'.cell? ⟨gb358, 0, none⟩ = some (.int .i64 t347) ∧ w'.cell? ⟨gb358, 1, none⟩ = some (.int .i64 t348) ∧ w'.cell? ⟨gb358, 2, none⟩ = some (.int .i64 t349) ∧ w'.cell? ⟨gb358, 3, none⟩ = some (.slice Ao126 t350.length co126) ∧ w'.cell? ⟨gb358, 4, none⟩ = some (.slice Ao127 t353.length co127) ∧ w'.cell? ⟨gb358, 5, none⟩ = some (.int .i64 t356)) (ds := []) #[false, false, false, false, false, false, false] (by kernel_rfl) rfl rfl (cz6 BK358.out) (fun hHeld => ?_)
              generalize w129.drew = w130 at HO_4 HO352 HO355 BK358 HI0 HK HB hHeld ⊢
              refine pure_ (i := 1) (N := some 73) (v := ?_) (a' := ?_) #[false, true, false, false, false, false, false] rfl rfl (by kernel_rfl) (fun _ _ _ h => h) (Or.inl ⟨by rfl, ?_⟩) ?_ ?_
              rotate_left
              ·intro w'
               go_simp
               with_reducible rfl
              rotate_left
              ·simp only [Act.put, sA, s0, sS, i64_w, i32_w]
               rfl
              refine take_ (i := 3) (N := some 75) (v := ?_) (a' := ?_) #[false, true, false, true, false, false, false] rfl rfl (by kernel_rfl) (fun _ _ _ h => h) (Or.inl ⟨by rfl, ?_⟩) hHeld ?_ ?_
              rotate_left
              ·rintro w' ⟨s0, s1, s2, s3, s4, s5⟩
               go_simp
               with_reducible rfl
              rotate_left
              ·simp only [Act.put, sA, s0, sS, i64_w, i32_w]
               rfl
              refine join_ (σ := Value × Value × Value) 2 #[true, true, true, true, true, false, false] (fun s_ => [(72, s_.1), (74, s_.2.1), (76, s_.2.2)]) (fun s_ w' => (w'.cell? ⟨gb358, 0, none⟩ = some (.int .i64 t347) ∧ w'.cell? ⟨gb358, 1, none⟩ = some (.int .i64 t348) ∧ w'.cell? ⟨gb358, 2, none⟩ = some (.int .i64 t349) ∧ w'.cell? ⟨gb358, 3, none⟩ = some (.slice Ao126 t350.length co126) ∧ w'.cell? ⟨gb358, 4, none⟩ = some (.slice Ao127 t353.length co127) ∧ w'.cell? ⟨gb358, 5, none⟩ = some (.int .i64 t356)) ∧ (Kd.R (Kd.int .i64) 3 w' w.heap.size (fun k_ => (w.heap.size ≤ k_) ∧ some k_ ≠ ownBlock (.slice Ao127 t353.length co127)) (.slice Ao126 t350.length co126) t350) ∧ (Kd.R (Kd.int .i64) 3 w' w.heap.size (fun k_ => (w.heap.size ≤ k_) ∧ some k_ ≠ ownBlock (.slice Ao126 t350.length co126)) (.slice Ao127 t353.length co127) t353) ∧ (Kd.N k45 45 w' w.heap.size (fun k_ => (w.heap.size ≤ k_) ∧ some k_ ≠ ownBlock (.slice Ao126 t350.length co126) ∧ some k_ ≠ ownBlock (.slice Ao127 t353.length co127) ∧ some k_ ≠ (s_.2.2 : Value).ownBlock ∧ k_ ≠ g ∧ k_ ≠ gb358) s_.2.1 y362) ∧ (Kd.N k45 45 w' w.heap.size (fun k_ => (w.heap.size ≤ k_) ∧ some k_ ≠ (s_.2.1 : Value).ownBlock ∧ some k_ ≠ ownBlock (.slice Ao128 x4_2.length co128) ∧ k_ ≠ g ∧ k_ ≠ gb358) s_.2.2 y365) ∧ (Kd.N k45 45 w' w.heap.size (fun k_ => (w.heap.size ≤ k_) ∧ some k_ ≠ ownBlock (.slice Ao126 t350.length co126) ∧ some k_ ≠ ownBlock (.slice Ao127 t353.length co127) ∧ some k_ ≠ (s_.2.1 : Value).ownBlock ∧ some k_ ≠ (s_.2.2 : Value).ownBlock ∧ k_ ≠ g ∧ k_ ≠ gb358) (.slice Ao128 x4_2.length co128) x4_2) ∧ (w'.heap[gb358]? = some (.cells #[.int .i64 t347, .int .i64 t348, .int .i64 t349, .slice Ao126 t350.length co126, .slice Ao127 t353.length co127, .int .i64 t356] 45 (0, 0))) ∧ (IsS69 w0 w' g s0_0 t357) ∧ (KeepBut w w' g none) ∧ (Below w0.heap.size w0 w')) ?_ ?_
              rotate_left
              ·intro hCont
               refine two_ (i := 0) (j := 4) (Ni := some 72) (Nj := some 76) #[true, true, false, true, false, false, false] #[false, true, false, true, true, false, false] rfl rfl rfl rfl (by kernel_rfl) (by decide) (by decide) (fun K hK => ?_) (fun K hK => ?_)
               ·skip
                refine Kd.N_lit_step k45 _ 45 ?hg (N' := 72) ?hd (xs := ([] : List (S45))) (inner := []) (ok := (fun k_ => (w.heap.size ≤ k_) ∧ some k_ ≠ ownBlock (.slice Ao128 x4_2.length co128) ∧ some k_ ≠ ownBlock (.slice Ao126 t350.length co126) ∧ some k_ ≠ ownBlock (.slice Ao127 t353.length co127) ∧ k_ ≠ gb358 ∧ k_ ≠ g)) (okp := (fun k_ => (w.heap.size ≤ k_) ∧ some k_ ≠ ownBlock (.slice Ao128 x4_2.length co128) ∧ some k_ ≠ ownBlock (.slice Ao126 t350.length co126) ∧ some k_ ≠ ownBlock (.slice Ao127 t353.length co127) ∧ k_ ≠ gb358 ∧ k_ ≠ g)) ?hr ?hp (fun _ hk => hk) ((show ∀ k_, w130.heap.size ≤ k_ → (fun k_ => (w.heap.size ≤ k_) ∧ some k_ ≠ ownBlock (.slice Ao128 x4_2.length co128) ∧ some k_ ≠ ownBlock (.slice Ao126 t350.length co126) ∧ some k_ ≠ ownBlock (.slice Ao127 t353.length co127) ∧ k_ ≠ gb358 ∧ k_ ≠ g) k_ from fun k_ hk => ⟨(Nat.le_trans (keep_size (w := w) (g := g) (row := none) (by exact jK HK.out)) hk), Kd.fresh' (Kd.N_lt (by exact lN <| HO_4.out)) k_ hk, Kd.fresh' (rl HO352.out) k_ hk, Kd.fresh' (rl HO355.out) k_ hk, Kd.freshB (g := gb358) (o := .cells #[.int .i64 t347, .int .i64 t348, .int .i64 t349, .slice Ao126 t350.length co126, .slice Ao127 t353.length co127, .int .i64 t356] 45 (0, 0)) (by exact lK BK358.out) k_ hk, IsS69.fresh (by exact IsS69.j HI0.out) k_ hk⟩) _ (Nat.le_refl _)) (Below.refl _ _) (Nat.le_refl _) (by simp) ?_; (case hd => rfl); (case hg => rfl); (case hr => first | (go_simp; done) | (go_simp; rfl)); (case hp => exact (Reps.none _ _))
                intro v360 w131 ho132 hb hg_ hnew_
                clear hg_ hnew_
                (first | rw [← Ny359.out] at ho132 | (simp only [Int.reduceToNat] at ho132; rw [← Ny359.out] at ho132))
                replace HO_4 := aM (Kd.N_elder' (by exact lN <| HO_4.out) (Kd.N_base ho132) hb)
                replace HO352 := aM (rb HO352.out hb)
                replace HO355 := aM (rb HO355.out hb)
                have HO361 := aM (Kd.N_lower ho132 (keep_size (w := w) (g := g) (row := none) (by exact jK HK.out)))
                replace HI0 := aM (IsS69.below (by exact IsS69.j HI0.out) hb)
                replace BK358 := aM (bb BK358.out hb)
                replace HK := aM (kbl HK.out hb)
                replace HB := aM (bj HB.out hb)
                clear hb ho132
                refine hK.out _ _ (cz6 BK358.out) (fun hHeld => ?_)
                clear hK K
                refine norm_ (a' := ?_) ?_ ?_
                rotate_left
                ·show Act.put _ (some 72) _ = _
                 simp only [Act.put, sA, s0, sS, i64_w, i32_w]
                 rfl
                refine two_ (i := 2) (j := 4) (Ni := some 74) (Nj := some 76) #[true, true, true, true, false, false, false] #[true, true, false, true, true, false, false] rfl rfl rfl rfl (by kernel_rfl) (by decide) (by decide) (fun K hK => ?_) (fun K hK => ?_)
                ·skip
                 refine Kd.N_append_rows_step k45 w.heap.size (by rfl) (.tmp 72) (.tmp 73) 33 45 (.agg #[(.int .i64 0), (.int .i64 0), (.int .i64 0), (.slice none 0 0), (.slice none 0 0), (.int .i64 0)]) 80 rfl Try.underlying33 info45 rfl (by decide) (by omega) v360 y359 x4_2 _ _ _ (fun k_ => (w.heap.size ≤ k_) ∧ some k_ ≠ ownBlock (.slice Ao126 t350.length co126) ∧ some k_ ≠ ownBlock (.slice Ao127 t353.length co127) ∧ k_ ≠ gb358 ∧ k_ ≠ g) (fun k_ => ((fun k_ => (w.heap.size ≤ k_) ∧ some k_ ≠ ownBlock (.slice Ao126 t350.length co126) ∧ some k_ ≠ ownBlock (.slice Ao127 t353.length co127) ∧ k_ ≠ gb358 ∧ k_ ≠ g)) k_ ∧ some k_ ≠ v360.ownBlock) rfl rfl ?aO ?aR (fun _ hk => hk) ?aF (Below.refl _ _) ?aS ?aL ?_
                 (case aR => exact (by skip; exact Kd.N_F (Kd.N_mono (ok' := (fun k_ => ((fun k_ => (w.heap.size ≤ k_) ∧ some k_ ≠ ownBlock (.slice Ao126 t350.length co126) ∧ some k_ ≠ ownBlock (.slice Ao127 t353.length co127) ∧ k_ ≠ gb358 ∧ k_ ≠ g)) k_ ∧ some k_ ≠ v360.ownBlock)) (HO_4.out) (fun k_ hk => ⟨⟨hk.1.1, ⟨hk.1.2.1, ⟨hk.1.2.2.1, ⟨hk.1.2.2.2.2, hk.1.2.2.2.1⟩⟩⟩⟩, hk.2⟩))))
                 (case aF => exact (fun k_ hk => ⟨(Nat.le_trans (keep_size (w := w) (g := g) (row := none) (by exact jK HK.out)) hk), Kd.fresh' (rl HO352.out) k_ hk, Kd.fresh' (rl HO355.out) k_ hk, Kd.freshB (g := gb358) (o := .cells #[.int .i64 t347, .int .i64 t348, .int .i64 t349, .slice Ao126 t350.length co126, .slice Ao127 t353.length co127, .int .i64 t356] 45 (0, 0)) (by exact lK BK358.out) k_ hk, IsS69.fresh (by exact IsS69.j HI0.out) k_ hk⟩))
                 (case aO => exact (by exact lN <| Kd.N_mono HO361.out (fun _ hk => ⟨hk.1, ⟨hk.2.2.1, ⟨hk.2.2.2.1, ⟨hk.2.2.2.2.1, hk.2.2.2.2.2⟩⟩⟩⟩)))
                 (case aS => exact (keep_size (w := w) (g := g) (row := none) (by exact jK HK.out)))
                 (case aL => have := LMc93.out; omega)
                 intro v363 w133 ho hb hg hat
                 rw [← Ny362.out] at ho
                 replace HO_4 := aM (Kd.N_afterv (ok := (fun k_ => (w.heap.size ≤ k_) ∧ some k_ ≠ ownBlock (.slice Ao126 t350.length co126) ∧ some k_ ≠ ownBlock (.slice Ao127 t353.length co127) ∧ k_ ≠ g ∧ k_ ≠ gb358)) (by exact lN <| HO_4.out) hg hat)
                 replace HI0 := aM (IsS69.grown (by exact IsS69.j HI0.out) hg (IsS69.own_neN HI0.out HO361.out (by decide)))
                 replace HO352 := aM (Kd.R_over' (by exact lR HO352.out) (Kd.N_typed (by exact lN <| HO361.out)) (by decide) hg)
                 replace HO355 := aM (Kd.R_over' (by exact lR HO355.out) (Kd.N_typed (by exact lN <| HO361.out)) (by decide) hg)
                 replace BK358 := aM (blk_grown (g := gb358) (o := .cells #[.int .i64 t347, .int .i64 t348, .int .i64 t349, .slice Ao126 t350.length co126, .slice Ao127 t353.length co127, .int .i64 t356] 45 (0, 0)) (by exact lK BK358.out) hg (Kd.N_away HO361.out (fun _ hk => hk.2.2.2.2.1)))
                 replace HB := aM (below_weaken (by exact jB HB.out) HL.out hb)
                 replace HK := aM (KeepBut.trans (by exact jK HK.out) (KeepBut.of_grown hg g) (Kd.N_base2 HO361.out))
                 have HO364 := aM (ho)
                 clear HO361 ho hb hg hat
                 refine hK.out _ _ (cz6 BK358.out) (fun hHeld => ?_)
                 clear hK K
                 refine norm_ (a' := ?_) ?_ ?_
                 rotate_left
                 ·show Act.put _ (some 74) _ = _
                  simp only [Act.put, sA, s0, sS, i64_w, i32_w]
                  rfl
                 refine one_ (i := 4) (N := some 76) #[true, true, true, true, true, false, false] rfl rfl (by kernel_rfl) (by decide) (fun K hK => ?_)
                 refine Kd.N_lit_step k45 _ 45 ?hg (N' := 76) ?hd (xs := ([(⟨t347, t348, t349, (⟨t350, t353, t356⟩ : S43)⟩ : S45)] : List (S45))) (inner := [.int .i64 t347, .int .i64 t348, .int .i64 t349, .slice Ao126 t350.length co126, .slice Ao127 t353.length co127, .int .i64 t356]) (ok := (fun k_ => (w.heap.size ≤ k_) ∧ some k_ ≠ ownBlock (.slice Ao128 x4_2.length co128) ∧ some k_ ≠ v363.ownBlock ∧ k_ ≠ gb358 ∧ k_ ≠ g)) (okp := (fun k_ => (w.heap.size ≤ k_) ∧ some k_ ≠ ownBlock (.slice Ao128 x4_2.length co128) ∧ some k_ ≠ v363.ownBlock ∧ k_ ≠ gb358 ∧ k_ ≠ g)) ?hr ?hp (fun _ hk => hk) ((show ∀ k_, w133.heap.size ≤ k_ → (fun k_ => (w.heap.size ≤ k_) ∧ some k_ ≠ ownBlock (.slice Ao128 x4_2.length co128) ∧ some k_ ≠ v363.ownBlock ∧ k_ ≠ gb358 ∧ k_ ≠ g) k_ from fun k_ hk => ⟨(Nat.le_trans (keep_size (w := w) (g := g) (row := none) (by exact jK HK.out)) hk), Kd.fresh' (Kd.N_lt (by exact lN <| HO_4.out)) k_ hk, Kd.fresh' (Kd.N_lt (by exact lN <| HO364.out)) k_ hk, Kd.freshB (g := gb358) (o := .cells #[.int .i64 t347, .int .i64 t348, .int .i64 t349, .slice Ao126 t350.length co126, .slice Ao127 t353.length co127, .int .i64 t356] 45 (0, 0)) (by exact lK BK358.out) k_ hk, IsS69.fresh (by exact IsS69.j HI0.out) k_ hk⟩) _ (Nat.le_refl _)) (Below.refl _ _) (Nat.le_refl _) (by simp) ?_; (case hd => rfl); (case hg => rfl); (case hr => first | (go_simp; done) | (go_simp; rfl)); (case hp => exact (Reps.c6 (show Kd.FK k45 _ _ (⟨t347, t348, t349, (⟨t350, t353, t356⟩ : S43)⟩ : S45) [.int .i64 t347, .int .i64 t348, .int .i64 t349, .slice Ao126 t350.length co126, .slice Ao127 t353.length co127, .int .i64 t356] from (k45_mkR _ _ (⟨t347, t348, t349, (⟨t350, t353, t356⟩ : S43)⟩ : S45) (Kd.R_mono (ok' := (fun k_ => (w.heap.size ≤ k_) ∧ some k_ ≠ ownBlock (.slice Ao128 x4_2.length co128) ∧ some k_ ≠ v363.ownBlock ∧ k_ ≠ gb358 ∧ k_ ≠ g)) (IsS69.apart HI0.out (Kd.R_types (Kd.R_apart' (Kd.R_apart' (HO352.out) (Kd.N_typed HO_4.out) (show ∀ q_, q_ ∈ 3 :: ((Kd.int .i64)).E → q_ ≠ 45 from by decide)) (Kd.N_typed HO364.out) (show ∀ q_, q_ ∈ 3 :: ((Kd.int .i64)).E → q_ ≠ 45 from by decide)) BK358.out (by decide)) (by decide)) (fun k_ hk => ⟨hk.1.1.1.1.1, ⟨hk.1.1.1.2, ⟨hk.1.1.2, ⟨hk.1.2, hk.2⟩⟩⟩⟩)) (Kd.R_mono (ok' := (fun k_ => (w.heap.size ≤ k_) ∧ some k_ ≠ ownBlock (.slice Ao128 x4_2.length co128) ∧ some k_ ≠ v363.ownBlock ∧ k_ ≠ gb358 ∧ k_ ≠ g)) (IsS69.apart HI0.out (Kd.R_types (Kd.R_apart' (Kd.R_apart' (HO355.out) (Kd.N_typed HO_4.out) (show ∀ q_, q_ ∈ 3 :: ((Kd.int .i64)).E → q_ ≠ 45 from by decide)) (Kd.N_typed HO364.out) (show ∀ q_, q_ ∈ 3 :: ((Kd.int .i64)).E → q_ ≠ 45 from by decide)) BK358.out (by decide)) (by decide)) (fun k_ hk => ⟨hk.1.1.1.1.1, ⟨hk.1.1.1.2, ⟨hk.1.1.2, ⟨hk.1.2, hk.2⟩⟩⟩⟩)))) (Reps.none _ _)))
                 intro v366 w134 ho135 hb hg_ hnew_
                 clear hg_ hnew_
                 (first | rw [← Ny365.out] at ho135 | (simp only [Int.reduceToNat] at ho135; rw [← Ny365.out] at ho135))
                 replace HO_4 := aM (Kd.N_elder' (by exact lN <| HO_4.out) (Kd.N_base ho135) hb)
                 replace HO352 := aM (rb HO352.out hb)
                 replace HO355 := aM (rb HO355.out hb)
                 replace HO364 := aM (Kd.N_elder' (by exact lN <| HO364.out) (Kd.N_base ho135) hb)
                 have HO367 := aM (Kd.N_lower ho135 (keep_size (w := w) (g := g) (row := none) (by exact jK HK.out)))
                 replace HI0 := aM (IsS69.below (by exact IsS69.j HI0.out) hb)
                 replace BK358 := aM (bb BK358.out hb)
                 replace HK := aM (kbl HK.out hb)
                 replace HB := aM (bj HB.out hb)
                 clear hb ho135
                 refine hK.out _ _ (cz6 BK358.out) (fun hHeld => ?_)
                 clear hK K
                 refine norm_ (a' := ?_) ?_ ?_
                 rotate_left
                 ·show Act.put _ (some 76) _ = _
                  simp only [Act.put, sA, s0, sS, i64_w, i32_w]
                  rfl
                 exact norm_ (by simp only [putAll, Act.put, List.setIfInBounds_toArray, List.set_cons_zero, List.set_cons_succ]) (hCont (v360, v363, v366) _ ⟨hHeld, (by exact lR HO352.out), (by exact lR HO355.out), (by exact lN <| Kd.N_mono HO364.out (fun _ hk => ⟨hk.1.1, ⟨hk.1.2.1, ⟨hk.1.2.2.1, ⟨hk.2, ⟨hk.1.2.2.2.2, hk.1.2.2.2.1⟩⟩⟩⟩⟩)), (by exact lN <| Kd.N_mono HO367.out (fun _ hk => ⟨hk.1, ⟨hk.2.2.1, ⟨hk.2.1, ⟨hk.2.2.2.2, hk.2.2.2.1⟩⟩⟩⟩)), (by exact lN <| Kd.N_mono HO_4.out (fun _ hk => ⟨hk.1.1.1, ⟨hk.1.1.2.1, ⟨hk.1.1.2.2.1, ⟨hk.1.2, ⟨hk.2, ⟨hk.1.1.2.2.2.1, hk.1.1.2.2.2.2⟩⟩⟩⟩⟩⟩)), (by exact lK BK358.out), (by exact IsS69.j HI0.out), (by exact jK HK.out), (by exact jB HB.out)⟩)
                ·skip
                 refine Kd.N_lit_step k45 _ 45 ?hg (N' := 76) ?hd (xs := ([(⟨t347, t348, t349, (⟨t350, t353, t356⟩ : S43)⟩ : S45)] : List (S45))) (inner := [.int .i64 t347, .int .i64 t348, .int .i64 t349, .slice Ao126 t350.length co126, .slice Ao127 t353.length co127, .int .i64 t356]) (ok := (fun k_ => (w.heap.size ≤ k_) ∧ some k_ ≠ ownBlock (.slice Ao128 x4_2.length co128) ∧ some k_ ≠ v360.ownBlock ∧ k_ ≠ gb358 ∧ k_ ≠ g)) (okp := (fun k_ => (w.heap.size ≤ k_) ∧ some k_ ≠ ownBlock (.slice Ao128 x4_2.length co128) ∧ some k_ ≠ v360.ownBlock ∧ k_ ≠ gb358 ∧ k_ ≠ g)) ?hr ?hp (fun _ hk => hk) ((show ∀ k_, w131.heap.size ≤ k_ → (fun k_ => (w.heap.size ≤ k_) ∧ some k_ ≠ ownBlock (.slice Ao128 x4_2.length co128) ∧ some k_ ≠ v360.ownBlock ∧ k_ ≠ gb358 ∧ k_ ≠ g) k_ from fun k_ hk => ⟨(Nat.le_trans (keep_size (w := w) (g := g) (row := none) (by exact jK HK.out)) hk), Kd.fresh' (Kd.N_lt (by exact lN <| HO_4.out)) k_ hk, Kd.fresh' (Kd.N_lt (by exact lN <| HO361.out)) k_ hk, Kd.freshB (g := gb358) (o := .cells #[.int .i64 t347, .int .i64 t348, .int .i64 t349, .slice Ao126 t350.length co126, .slice Ao127 t353.length co127, .int .i64 t356] 45 (0, 0)) (by exact lK BK358.out) k_ hk, IsS69.fresh (by exact IsS69.j HI0.out) k_ hk⟩) _ (Nat.le_refl _)) (Below.refl _ _) (Nat.le_refl _) (by simp) ?_; (case hd => rfl); (case hg => rfl); (case hr => first | (go_simp; done) | (go_simp; rfl)); (case hp => exact (Reps.c6 (show Kd.FK k45 _ _ (⟨t347, t348, t349, (⟨t350, t353, t356⟩ : S43)⟩ : S45) [.int .i64 t347, .int .i64 t348, .int .i64 t349, .slice Ao126 t350.length co126, .slice Ao127 t353.length co127, .int .i64 t356] from (k45_mkR _ _ (⟨t347, t348, t349, (⟨t350, t353, t356⟩ : S43)⟩ : S45) (Kd.R_mono (ok' := (fun k_ => (w.heap.size ≤ k_) ∧ some k_ ≠ ownBlock (.slice Ao128 x4_2.length co128) ∧ some k_ ≠ v360.ownBlock ∧ k_ ≠ gb358 ∧ k_ ≠ g)) (IsS69.apart HI0.out (Kd.R_types (Kd.R_apart' (Kd.R_apart' (HO352.out) (Kd.N_typed HO_4.out) (show ∀ q_, q_ ∈ 3 :: ((Kd.int .i64)).E → q_ ≠ 45 from by decide)) (Kd.N_typed HO361.out) (show ∀ q_, q_ ∈ 3 :: ((Kd.int .i64)).E → q_ ≠ 45 from by decide)) BK358.out (by decide)) (by decide)) (fun k_ hk => ⟨hk.1.1.1.1.1, ⟨hk.1.1.1.2, ⟨hk.1.1.2, ⟨hk.1.2, hk.2⟩⟩⟩⟩)) (Kd.R_mono (ok' := (fun k_ => (w.heap.size ≤ k_) ∧ some k_ ≠ ownBlock (.slice Ao128 x4_2.length co128) ∧ some k_ ≠ v360.ownBlock ∧ k_ ≠ gb358 ∧ k_ ≠ g)) (IsS69.apart HI0.out (Kd.R_types (Kd.R_apart' (Kd.R_apart' (HO355.out) (Kd.N_typed HO_4.out) (show ∀ q_, q_ ∈ 3 :: ((Kd.int .i64)).E → q_ ≠ 45 from by decide)) (Kd.N_typed HO361.out) (show ∀ q_, q_ ∈ 3 :: ((Kd.int .i64)).E → q_ ≠ 45 from by decide)) BK358.out (by decide)) (by decide)) (fun k_ hk => ⟨hk.1.1.1.1.1, ⟨hk.1.1.1.2, ⟨hk.1.1.2, ⟨hk.1.2, hk.2⟩⟩⟩⟩)))) (Reps.none _ _)))
                 intro v366 w133 ho134 hb hg_ hnew_
                 clear hg_ hnew_
                 (first | rw [← Ny365.out] at ho134 | (simp only [Int.reduceToNat] at ho134; rw [← Ny365.out] at ho134))
                 replace HO_4 := aM (Kd.N_elder' (by exact lN <| HO_4.out) (Kd.N_base ho134) hb)
                 replace HO352 := aM (rb HO352.out hb)
                 replace HO355 := aM (rb HO355.out hb)
                 replace HO361 := aM (Kd.N_elder' (by exact lN <| HO361.out) (Kd.N_base ho134) hb)
                 have HO367 := aM (Kd.N_lower ho134 (keep_size (w := w) (g := g) (row := none) (by exact jK HK.out)))
                 replace HI0 := aM (IsS69.below (by exact IsS69.j HI0.out) hb)
                 replace BK358 := aM (bb BK358.out hb)
                 replace HK := aM (kbl HK.out hb)
                 replace HB := aM (bj HB.out hb)
                 clear hb ho134
                 refine hK.out _ _ (cz6 BK358.out) (fun hHeld => ?_)
                 clear hK K
                 refine norm_ (a' := ?_) ?_ ?_
                 rotate_left
                 ·show Act.put _ (some 76) _ = _
                  simp only [Act.put, sA, s0, sS, i64_w, i32_w]
                  rfl
                 refine one_ (i := 2) (N := some 74) #[true, true, true, true, true, false, false] rfl rfl (by kernel_rfl) (by decide) (fun K hK => ?_)
                 refine Kd.N_append_rows_step k45 w.heap.size (by rfl) (.tmp 72) (.tmp 73) 33 45 (.agg #[(.int .i64 0), (.int .i64 0), (.int .i64 0), (.slice none 0 0), (.slice none 0 0), (.int .i64 0)]) 80 rfl Try.underlying33 info45 rfl (by decide) (by omega) v360 y359 x4_2 _ _ _ (fun k_ => (w.heap.size ≤ k_) ∧ some k_ ≠ ownBlock (.slice Ao126 t350.length co126) ∧ some k_ ≠ ownBlock (.slice Ao127 t353.length co127) ∧ some k_ ≠ v366.ownBlock ∧ k_ ≠ gb358 ∧ k_ ≠ g) (fun k_ => ((fun k_ => (w.heap.size ≤ k_) ∧ some k_ ≠ ownBlock (.slice Ao126 t350.length co126) ∧ some k_ ≠ ownBlock (.slice Ao127 t353.length co127) ∧ some k_ ≠ v366.ownBlock ∧ k_ ≠ gb358 ∧ k_ ≠ g)) k_ ∧ some k_ ≠ v360.ownBlock) rfl rfl ?aO ?aR (fun _ hk => hk) ?aF (Below.refl _ _) ?aS ?aL ?_
                 (case aR => exact (by skip; exact Kd.N_F (Kd.N_mono (ok' := (fun k_ => ((fun k_ => (w.heap.size ≤ k_) ∧ some k_ ≠ ownBlock (.slice Ao126 t350.length co126) ∧ some k_ ≠ ownBlock (.slice Ao127 t353.length co127) ∧ some k_ ≠ v366.ownBlock ∧ k_ ≠ gb358 ∧ k_ ≠ g)) k_ ∧ some k_ ≠ v360.ownBlock)) (HO_4.out) (fun k_ hk => ⟨⟨hk.1.1.1, ⟨hk.1.1.2.1, ⟨hk.1.1.2.2.1, ⟨hk.2, ⟨hk.1.1.2.2.2.2, hk.1.1.2.2.2.1⟩⟩⟩⟩⟩, hk.1.2⟩))))
                 (case aF => exact (fun k_ hk => ⟨(Nat.le_trans (keep_size (w := w) (g := g) (row := none) (by exact jK HK.out)) hk), Kd.fresh' (rl HO352.out) k_ hk, Kd.fresh' (rl HO355.out) k_ hk, Kd.fresh' (Kd.N_lt (by exact lN <| HO367.out)) k_ hk, Kd.freshB (g := gb358) (o := .cells #[.int .i64 t347, .int .i64 t348, .int .i64 t349, .slice Ao126 t350.length co126, .slice Ao127 t353.length co127, .int .i64 t356] 45 (0, 0)) (by exact lK BK358.out) k_ hk, IsS69.fresh (by exact IsS69.j HI0.out) k_ hk⟩))
                 (case aO => exact (by exact lN <| Kd.N_mono HO361.out (fun _ hk => ⟨hk.1.1, ⟨hk.1.2.2.1, ⟨hk.1.2.2.2.1, ⟨hk.2, ⟨hk.1.2.2.2.2.1, hk.1.2.2.2.2.2⟩⟩⟩⟩⟩)))
                 (case aS => exact (keep_size (w := w) (g := g) (row := none) (by exact jK HK.out)))
                 (case aL => have := LMc93.out; omega)
                 intro v363 w135 ho hb hg hat
                 rw [← Ny362.out] at ho
                 replace HO_4 := aM (Kd.N_afterv (ok := (fun k_ => (w.heap.size ≤ k_) ∧ some k_ ≠ ownBlock (.slice Ao126 t350.length co126) ∧ some k_ ≠ ownBlock (.slice Ao127 t353.length co127) ∧ some k_ ≠ v366.ownBlock ∧ k_ ≠ g ∧ k_ ≠ gb358)) (by exact lN <| Kd.N_mono HO_4.out (fun _ hk => ⟨⟨hk.1.1.1, ⟨hk.1.1.2.1, ⟨hk.1.1.2.2.1, ⟨hk.2, ⟨hk.1.1.2.2.2.1, hk.1.1.2.2.2.2⟩⟩⟩⟩⟩, hk.1.2⟩)) hg hat)
                 replace HI0 := aM (IsS69.grown (by exact IsS69.j HI0.out) hg (IsS69.own_neN HI0.out HO361.out (by decide)))
                 replace HO352 := aM (Kd.R_over' (by exact lR HO352.out) (Kd.N_typed (by exact lN <| HO361.out)) (by decide) hg)
                 replace HO355 := aM (Kd.R_over' (by exact lR HO355.out) (Kd.N_typed (by exact lN <| HO361.out)) (by decide) hg)
                 replace BK358 := aM (blk_grown (g := gb358) (o := .cells #[.int .i64 t347, .int .i64 t348, .int .i64 t349, .slice Ao126 t350.length co126, .slice Ao127 t353.length co127, .int .i64 t356] 45 (0, 0)) (by exact lK BK358.out) hg (Kd.N_away HO361.out (fun _ hk => hk.1.2.2.2.2.1)))
                 replace HO367 := aM (Kd.N_afterv (ok := (fun k_ => (w.heap.size ≤ k_) ∧ some k_ ≠ ownBlock (.slice Ao128 x4_2.length co128) ∧ k_ ≠ gb358 ∧ k_ ≠ g)) (by exact lN <| Kd.N_mono HO367.out (fun _ hk => ⟨⟨hk.1, ⟨hk.2.1, ⟨hk.2.2.2.1, hk.2.2.2.2⟩⟩⟩, hk.2.2.1⟩)) hg hat)
                 replace HB := aM (below_weaken (by exact jB HB.out) HL.out hb)
                 replace HK := aM (KeepBut.trans (by exact jK HK.out) (KeepBut.of_grown hg g) (Kd.N_base2 HO361.out))
                 have HO364 := aM (ho)
                 clear HO361 ho hb hg hat
                 refine hK.out _ _ (cz6 BK358.out) (fun hHeld => ?_)
                 clear hK K
                 refine norm_ (a' := ?_) ?_ ?_
                 rotate_left
                 ·show Act.put _ (some 74) _ = _
                  simp only [Act.put, sA, s0, sS, i64_w, i32_w]
                  rfl
                 exact norm_ (by simp only [putAll, Act.put, List.setIfInBounds_toArray, List.set_cons_zero, List.set_cons_succ]) (hCont (v360, v363, v366) _ ⟨hHeld, (by exact lR HO352.out), (by exact lR HO355.out), (by exact lN <| Kd.N_mono HO364.out (fun _ hk => ⟨hk.1, ⟨hk.2.1, ⟨hk.2.2.1, ⟨hk.2.2.2.1, ⟨hk.2.2.2.2.2, hk.2.2.2.2.1⟩⟩⟩⟩⟩)), (by exact lN <| Kd.N_mono HO367.out (fun _ hk => ⟨hk.1.1, ⟨hk.2, ⟨hk.1.2.1, ⟨hk.1.2.2.2, hk.1.2.2.1⟩⟩⟩⟩)), (by exact lN <| Kd.N_mono HO_4.out (fun _ hk => ⟨hk.1.1, ⟨hk.1.2.1, ⟨hk.1.2.2.1, ⟨hk.2, ⟨hk.1.2.2.2.1, ⟨hk.1.2.2.2.2.1, hk.1.2.2.2.2.2⟩⟩⟩⟩⟩⟩)), (by exact lK BK358.out), (by exact IsS69.j HI0.out), (by exact jK HK.out), (by exact jB HB.out)⟩)
               ·skip
                refine Kd.N_lit_step k45 _ 45 ?hg (N' := 76) ?hd (xs := ([(⟨t347, t348, t349, (⟨t350, t353, t356⟩ : S43)⟩ : S45)] : List (S45))) (inner := [.int .i64 t347, .int .i64 t348, .int .i64 t349, .slice Ao126 t350.length co126, .slice Ao127 t353.length co127, .int .i64 t356]) (ok := (fun k_ => (w.heap.size ≤ k_) ∧ some k_ ≠ ownBlock (.slice Ao128 x4_2.length co128) ∧ k_ ≠ gb358 ∧ k_ ≠ g)) (okp := (fun k_ => (w.heap.size ≤ k_) ∧ some k_ ≠ ownBlock (.slice Ao128 x4_2.length co128) ∧ k_ ≠ gb358 ∧ k_ ≠ g)) ?hr ?hp (fun _ hk => hk) ((show ∀ k_, w130.heap.size ≤ k_ → (fun k_ => (w.heap.size ≤ k_) ∧ some k_ ≠ ownBlock (.slice Ao128 x4_2.length co128) ∧ k_ ≠ gb358 ∧ k_ ≠ g) k_ from fun k_ hk => ⟨(Nat.le_trans (keep_size (w := w) (g := g) (row := none) (by exact jK HK.out)) hk), Kd.fresh' (Kd.N_lt (by exact lN <| HO_4.out)) k_ hk, Kd.freshB (g := gb358) (o := .cells #[.int .i64 t347, .int .i64 t348, .int .i64 t349, .slice Ao126 t350.length co126, .slice Ao127 t353.length co127, .int .i64 t356] 45 (0, 0)) (by exact lK BK358.out) k_ hk, IsS69.fresh (by exact IsS69.j HI0.out) k_ hk⟩) _ (Nat.le_refl _)) (Below.refl _ _) (Nat.le_refl _) (by simp) ?_; (case hd => rfl); (case hg => rfl); (case hr => first | (go_simp; done) | (go_simp; rfl)); (case hp => exact (Reps.c6 (show Kd.FK k45 _ _ (⟨t347, t348, t349, (⟨t350, t353, t356⟩ : S43)⟩ : S45) [.int .i64 t347, .int .i64 t348, .int .i64 t349, .slice Ao126 t350.length co126, .slice Ao127 t353.length co127, .int .i64 t356] from (k45_mkR _ _ (⟨t347, t348, t349, (⟨t350, t353, t356⟩ : S43)⟩ : S45) (Kd.R_mono (ok' := (fun k_ => (w.heap.size ≤ k_) ∧ some k_ ≠ ownBlock (.slice Ao128 x4_2.length co128) ∧ k_ ≠ gb358 ∧ k_ ≠ g)) (IsS69.apart HI0.out (Kd.R_types (Kd.R_apart' (HO352.out) (Kd.N_typed HO_4.out) (show ∀ q_, q_ ∈ 3 :: ((Kd.int .i64)).E → q_ ≠ 45 from by decide)) BK358.out (by decide)) (by decide)) (fun k_ hk => ⟨hk.1.1.1.1, ⟨hk.1.1.2, ⟨hk.1.2, hk.2⟩⟩⟩)) (Kd.R_mono (ok' := (fun k_ => (w.heap.size ≤ k_) ∧ some k_ ≠ ownBlock (.slice Ao128 x4_2.length co128) ∧ k_ ≠ gb358 ∧ k_ ≠ g)) (IsS69.apart HI0.out (Kd.R_types (Kd.R_apart' (HO355.out) (Kd.N_typed HO_4.out) (show ∀ q_, q_ ∈ 3 :: ((Kd.int .i64)).E → q_ ≠ 45 from by decide)) BK358.out (by decide)) (by decide)) (fun k_ hk => ⟨hk.1.1.1.1, ⟨hk.1.1.2, ⟨hk.1.2, hk.2⟩⟩⟩)))) (Reps.none _ _)))
                intro v366 w131 ho132 hb hg_ hnew_
                clear hg_ hnew_
                (first | rw [← Ny365.out] at ho132 | (simp only [Int.reduceToNat] at ho132; rw [← Ny365.out] at ho132))
                replace HO_4 := aM (Kd.N_elder' (by exact lN <| HO_4.out) (Kd.N_base ho132) hb)
                replace HO352 := aM (rb HO352.out hb)
                replace HO355 := aM (rb HO355.out hb)
                have HO367 := aM (Kd.N_lower ho132 (keep_size (w := w) (g := g) (row := none) (by exact jK HK.out)))
                replace HI0 := aM (IsS69.below (by exact IsS69.j HI0.out) hb)
                replace BK358 := aM (bb BK358.out hb)
                replace HK := aM (kbl HK.out hb)
                replace HB := aM (bj HB.out hb)
                clear hb ho132
                refine hK.out _ _ (cz6 BK358.out) (fun hHeld => ?_)
                clear hK K
                refine norm_ (a' := ?_) ?_ ?_
                rotate_left
                ·show Act.put _ (some 76) _ = _
                 simp only [Act.put, sA, s0, sS, i64_w, i32_w]
                 rfl
                refine one_ (i := 0) (N := some 72) #[true, true, false, true, true, false, false] rfl rfl (by kernel_rfl) (by decide) (fun K hK => ?_)
                refine Kd.N_lit_step k45 _ 45 ?hg (N' := 72) ?hd (xs := ([] : List (S45))) (inner := []) (ok := (fun k_ => (w.heap.size ≤ k_) ∧ some k_ ≠ ownBlock (.slice Ao128 x4_2.length co128) ∧ some k_ ≠ ownBlock (.slice Ao126 t350.length co126) ∧ some k_ ≠ ownBlock (.slice Ao127 t353.length co127) ∧ some k_ ≠ v366.ownBlock ∧ k_ ≠ gb358 ∧ k_ ≠ g)) (okp := (fun k_ => (w.heap.size ≤ k_) ∧ some k_ ≠ ownBlock (.slice Ao128 x4_2.length co128) ∧ some k_ ≠ ownBlock (.slice Ao126 t350.length co126) ∧ some k_ ≠ ownBlock (.slice Ao127 t353.length co127) ∧ some k_ ≠ v366.ownBlock ∧ k_ ≠ gb358 ∧ k_ ≠ g)) ?hr ?hp (fun _ hk => hk) ((show ∀ k_, w131.heap.size ≤ k_ → (fun k_ => (w.heap.size ≤ k_) ∧ some k_ ≠ ownBlock (.slice Ao128 x4_2.length co128) ∧ some k_ ≠ ownBlock (.slice Ao126 t350.length co126) ∧ some k_ ≠ ownBlock (.slice Ao127 t353.length co127) ∧ some k_ ≠ v366.ownBlock ∧ k_ ≠ gb358 ∧ k_ ≠ g) k_ from fun k_ hk => ⟨(Nat.le_trans (keep_size (w := w) (g := g) (row := none) (by exact jK HK.out)) hk), Kd.fresh' (Kd.N_lt (by exact lN <| HO_4.out)) k_ hk, Kd.fresh' (rl HO352.out) k_ hk, Kd.fresh' (rl HO355.out) k_ hk, Kd.fresh' (Kd.N_lt (by exact lN <| HO367.out)) k_ hk, Kd.freshB (g := gb358) (o := .cells #[.int .i64 t347, .int .i64 t348, .int .i64 t349, .slice Ao126 t350.length co126, .slice Ao127 t353.length co127, .int .i64 t356] 45 (0, 0)) (by exact lK BK358.out) k_ hk, IsS69.fresh (by exact IsS69.j HI0.out) k_ hk⟩) _ (Nat.le_refl _)) (Below.refl _ _) (Nat.le_refl _) (by simp) ?_; (case hd => rfl); (case hg => rfl); (case hr => first | (go_simp; done) | (go_simp; rfl)); (case hp => exact (Reps.none _ _))
                intro v360 w133 ho134 hb hg_ hnew_
                clear hg_ hnew_
                (first | rw [← Ny359.out] at ho134 | (simp only [Int.reduceToNat] at ho134; rw [← Ny359.out] at ho134))
                replace HO_4 := aM (Kd.N_elder' (by exact lN <| HO_4.out) (Kd.N_base ho134) hb)
                replace HO352 := aM (rb HO352.out hb)
                replace HO355 := aM (rb HO355.out hb)
                replace HO367 := aM (Kd.N_elder' (by exact lN <| HO367.out) (Kd.N_base ho134) hb)
                have HO361 := aM (Kd.N_lower ho134 (keep_size (w := w) (g := g) (row := none) (by exact jK HK.out)))
                replace HI0 := aM (IsS69.below (by exact IsS69.j HI0.out) hb)
                replace BK358 := aM (bb BK358.out hb)
                replace HK := aM (kbl HK.out hb)
                replace HB := aM (bj HB.out hb)
                clear hb ho134
                refine hK.out _ _ (cz6 BK358.out) (fun hHeld => ?_)
                clear hK K
                refine norm_ (a' := ?_) ?_ ?_
                rotate_left
                ·show Act.put _ (some 72) _ = _
                 simp only [Act.put, sA, s0, sS, i64_w, i32_w]
                 rfl
                refine one_ (i := 2) (N := some 74) #[true, true, true, true, true, false, false] rfl rfl (by kernel_rfl) (by decide) (fun K hK => ?_)
                refine Kd.N_append_rows_step k45 w.heap.size (by rfl) (.tmp 72) (.tmp 73) 33 45 (.agg #[(.int .i64 0), (.int .i64 0), (.int .i64 0), (.slice none 0 0), (.slice none 0 0), (.int .i64 0)]) 80 rfl Try.underlying33 info45 rfl (by decide) (by omega) v360 y359 x4_2 _ _ _ (fun k_ => (w.heap.size ≤ k_) ∧ some k_ ≠ ownBlock (.slice Ao126 t350.length co126) ∧ some k_ ≠ ownBlock (.slice Ao127 t353.length co127) ∧ some k_ ≠ v366.ownBlock ∧ k_ ≠ gb358 ∧ k_ ≠ g) (fun k_ => ((fun k_ => (w.heap.size ≤ k_) ∧ some k_ ≠ ownBlock (.slice Ao126 t350.length co126) ∧ some k_ ≠ ownBlock (.slice Ao127 t353.length co127) ∧ some k_ ≠ v366.ownBlock ∧ k_ ≠ gb358 ∧ k_ ≠ g)) k_ ∧ some k_ ≠ v360.ownBlock) rfl rfl ?aO ?aR (fun _ hk => hk) ?aF (Below.refl _ _) ?aS ?aL ?_
                (case aR => exact (by skip; exact Kd.N_F (Kd.N_mono (ok' := (fun k_ => ((fun k_ => (w.heap.size ≤ k_) ∧ some k_ ≠ ownBlock (.slice Ao126 t350.length co126) ∧ some k_ ≠ ownBlock (.slice Ao127 t353.length co127) ∧ some k_ ≠ v366.ownBlock ∧ k_ ≠ gb358 ∧ k_ ≠ g)) k_ ∧ some k_ ≠ v360.ownBlock)) (HO_4.out) (fun k_ hk => ⟨⟨hk.1.1.1, ⟨hk.1.1.2.1, ⟨hk.1.1.2.2.1, ⟨hk.1.2, ⟨hk.1.1.2.2.2.2, hk.1.1.2.2.2.1⟩⟩⟩⟩⟩, hk.2⟩))))
                (case aF => exact (fun k_ hk => ⟨(Nat.le_trans (keep_size (w := w) (g := g) (row := none) (by exact jK HK.out)) hk), Kd.fresh' (rl HO352.out) k_ hk, Kd.fresh' (rl HO355.out) k_ hk, Kd.fresh' (Kd.N_lt (by exact lN <| HO367.out)) k_ hk, Kd.freshB (g := gb358) (o := .cells #[.int .i64 t347, .int .i64 t348, .int .i64 t349, .slice Ao126 t350.length co126, .slice Ao127 t353.length co127, .int .i64 t356] 45 (0, 0)) (by exact lK BK358.out) k_ hk, IsS69.fresh (by exact IsS69.j HI0.out) k_ hk⟩))
                (case aO => exact (by exact lN <| Kd.N_mono HO361.out (fun _ hk => ⟨hk.1, ⟨hk.2.2.1, ⟨hk.2.2.2.1, ⟨hk.2.2.2.2.1, ⟨hk.2.2.2.2.2.1, hk.2.2.2.2.2.2⟩⟩⟩⟩⟩)))
                (case aS => exact (keep_size (w := w) (g := g) (row := none) (by exact jK HK.out)))
                (case aL => have := LMc93.out; omega)
                intro v363 w135 ho hb hg hat
                rw [← Ny362.out] at ho
                replace HO_4 := aM (Kd.N_afterv (ok := (fun k_ => (w.heap.size ≤ k_) ∧ some k_ ≠ ownBlock (.slice Ao126 t350.length co126) ∧ some k_ ≠ ownBlock (.slice Ao127 t353.length co127) ∧ some k_ ≠ v366.ownBlock ∧ k_ ≠ g ∧ k_ ≠ gb358)) (by exact lN <| Kd.N_mono HO_4.out (fun _ hk => ⟨⟨hk.1.1.1, ⟨hk.1.1.2.1, ⟨hk.1.1.2.2.1, ⟨hk.1.2, ⟨hk.1.1.2.2.2.1, hk.1.1.2.2.2.2⟩⟩⟩⟩⟩, hk.2⟩)) hg hat)
                replace HI0 := aM (IsS69.grown (by exact IsS69.j HI0.out) hg (IsS69.own_neN HI0.out HO361.out (by decide)))
                replace HO352 := aM (Kd.R_over' (by exact lR HO352.out) (Kd.N_typed (by exact lN <| HO361.out)) (by decide) hg)
                replace HO355 := aM (Kd.R_over' (by exact lR HO355.out) (Kd.N_typed (by exact lN <| HO361.out)) (by decide) hg)
                replace BK358 := aM (blk_grown (g := gb358) (o := .cells #[.int .i64 t347, .int .i64 t348, .int .i64 t349, .slice Ao126 t350.length co126, .slice Ao127 t353.length co127, .int .i64 t356] 45 (0, 0)) (by exact lK BK358.out) hg (Kd.N_away HO361.out (fun _ hk => hk.2.2.2.2.2.1)))
                replace HO367 := aM (Kd.N_afterv (ok := (fun k_ => (w.heap.size ≤ k_) ∧ some k_ ≠ ownBlock (.slice Ao128 x4_2.length co128) ∧ k_ ≠ gb358 ∧ k_ ≠ g)) (by exact lN <| HO367.out) hg hat)
                replace HB := aM (below_weaken (by exact jB HB.out) HL.out hb)
                replace HK := aM (KeepBut.trans (by exact jK HK.out) (KeepBut.of_grown hg g) (Kd.N_base2 HO361.out))
                have HO364 := aM (ho)
                clear HO361 ho hb hg hat
                refine hK.out _ _ (cz6 BK358.out) (fun hHeld => ?_)
                clear hK K
                refine norm_ (a' := ?_) ?_ ?_
                rotate_left
                ·show Act.put _ (some 74) _ = _
                 simp only [Act.put, sA, s0, sS, i64_w, i32_w]
                 rfl
                exact norm_ (by simp only [putAll, Act.put, List.setIfInBounds_toArray, List.set_cons_zero, List.set_cons_succ]) (hCont (v360, v363, v366) _ ⟨hHeld, (by exact lR HO352.out), (by exact lR HO355.out), (by exact lN <| Kd.N_mono HO364.out (fun _ hk => ⟨hk.1, ⟨hk.2.1, ⟨hk.2.2.1, ⟨hk.2.2.2.1, ⟨hk.2.2.2.2.2, hk.2.2.2.2.1⟩⟩⟩⟩⟩)), (by exact lN <| Kd.N_mono HO367.out (fun _ hk => ⟨hk.1.1, ⟨hk.2, ⟨hk.1.2.1, ⟨hk.1.2.2.2, hk.1.2.2.1⟩⟩⟩⟩)), (by exact lN <| Kd.N_mono HO_4.out (fun _ hk => ⟨hk.1.1, ⟨hk.1.2.1, ⟨hk.1.2.2.1, ⟨hk.2, ⟨hk.1.2.2.2.1, ⟨hk.1.2.2.2.2.1, hk.1.2.2.2.2.2⟩⟩⟩⟩⟩⟩)), (by exact lK BK358.out), (by exact IsS69.j HI0.out), (by exact jK HK.out), (by exact jB HB.out)⟩)
              rintro ⟨v360, v363, v366⟩ w136 ⟨hS_, h0_, h1_, h2_, h3_, h4_, h5_, h6_, h7_, h8_⟩
              replace HO352 : Aside0 (Kd.R (Kd.int .i64) 3 w136 w.heap.size (fun k_ => (w.heap.size ≤ k_) ∧ some k_ ≠ ownBlock (.slice Ao127 t353.length co127)) (.slice Ao126 t350.length co126) t350) := ⟨h0_⟩
              replace HO355 : Aside0 (Kd.R (Kd.int .i64) 3 w136 w.heap.size (fun k_ => (w.heap.size ≤ k_) ∧ some k_ ≠ ownBlock (.slice Ao126 t350.length co126)) (.slice Ao127 t353.length co127) t353) := ⟨h1_⟩
              have HO364 : Aside0 (Kd.N k45 45 w136 w.heap.size (fun k_ => (w.heap.size ≤ k_) ∧ some k_ ≠ ownBlock (.slice Ao126 t350.length co126) ∧ some k_ ≠ ownBlock (.slice Ao127 t353.length co127) ∧ some k_ ≠ v366.ownBlock ∧ k_ ≠ g ∧ k_ ≠ gb358) v363 y362) := ⟨h2_⟩
              have HO367 : Aside0 (Kd.N k45 45 w136 w.heap.size (fun k_ => (w.heap.size ≤ k_) ∧ some k_ ≠ v363.ownBlock ∧ some k_ ≠ ownBlock (.slice Ao128 x4_2.length co128) ∧ k_ ≠ g ∧ k_ ≠ gb358) v366 y365) := ⟨h3_⟩
              replace HO_4 : Aside0 (Kd.N k45 45 w136 w.heap.size (fun k_ => (w.heap.size ≤ k_) ∧ some k_ ≠ ownBlock (.slice Ao126 t350.length co126) ∧ some k_ ≠ ownBlock (.slice Ao127 t353.length co127) ∧ some k_ ≠ v363.ownBlock ∧ some k_ ≠ v366.ownBlock ∧ k_ ≠ g ∧ k_ ≠ gb358) (.slice Ao128 x4_2.length co128) x4_2) := ⟨h4_⟩
              replace BK358 : Aside0 (w136.heap[gb358]? = some (.cells #[.int .i64 t347, .int .i64 t348, .int .i64 t349, .slice Ao126 t350.length co126, .slice Ao127 t353.length co127, .int .i64 t356] 45 (0, 0))) := ⟨h5_⟩
              replace HI0 : Aside0 (IsS69 w0 w136 g s0_0 t357) := ⟨h6_⟩
              replace HK : Aside0 (KeepBut w w136 g none) := ⟨h7_⟩
              replace HB : Aside0 (Below w0.heap.size w0 w136) := ⟨h8_⟩
              clear h0_ h1_ h2_ h3_ h4_ h5_ h6_ h7_ h8_
              have hHeld : w136.cell? ⟨gb358, 0, none⟩ = some (.int .i64 t347) ∧ w136.cell? ⟨gb358, 1, none⟩ = some (.int .i64 t348) ∧ w136.cell? ⟨gb358, 2, none⟩ = some (.int .i64 t349) ∧ w136.cell? ⟨gb358, 3, none⟩ = some (.slice Ao126 t350.length co126) ∧ w136.cell? ⟨gb358, 4, none⟩ = some (.slice Ao127 t353.length co127) ∧ w136.cell? ⟨gb358, 5, none⟩ = some (.int .i64 t356) := hS_
              obtain ⟨Ao138, co138, eo138⟩ := Kd.N_slice HO367.out
              (first | subst eo138 | (injection eo138 with f1_ f2_ f3_; have f4_ := f1_.symm; have f5_ := f3_.symm; clear f1_ f2_ f3_; subst f4_; subst f5_))
              refine norm_ (a' := ?_) ?_ ?_
              rotate_left
              ·simp only [putAll, Act.put, List.setIfInBounds_toArray, List.set_cons_zero, List.set_cons_succ]
               rfl
              refine one_ (i := 5) (N := some 77) #[true, true, true, true, true, true, false] rfl rfl (by kernel_rfl) (by decide) (fun K hK => ?_)
              refine Kd.N_append_rows_step k45 w.heap.size (by rfl) (.tmp 74) (.tmp 76) 33 45 (.agg #[(.int .i64 0), (.int .i64 0), (.int .i64 0), (.slice none 0 0), (.slice none 0 0), (.int .i64 0)]) 80 rfl Try.underlying33 info45 rfl (by decide) (by omega) v363 y362 y365 _ _ _ (fun k_ => (w.heap.size ≤ k_) ∧ k_ ≠ gb358 ∧ k_ ≠ g) (fun k_ => ((fun k_ => (w.heap.size ≤ k_) ∧ k_ ≠ gb358 ∧ k_ ≠ g)) k_ ∧ some k_ ≠ v363.ownBlock) rfl rfl ?aO ?aR (fun _ hk => hk) ?aF (Below.refl _ _) ?aS ?aL ?_
              (case aR => exact (by skip; exact Kd.N_F (Kd.N_mono (ok' := (fun k_ => ((fun k_ => (w.heap.size ≤ k_) ∧ k_ ≠ gb358 ∧ k_ ≠ g)) k_ ∧ some k_ ≠ v363.ownBlock)) (HO367.out) (fun k_ hk => ⟨⟨hk.1, ⟨hk.2.2.2.2, hk.2.2.2.1⟩⟩, hk.2.1⟩))))
              (case aF => exact (fun k_ hk => ⟨(Nat.le_trans (keep_size (w := w) (g := g) (row := none) (by exact jK HK.out)) hk), Kd.freshB (g := gb358) (o := .cells #[.int .i64 t347, .int .i64 t348, .int .i64 t349, .slice Ao126 t350.length co126, .slice Ao127 t353.length co127, .int .i64 t356] 45 (0, 0)) (by exact lK BK358.out) k_ hk, IsS69.fresh (by exact IsS69.j HI0.out) k_ hk⟩))
              (case aO => exact (by exact lN <| Kd.N_mono HO364.out (fun _ hk => ⟨hk.1, ⟨hk.2.2.2.2.2, hk.2.2.2.2.1⟩⟩)))
              (case aS => exact (keep_size (w := w) (g := g) (row := none) (by exact jK HK.out)))
              (case aL => have := LMc94.out; omega)
              intro v369 w137 ho hb hg hat
              rw [← Ny368.out] at ho
              replace HO_4 := aM (Kd.N_afterv (ok := (fun k_ => (w.heap.size ≤ k_) ∧ some k_ ≠ ownBlock (.slice Ao126 t350.length co126) ∧ some k_ ≠ ownBlock (.slice Ao127 t353.length co127) ∧ some k_ ≠ ownBlock (.slice Ao138 y365.length co138) ∧ k_ ≠ g ∧ k_ ≠ gb358)) (by exact lN <| Kd.N_mono HO_4.out (fun _ hk => ⟨⟨hk.1, ⟨hk.2.1, ⟨hk.2.2.1, ⟨hk.2.2.2.2.1, ⟨hk.2.2.2.2.2.1, hk.2.2.2.2.2.2⟩⟩⟩⟩⟩, hk.2.2.2.1⟩)) hg hat)
              replace HI0 := aM (IsS69.grown (by exact IsS69.j HI0.out) hg (IsS69.own_neN HI0.out HO364.out (by decide)))
              replace HO352 := aM (Kd.R_over' (by exact lR HO352.out) (Kd.N_typed (by exact lN <| HO364.out)) (by decide) hg)
              replace HO355 := aM (Kd.R_over' (by exact lR HO355.out) (Kd.N_typed (by exact lN <| HO364.out)) (by decide) hg)
              replace BK358 := aM (blk_grown (g := gb358) (o := .cells #[.int .i64 t347, .int .i64 t348, .int .i64 t349, .slice Ao126 t350.length co126, .slice Ao127 t353.length co127, .int .i64 t356] 45 (0, 0)) (by exact lK BK358.out) hg (Kd.N_away HO364.out (fun _ hk => hk.2.2.2.2.2)))
              replace HO367 := aM (Kd.N_afterv (ok := (fun k_ => (w.heap.size ≤ k_) ∧ some k_ ≠ ownBlock (.slice Ao128 x4_2.length co128) ∧ k_ ≠ g ∧ k_ ≠ gb358)) (by exact lN <| Kd.N_mono HO367.out (fun _ hk => ⟨⟨hk.1, ⟨hk.2.2.1, ⟨hk.2.2.2.1, hk.2.2.2.2⟩⟩⟩, hk.2.1⟩)) hg hat)
              replace HB := aM (below_weaken (by exact jB HB.out) HL.out hb)
              replace HK := aM (KeepBut.trans (by exact jK HK.out) (KeepBut.of_grown hg g) (Kd.N_base2 HO364.out))
              have HO370 := aM (ho)
              clear HO364 ho hb hg hat
              obtain ⟨Ao139, co139, eo139⟩ := Kd.N_slice HO370.out
              (first | subst eo139 | (injection eo139 with f1_ f2_ f3_; have f4_ := f1_.symm; have f5_ := f3_.symm; clear f1_ f2_ f3_; subst f4_; subst f5_))
              refine hK.out _ _ (cz6 BK358.out) (fun hHeld => ?_)
              clear hK K
              refine norm_ (a' := ?_) ?_ ?_
              rotate_left
              ·show Act.put _ (some 77) _ = _
               simp only [Act.put, sA, s0, sS, i64_w, i32_w]
               rfl
              refine one_ (i := 6) (N := some 78) #[true, true, true, true, true, true, true] rfl rfl (by kernel_rfl) (by decide) (fun K hK => ?_)
              refine goes_ Try.func40 (by kernel_rfl) rfl #[.slice Ao139 y368.length co139] (by rfl) rfl rfl (by (try simp only [mA, mC, mN]); first | done | rfl | (simp only [ld, lt]; rfl)) ?_
              with_reducible refine (spec_ActOk.calls k2 _ _ y368 false _ ?side1 ?side2 A95.out).mono ?_
              (case side1 => exact lC <| (Kd.N_reads' HO370.out).2.2)
              (case side2 => exact (Kd.N_reads' HO370.out).2.1)
              rintro e w140 ⟨rfl, hb⟩
              refine ⟨_, rfl, ?_⟩
              replace HO_4 := aM (Kd.N_below (by exact lN <| HO_4.out) hb)
              replace HO352 := aM (rb HO352.out hb)
              replace HO355 := aM (rb HO355.out hb)
              replace HO367 := aM (Kd.N_below (by exact lN <| HO367.out) hb)
              replace HO370 := aM (Kd.N_below (by exact lN <| HO370.out) hb)
              replace HI0 := aM (IsS69.below (by exact IsS69.j HI0.out) hb)
              replace BK358 := aM (bb BK358.out hb)
              replace HK := aM (kbl HK.out hb)
              replace HB := aM (bj HB.out hb)
              (try clear hb)
              (try clear hb2)
              (try clear hk)
              (try clear hi)
              refine hK.out _ _ (cz6 BK358.out) (fun hHeld => ?_)
              clear hK K
              refine norm_ (a' := ?_) ?_ ?_
              rotate_left
              ·show Act.put _ (some 78) _ = _
               simp only [Act.put, sA, s0, sS, i64_w, i32_w]
               rfl
              refine done_ (by kernel_rfl) ?_
              try go_wp2
              go_roundg k2
              case measure => have := HJ3.out; have := HK2.out; omega
              case rel => exact ⟨(x4_2), (wrap64 (x5_2 - 1)), (t357), (by first | rfl | (simp; done) | (simp [*]; done)), H', ⟨by have := HJ3.out; have := HK2.out; omega⟩, ⟨by exact lN <| Kd.N_mono HO_4.out (fun _ hk => ⟨hk.1.1, hk.1.2.2.2.2.1⟩)⟩, ⟨by exact IsS69.j HI0.out⟩, ⟨by exact jK HK.out⟩, ⟨by exact jB HB.out⟩⟩
            ·rw [if_neg c94] at H
             exact absurd H (by simp)
           ·rw [if_neg c93] at H
            exact absurd H (by simp)
          ·rw [if_neg c91] at H
           have c91b0 := decide_eq_false c91
           clear c91
           simp only [Option.some.injEq, Prod.mk.injEq] at H
           obtain ⟨rfl, rfl⟩ := H
           go_wp2
           go_ret
           exact ⟨_, er, by exact lN <| Kd.N_mono HO_4.out (fun _ hk => hk.1), by exact IsS69.j HI0.out, by exact jB HB.out, by exact jK HK.out⟩

end Go.Proofs.Ytgalnmgkcdmnkaa.QFnPlnHome

-- shorter
