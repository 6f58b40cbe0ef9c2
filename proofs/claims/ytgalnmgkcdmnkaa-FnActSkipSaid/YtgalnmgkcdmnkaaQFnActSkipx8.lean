/- Plain functions, and that the Go code computes them: written by a program of this session over the seat's translation; the conditions stand in each theorem. -/
import Derived.Test.YtgalnmgkcdmnkaaQFnActSkipx0
import Derived.Test.YtgalnmgkcdmnkaaQFnActSkipx1
import Derived.Test.YtgalnmgkcdmnkaaQFnActSkipx7
namespace Go.Proofs.Ytgalnmgkcdmnkaa.QFnActSkip
open Go.RowKit Go.Proofs.YtgalnmgkcdmnkaaW.PrintWords Go.Proofs.YtgalnmgkcdmnkaaW.PrintLast Go.Proofs.YtgalnmgkcdmnkaaW.PrintMore Go.Proofs.Ytgalnmgkcdmnkaa.HWords
open Value (ownBlock)
attribute [local go_sem] max2_int min2_int max_two min_two max_three min_three max_four min_four   -- for this text's walks alone
set_option linter.unusedVariables false
set_option linter.unusedSimpArgs false

/-! ### spec_l20Vals: function 34 -/
def spec_l20Vals.l0 : Nat → Int → List Int → Int → List Int → Int → Option (List Int × Int)
 | 0, _, _, _, _, _ => none
 | k + 1, x1, x5, x6, x1000, x1001 => if x6 < 3 then ((some (([0, 1, 5, 20, (-3), 60, 10000, (-10000), 9996] : List Int) : List Int)).bind fun y512 => ((spec_l20Rd_pick.f k x1000 x1001 9).bind fun bt515 => (if 0 ≤ bt515.1 then (if bt515.1 < (y512.length : Int) then (if x5.length < 17592186044416 then (spec_l20Vals.l0 k x1 (x5 ++ [rd y512 bt515.1]) (wrap64 (x6 + 1)) x1000 bt515.2) else (none)) else (none)) else (none)))) else ((spec_l20Rd_pick.f k x1000 x1001 x1).bind fun bt521 => (if bt521.1 = 0 then ((spec_l20Rd_pick.f k x1000 bt521.2 3).bind fun bt523 => (if bt523.1 = 0 then (if 2 ≤ (x5.length : Int) then (some ((x5.take (2 : Int).toNat), bt523.2)) else (none)) else (if bt523.1 = 1 then (if x5.length < 17592186044416 then (some ((x5 ++ [0]), bt523.2)) else (none)) else ((spec_l20Rd_pick.f k x1000 bt523.2 3).bind fun bt531 => ((some (([10001, (-10001)] : List Int) : List Int)).bind fun y533 => ((spec_l20Rd_pick.f k x1000 bt531.2 2).bind fun bt536 => (if 0 ≤ bt536.1 then (if bt536.1 < (y533.length : Int) then (if 0 ≤ bt531.1 then (if bt531.1 < (x5.length : Int) then (some ((x5.set (bt531.1 : Int).toNat (rd y533 bt536.1)), bt536.2)) else (none)) else (none)) else (none)) else (none)))))))) else (some (x5, bt521.2))))
def spec_l20Vals.f (k : Nat) (s0_0 : List Int) (s0_1 : Int) (a1 : Int) : Option (List Int × Int) := spec_l20Vals.l0 k a1 (([] : List Int)) 0 s0_0 s0_1
theorem spec_l20Vals.mono_l : ∀ k, (∀ y0 y1 y2 y3 y4, LeO (spec_l20Vals.l0 k y0 y1 y2 y3 y4) (spec_l20Vals.l0 (k + 1) y0 y1 y2 y3 y4))
 | 0 => fun _ _ _ _ _ r h => by simp [spec_l20Vals.l0] at h
 | k + 1 => by
  have ih0 := spec_l20Vals.mono_l k
  ·intro y0 y1 y2 y3 y4
   unfold spec_l20Vals.l0
   repeat' first
   | (with_reducible exact ih0 _ _ _ _ _)
   | (with_reducible exact spec_l20Rd_pick.mono _ _ _ _)
   | (with_reducible exact LeO.refl _)
   | (with_reducible exact LeO.none _)
   | (with_reducible refine LeO.ite ?_ ?_)
   | (with_reducible refine LeO.bind ?_ (fun _ => ?_))
   | exact LeO.none _
   | refine LeO.ite ?_ ?_
   | refine LeO.bind ?_ (fun _ => ?_)
theorem spec_l20Vals.mono : ∀ a0 a1 a2 k, LeO (spec_l20Vals.f k a0 a1 a2) (spec_l20Vals.f (k + 1) a0 a1 a2) := by
 intro a0 a1 a2 k
 have ih0 := spec_l20Vals.mono_l k
 unfold spec_l20Vals.f
 repeat' first
   | (with_reducible exact ih0 _ _ _ _ _)
   | (with_reducible exact spec_l20Rd_pick.mono _ _ _ _)
   | (with_reducible exact LeO.refl _)
   | (with_reducible exact LeO.none _)
   | (with_reducible refine LeO.ite ?_ ?_)
   | (with_reducible refine LeO.bind ?_ (fun _ => ?_))
   | exact LeO.none _
   | refine LeO.ite ?_ ?_
   | refine LeO.bind ?_ (fun _ => ?_)
set_option maxHeartbeats 8000000 in
set_option maxRecDepth 100000 in
theorem spec_l20Vals.calls (k : Nat) (g : Nat) (s0_0 : List Int) (s0_1 : Int) (a1 : Int) (r1 : List Int) (r2 : Int) (w0 w : World) (hI : IsS69 w0 w g s0_0 s0_1) (hB : Below w0.heap.size w0 w) (h : spec_l20Vals.f k s0_0 s0_1 a1 = some (r1, r2)) :
  Calls Try.prog 34 #[.pointer (some ⟨g, 0, none⟩), .int .i64 a1] w fun e w' => ∃ v0_ : Value, e = .returned (v0_) ∧ Kd.R (Kd.int .i64) 3 w' w.heap.size (fun _ => True) v0_ r1 ∧ IsS69 w0 w' g s0_0 r2 ∧ Below w0.heap.size w0 w' ∧ KeepBut w w' g none := by
 have HI0 := Aside0.mk hI
 have IHI0 : Nonempty _ := ⟨IsS69.ge hI⟩
 have HK := Aside0.mk (KeepBut.refl w g none)
 have HL := Aside0.mk hB.size
 clear hI
 have HW0 := Aside0.mk hB.size
 have HB := Aside0.mk hB
 clear hB
 have H : (spec_l20Vals.l0 k a1 (([] : List Int)) 0 s0_0 s0_1) = some (r1, r2) := h
 clear h
 obtain ⟨y509, hy509⟩ : ∃ y_ : List Int, y_ = (([] : List Int)) := ⟨_, rfl⟩
 replace H : (spec_l20Vals.l0 k a1 y509 0 s0_0 s0_1) = some (r1, r2) := by first | (rw [hy509]; exact H) | exact H
 have Ny509 := Aside0.mk hy509
 clear hy509
 have H' := Aside0.mk H
 clear H
 go_enter Try.func34, Try.ntmps34
 go_wp2_with (first | ((with_reducible refine gate_dst (N := 7) rfl ?_); refine Kd.R_lit (Kd.int .i64) _ 3 ?hg (N := 7) ?hd (xs := ([] : List Int)) (inner := []) (ok := fun _ => True) (okp := fun _ => True) ?hr ?hp (fun _ hk => hk) trivial (Below.refl _ _) (Nat.le_refl _) (by simp) ?_; (case hd => rfl); (case hg => rfl); (case hr => first | (go_simp; done) | (go_simp; rfl)); (case hp => exact (Reps.none _ _)); intro v510 w3 ho4 hb hg_ hnew_; clear hg_ hnew_; (first | rw [← Ny509.out] at ho4 | (simp only [Int.reduceToNat] at ho4; rw [← Ny509.out] at ho4)); have HO511 := Aside0.mk (lw ho4 HK.out); replace HI0 := Aside0.mk (IsS69.below (by exact IsS69.j HI0.out) hb); replace HK := Aside0.mk (kbl HK.out hb); replace HB := Aside0.mk (bj HB.out hb); clear hb ho4))
 go_loopg [5, 6] k (fun kq v5 v6 w' => ∃ (x5_1 : List Int) (x6_1 : Int) (x1001_1 : Int), v6 = .int .i64 x6_1 ∧ Aside0 (spec_l20Vals.l0 kq a1 x5_1 x6_1 s0_0 x1001_1 = some (r1, r2)) ∧ Aside0 (kq ≤ k) ∧ Aside0 (Kd.R (Kd.int .i64) 3 w' w.heap.size (fun _ => True) v5 x5_1) ∧ Aside0 (IsS69 w0 w' g s0_0 x1001_1) ∧ Aside0 (KeepBut w w' g none) ∧ Aside0 (Below w0.heap.size w0 w'))
 case atStart => exact ⟨(y509), (0), (s0_1), (by first | rfl | (simp; done) | (simp [*]; done)), H', ⟨Nat.le_refl _⟩, ⟨by exact lR <| HO511.out⟩, ⟨by exact IsS69.j HI0.out⟩, ⟨by exact jK HK.out⟩, ⟨by exact jB HB.out⟩⟩
 case round =>
  clear H'
  try clear p2
  try clear c3
  obtain ⟨x5_1, x6_1, x1001_1, rfl, HA, HK1, HO_5, HI0, HK, HB⟩ := hrel
  cases gk with
  | zero => exact absurd HA.out (by simp [spec_l20Vals.l0])
  | succ k1 =>
   have H := HA.out
   clear HA
   simp only [spec_l20Vals.l0] at H
   by_cases c5 : x6_1 < 3
   ·rw [if_pos c5] at H
    have c5b0 := decide_eq_true c5
    clear c5
    obtain ⟨y512, hy512⟩ : ∃ y_ : List Int, y_ = (([0, 1, 5, 20, (-3), 60, 10000, (-10000), 9996] : List Int)) := ⟨_, rfl⟩
    replace H : ((spec_l20Rd_pick.f k1 s0_0 x1001_1 9).bind fun bt515 => (if 0 ≤ bt515.1 then (if bt515.1 < (y512.length : Int) then (if x5_1.length < 17592186044416 then (spec_l20Vals.l0 k1 a1 (x5_1 ++ [rd y512 bt515.1]) (wrap64 (x6_1 + 1)) s0_0 bt515.2) else (none)) else (none)) else (none))) = some (r1, r2) := by first | (rw [hy512]; exact H) | exact H
    have Ny512 := Aside0.mk hy512
    clear hy512
    obtain ⟨⟨t515, t516⟩, A6, H⟩ := bS H
    try dsimp only at H
    by_cases c7 : 0 ≤ t515
    ·rw [if_pos c7] at H
     have c7b0 := decide_eq_true c7
     clear c7
     by_cases c8 : t515 < (y512.length : Int)
     ·rw [if_pos c8] at H
      have c8b0 := decide_eq_true c8
      clear c8
      by_cases c9 : x5_1.length < 17592186044416
      ·rw [if_pos c9] at H
       have LMc9 := Aside0.mk c9
       clear c9
       obtain ⟨y518, hy518⟩ : ∃ y_ : List Int, y_ = (x5_1 ++ [rd y512 t515]) := ⟨_, rfl⟩
       replace H : (spec_l20Vals.l0 k1 a1 y518 (wrap64 (x6_1 + 1)) s0_0 t516) = some (r1, r2) := by first | (rw [hy518]; exact H) | exact H
       have Ny518 := Aside0.mk hy518
       clear hy518
       have H' := Aside0.mk H
       clear H
       go_wp2_with (first | ((with_reducible refine gate_dst (N := 13) rfl ?_); refine Kd.R_lit (Kd.int .i64) _ 3 ?hg (N := 13) ?hd (xs := ([0, 1, 5, 20, (-3), 60, 10000, (-10000), 9996] : List Int)) (inner := [.int .i64 0, .int .i64 1, .int .i64 5, .int .i64 20, .int .i64 (-3), .int .i64 60, .int .i64 10000, .int .i64 (-10000), .int .i64 9996]) (ok := fun _ => True) (okp := fun _ => True) ?hr ?hp (fun _ hk => hk) trivial (Below.refl _ _) (Nat.le_refl _) (by simp) ?_; (case hd => rfl); (case hg => rfl); (case hr => first | (go_simp; done) | (go_simp; rfl)); (case hp => exact (Reps.one (show Kd.M (Kd.int .i64) _ _ _ 0 [.int .i64 0] from rfl) (Reps.one (show Kd.M (Kd.int .i64) _ _ _ 1 [.int .i64 1] from rfl) (Reps.one (show Kd.M (Kd.int .i64) _ _ _ 5 [.int .i64 5] from rfl) (Reps.one (show Kd.M (Kd.int .i64) _ _ _ 20 [.int .i64 20] from rfl) (Reps.one (show Kd.M (Kd.int .i64) _ _ _ (-3) [.int .i64 (-3)] from rfl) (Reps.one (show Kd.M (Kd.int .i64) _ _ _ 60 [.int .i64 60] from rfl) (Reps.one (show Kd.M (Kd.int .i64) _ _ _ 10000 [.int .i64 10000] from rfl) (Reps.one (show Kd.M (Kd.int .i64) _ _ _ (-10000) [.int .i64 (-10000)] from rfl) (Reps.one (show Kd.M (Kd.int .i64) _ _ _ 9996 [.int .i64 9996] from rfl) (Reps.none _ _))))))))))); intro v513 w10 ho11 hb hg_ hnew_; clear hg_ hnew_; (first | rw [← Ny512.out] at ho11 | (simp only [Int.reduceToNat] at ho11; rw [← Ny512.out] at ho11)); have HO514 := Aside0.mk (Kd.R_lower (Kd.R_new' ho11 (rl HO_5.out)) (keep_size (w := w) (g := g) (row := none) (by exact jK HK.out))); replace HO_5 := Aside0.mk (Kd.R_elder' (by exact lR HO_5.out) (Kd.R_base ho11) hb); replace HI0 := Aside0.mk (IsS69.below (by exact IsS69.j HI0.out) hb); replace HK := Aside0.mk (kbl HK.out hb); replace HB := Aside0.mk (bj HB.out hb); clear hb ho11) | ((with_reducible refine gate_callee (f := 20) rfl ?_); refine gL (some 15) Try.func20 #[.pointer (some ⟨g, 0, none⟩), .int .i64 9] ?_; (with_reducible refine (spec_l20Rd_pick.calls k1 g s0_0 x1001_1 9 t515 t516 w0 _ ?side1 ?side2 A6.out).mono ?_); (case side1 => exact IsS69.j HI0.out); (case side2 => exact jB HB.out); rintro e w12 ⟨rfl, hi, hb, hk⟩; refine ⟨_, rfl, ?_⟩; replace HO_5 := Aside0.mk (IsS69.kp (f1 := x1001_1) (by exact IsS69.j HI0.out) (lR HO_5.out) hk); replace HO514 := Aside0.mk (IsS69.kp (f1 := x1001_1) (by exact IsS69.j HI0.out) (lR HO514.out) hk); replace HK := Aside0.mk (kt HK.out hk); replace HB := Aside0.mk (hb); replace HI0 := Aside0.mk (hi); (try clear hb hk hi); obtain ⟨Ao13, co13, eo13⟩ := Kd.R_slice HO514.out; subst eo13; have p517 : 0 ≤ (t515 : Int) := of_decide_eq_true (by first | (with_reducible assumption) | assumption); have q517 : t515 < (y512.length : Int) := of_decide_eq_true (by first | (with_reducible assumption) | assumption); obtain ⟨ad517, e517, hx517_0⟩ := Kd.at_int (Kd.R_reads' HO514.out).2.2 t515 p517 q517; cases e517; replace p517 := eq_true p517; replace q517 := eq_true q517) | ((with_reducible refine gate_builtin (b := .append) (xs := #[.tmp 12, .tmp 18]) rfl ?_); at_builtin; refine Kd.R_append (Kd.int .i64) w.heap.size rfl (.tmp 12) (.tmp 18) 24 3 (.int .i64 0) 8 rfl Try.underlying24 info3 rfl (by decide) (by omega) u5 x5_1 (rd y512 t515) [.int .i64 (rd y512 t515)] (fun k_ => some k_ ≠ ownBlock (.slice (some ad517) y512.length co13)) (fun _ => False) rfl rfl ?aP (fun _ hk => hk.elim) ?aF ?aO (Below.refl _ _) ?aS ?aL ?_; (case aP => exact rfl); (case aF => exact (fun k_ hk => Kd.fresh' (rl HO514.out) k_ hk)); (case aO => exact (by exact lR <| Kd.R_mono HO_5.out (fun _ hk => hk.2))); (case aS => exact (keep_size (w := w) (g := g) (row := none) (by exact jK HK.out))); (case aL => have := LMc9.out; omega); intro v519 w14 ho hb hg hat; rw [← Ny518.out] at ho; replace HI0 := Aside0.mk (IsS69.grown (by exact IsS69.j HI0.out) hg (IsS69.own_ne HI0.out HO_5.out (by decide))); replace HO514 := Aside0.mk (Kd.R_after (ok := (fun _ => True)) (by exact lR HO514.out) hg hat); replace HB := Aside0.mk (below_weaken (by exact jB HB.out) HL.out hb); replace HK := Aside0.mk (KeepBut.trans (by exact jK HK.out) (KeepBut.of_grown hg g) (Kd.R_base2 HO_5.out)); have HO520 := Aside0.mk (ho); clear HO_5 ho hb hg hat))
       go_roundg k1
       case measure => have := HK1.out; omega
       case rel => exact ⟨(y518), (wrap64 (x6_1 + 1)), (t516), (by first | rfl | (simp; done) | (simp [*]; done)), H', ⟨by have := HK1.out; omega⟩, ⟨by exact lR <| Kd.R_mono HO520.out (fun _ hk => trivial)⟩, ⟨by exact IsS69.j HI0.out⟩, ⟨by exact jK HK.out⟩, ⟨by exact jB HB.out⟩⟩
      ·rw [if_neg c9] at H
       exact absurd H (by simp)
     ·rw [if_neg c8] at H
      exact absurd H (by simp)
    ·rw [if_neg c7] at H
     exact absurd H (by simp)
   ·rw [if_neg c5] at H
    have c5b0 := decide_eq_false c5
    clear c5
    obtain ⟨⟨t521, t522⟩, A15, H⟩ := bS H
    try dsimp only at H
    by_cases c16 : t521 = 0
    ·rw [if_pos c16] at H
     have c16b0 := beq_iff_eq.mpr c16
     have c16b1 := bne_eq_false_iff_eq.mpr c16
     clear c16
     obtain ⟨⟨t523, t524⟩, A17, H⟩ := bS H
     try dsimp only at H
     by_cases c18 : t523 = 0
     ·rw [if_pos c18] at H
      have c18b0 := beq_iff_eq.mpr c18
      have c18b1 := bne_eq_false_iff_eq.mpr c18
      clear c18
      by_cases c19 : 2 ≤ (x5_1.length : Int)
      ·rw [if_pos c19] at H
       have c19b0 := eq_true c19
       have c19b1 := decide_eq_true c19
       clear c19
       obtain ⟨y525, hy525⟩ : ∃ y_ : List Int, y_ = (x5_1.take (2 : Int).toNat) := ⟨_, rfl⟩
       replace H : (some (y525, t524)) = some (r1, r2) := by first | (rw [hy525]; exact H) | exact H
       have Ny525 := Aside0.mk hy525
       clear hy525
       simp only [Option.some.injEq, Prod.mk.injEq] at H
       obtain ⟨rfl, rfl⟩ := H
       go_wp2_with (first | ((with_reducible refine gate_callee (f := 20) rfl ?_); refine gL (some 22) Try.func20 #[.pointer (some ⟨g, 0, none⟩), .int .i64 a1] ?_; (with_reducible refine (spec_l20Rd_pick.calls k1 g s0_0 x1001_1 a1 t521 t522 w0 _ ?side1 ?side2 A15.out).mono ?_); (case side1 => exact IsS69.j HI0.out); (case side2 => exact jB HB.out); rintro e w20 ⟨rfl, hi, hb, hk⟩; refine ⟨_, rfl, ?_⟩; replace HO_5 := Aside0.mk (IsS69.kp (f1 := x1001_1) (by exact IsS69.j HI0.out) (lR HO_5.out) hk); replace HK := Aside0.mk (kt HK.out hk); replace HB := Aside0.mk (hb); replace HI0 := Aside0.mk (hi); (try clear hb hk hi)) | ((with_reducible refine gate_callee (f := 20) rfl ?_); refine gL (some 25) Try.func20 #[.pointer (some ⟨g, 0, none⟩), .int .i64 3] ?_; (with_reducible refine (spec_l20Rd_pick.calls k1 g s0_0 t522 3 t523 t524 w0 _ ?side1 ?side2 A17.out).mono ?_); (case side1 => exact IsS69.j HI0.out); (case side2 => exact jB HB.out); rintro e w21 ⟨rfl, hi, hb, hk⟩; refine ⟨_, rfl, ?_⟩; replace HO_5 := Aside0.mk (IsS69.kp (f1 := t522) (by exact IsS69.j HI0.out) (lR HO_5.out) hk); replace HK := Aside0.mk (kt HK.out hk); replace HB := Aside0.mk (hb); replace HI0 := Aside0.mk (hi); (try clear hb hk hi); obtain ⟨Ao22, co22, eo22⟩ := Kd.R_slice HO_5.out; subst eo22; have q23 : (2 : Int) ≤ ((x5_1.length : Int) : Int) := of_decide_eq_true (by first | (with_reducible assumption) | assumption); obtain ⟨i023, hi023, _, hsz23, _⟩ := info_parts info3; have hcut23 := cut_to (P := Try.prog) 24 3 .i64 Try.underlying24 hi023 Ao22 x5_1.length co22 2 (by omega) q23 (Kd.R_reads' HO_5.out).2.1; have hr23 := Kd.R_take (m := (2 : Int).toNat) HO_5.out (by omega); have hy23 : y525.length = (2 : Int).toNat := (by rw [Ny525.out, List.length_take]; omega); rw [← Ny525.out] at hr23; rw [← hy23] at hr23 hcut23; clear hy23 hi023 hsz23 HO_5; have HO527 := Aside0.mk hr23; clear hr23; replace q23 := eq_true q23))
       go_ret
       exact ⟨_, by first | rfl | (simp [errW_none, errW_some] <;> rfl) | (simp [*, errW_none, errW_some] <;> rfl), by exact lR <| HO527.out, by exact IsS69.j HI0.out, by exact jB HB.out, by exact jK HK.out⟩
      ·rw [if_neg c19] at H
       exact absurd H (by simp)
     ·rw [if_neg c18] at H
      have c18b0 := beq_eq_false_iff_ne.mpr c18
      have c18b1 := bne_iff_ne.mpr c18
      by_cases c24 : t523 = 1
      ·rw [if_pos c24] at H
       have c24b0 := beq_iff_eq.mpr c24
       have c24b1 := bne_eq_false_iff_eq.mpr c24
       clear c24
       by_cases c25 : x5_1.length < 17592186044416
       ·rw [if_pos c25] at H
        have LMc25 := Aside0.mk c25
        clear c25
        obtain ⟨y528, hy528⟩ : ∃ y_ : List Int, y_ = (x5_1 ++ [0]) := ⟨_, rfl⟩
        replace H : (some (y528, t524)) = some (r1, r2) := by first | (rw [hy528]; exact H) | exact H
        have Ny528 := Aside0.mk hy528
        clear hy528
        simp only [Option.some.injEq, Prod.mk.injEq] at H
        obtain ⟨rfl, rfl⟩ := H
        go_wp2_with (first | ((with_reducible refine gate_callee (f := 20) rfl ?_); refine gL (some 22) Try.func20 #[.pointer (some ⟨g, 0, none⟩), .int .i64 a1] ?_; (with_reducible refine (spec_l20Rd_pick.calls k1 g s0_0 x1001_1 a1 t521 t522 w0 _ ?side1 ?side2 A15.out).mono ?_); (case side1 => exact IsS69.j HI0.out); (case side2 => exact jB HB.out); rintro e w26 ⟨rfl, hi, hb, hk⟩; refine ⟨_, rfl, ?_⟩; replace HO_5 := Aside0.mk (IsS69.kp (f1 := x1001_1) (by exact IsS69.j HI0.out) (lR HO_5.out) hk); replace HK := Aside0.mk (kt HK.out hk); replace HB := Aside0.mk (hb); replace HI0 := Aside0.mk (hi); (try clear hb hk hi)) | ((with_reducible refine gate_callee (f := 20) rfl ?_); refine gL (some 25) Try.func20 #[.pointer (some ⟨g, 0, none⟩), .int .i64 3] ?_; (with_reducible refine (spec_l20Rd_pick.calls k1 g s0_0 t522 3 t523 t524 w0 _ ?side1 ?side2 A17.out).mono ?_); (case side1 => exact IsS69.j HI0.out); (case side2 => exact jB HB.out); rintro e w27 ⟨rfl, hi, hb, hk⟩; refine ⟨_, rfl, ?_⟩; replace HO_5 := Aside0.mk (IsS69.kp (f1 := t522) (by exact IsS69.j HI0.out) (lR HO_5.out) hk); replace HK := Aside0.mk (kt HK.out hk); replace HB := Aside0.mk (hb); replace HI0 := Aside0.mk (hi); (try clear hb hk hi)) | ((with_reducible refine gate_builtin (b := .append) (xs := #[.tmp 41, .tmp 42]) rfl ?_); at_builtin; refine Kd.R_append (Kd.int .i64) w.heap.size rfl (.tmp 41) (.tmp 42) 24 3 (.int .i64 0) 8 rfl Try.underlying24 info3 rfl (by decide) (by omega) u5 x5_1 0 [.int .i64 0] (fun _ => True) (fun _ => False) rfl rfl ?aP (fun _ hk => hk.elim) ?aF ?aO (Below.refl _ _) ?aS ?aL ?_; (case aP => exact rfl); (case aF => exact (fun _ _ => trivial)); (case aO => exact (by exact lR HO_5.out)); (case aS => exact (keep_size (w := w) (g := g) (row := none) (by exact jK HK.out))); (case aL => have := LMc25.out; omega); intro v529 w28 ho hb hg hat; rw [← Ny528.out] at ho; replace HI0 := Aside0.mk (IsS69.grown (by exact IsS69.j HI0.out) hg (IsS69.own_ne HI0.out HO_5.out (by decide))); replace HB := Aside0.mk (below_weaken (by exact jB HB.out) HL.out hb); replace HK := Aside0.mk (KeepBut.trans (by exact jK HK.out) (KeepBut.of_grown hg g) (Kd.R_base2 HO_5.out)); have HO530 := Aside0.mk (ho); clear HO_5 ho hb hg hat))
        go_ret
        exact ⟨_, by first | rfl | (simp [errW_none, errW_some] <;> rfl) | (simp [*, errW_none, errW_some] <;> rfl), by exact lR <| HO530.out, by exact IsS69.j HI0.out, by exact jB HB.out, by exact jK HK.out⟩
       ·rw [if_neg c25] at H
        exact absurd H (by simp)
      ·rw [if_neg c24] at H
       have c24b0 := beq_eq_false_iff_ne.mpr c24
       have c24b1 := bne_iff_ne.mpr c24
       obtain ⟨⟨t531, t532⟩, A29, H⟩ := bS H
       try dsimp only at H
       obtain ⟨y533, hy533⟩ : ∃ y_ : List Int, y_ = (([10001, (-10001)] : List Int)) := ⟨_, rfl⟩
       replace H : ((spec_l20Rd_pick.f k1 s0_0 t532 2).bind fun bt536 => (if 0 ≤ bt536.1 then (if bt536.1 < (y533.length : Int) then (if 0 ≤ t531 then (if t531 < (x5_1.length : Int) then (some ((x5_1.set (t531 : Int).toNat (rd y533 bt536.1)), bt536.2)) else (none)) else (none)) else (none)) else (none))) = some (r1, r2) := by first | (rw [hy533]; exact H) | exact H
       have Ny533 := Aside0.mk hy533
       clear hy533
       obtain ⟨⟨t536, t537⟩, A30, H⟩ := bS H
       try dsimp only at H
       by_cases c31 : 0 ≤ t536
       ·rw [if_pos c31] at H
        have c31b0 := decide_eq_true c31
        clear c31
        by_cases c32 : t536 < (y533.length : Int)
        ·rw [if_pos c32] at H
         have c32b0 := decide_eq_true c32
         clear c32
         by_cases c33 : 0 ≤ t531
         ·rw [if_pos c33] at H
          have c33b0 := decide_eq_true c33
          clear c33
          by_cases c34 : t531 < (x5_1.length : Int)
          ·rw [if_pos c34] at H
           have c34b0 := decide_eq_true c34
           clear c34
           obtain ⟨y539, hy539⟩ : ∃ y_ : List Int, y_ = (x5_1.set (t531 : Int).toNat (rd y533 t536)) := ⟨_, rfl⟩
           replace H : (some (y539, t537)) = some (r1, r2) := by first | (rw [hy539]; exact H) | exact H
           have Ny539 := Aside0.mk hy539
           clear hy539
           simp only [Option.some.injEq, Prod.mk.injEq] at H
           obtain ⟨rfl, rfl⟩ := H
           go_wp2_with (first | ((with_reducible refine gate_callee (f := 20) rfl ?_); refine gL (some 22) Try.func20 #[.pointer (some ⟨g, 0, none⟩), .int .i64 a1] ?_; (with_reducible refine (spec_l20Rd_pick.calls k1 g s0_0 x1001_1 a1 t521 t522 w0 _ ?side1 ?side2 A15.out).mono ?_); (case side1 => exact IsS69.j HI0.out); (case side2 => exact jB HB.out); rintro e w36 ⟨rfl, hi, hb, hk⟩; refine ⟨_, rfl, ?_⟩; replace HO_5 := Aside0.mk (IsS69.kp (f1 := x1001_1) (by exact IsS69.j HI0.out) (lR HO_5.out) hk); replace HK := Aside0.mk (kt HK.out hk); replace HB := Aside0.mk (hb); replace HI0 := Aside0.mk (hi); (try clear hb hk hi)) | ((with_reducible refine gate_callee (f := 20) rfl ?_); refine gL (some 25) Try.func20 #[.pointer (some ⟨g, 0, none⟩), .int .i64 3] ?_; (with_reducible refine (spec_l20Rd_pick.calls k1 g s0_0 t522 3 t523 t524 w0 _ ?side1 ?side2 A17.out).mono ?_); (case side1 => exact IsS69.j HI0.out); (case side2 => exact jB HB.out); rintro e w37 ⟨rfl, hi, hb, hk⟩; refine ⟨_, rfl, ?_⟩; replace HO_5 := Aside0.mk (IsS69.kp (f1 := t522) (by exact IsS69.j HI0.out) (lR HO_5.out) hk); replace HK := Aside0.mk (kt HK.out hk); replace HB := Aside0.mk (hb); replace HI0 := Aside0.mk (hi); (try clear hb hk hi)) | ((with_reducible refine gate_callee (f := 20) rfl ?_); refine gL (some 28) Try.func20 #[.pointer (some ⟨g, 0, none⟩), .int .i64 3] ?_; (with_reducible refine (spec_l20Rd_pick.calls k1 g s0_0 t524 3 t531 t532 w0 _ ?side1 ?side2 A29.out).mono ?_); (case side1 => exact IsS69.j HI0.out); (case side2 => exact jB HB.out); rintro e w38 ⟨rfl, hi, hb, hk⟩; refine ⟨_, rfl, ?_⟩; replace HO_5 := Aside0.mk (IsS69.kp (f1 := t524) (by exact IsS69.j HI0.out) (lR HO_5.out) hk); replace HK := Aside0.mk (kt HK.out hk); replace HB := Aside0.mk (hb); replace HI0 := Aside0.mk (hi); (try clear hb hk hi)) | ((with_reducible refine gate_dst (N := 29) rfl ?_); refine Kd.R_lit (Kd.int .i64) _ 3 ?hg (N := 29) ?hd (xs := ([10001, (-10001)] : List Int)) (inner := [.int .i64 10001, .int .i64 (-10001)]) (ok := fun _ => True) (okp := fun _ => True) ?hr ?hp (fun _ hk => hk) trivial (Below.refl _ _) (Nat.le_refl _) (by simp) ?_; (case hd => rfl); (case hg => rfl); (case hr => first | (go_simp; done) | (go_simp; rfl)); (case hp => exact (Reps.one (show Kd.M (Kd.int .i64) _ _ _ 10001 [.int .i64 10001] from rfl) (Reps.one (show Kd.M (Kd.int .i64) _ _ _ (-10001) [.int .i64 (-10001)] from rfl) (Reps.none _ _)))); intro v534 w39 ho40 hb hg_ hnew_; clear hg_ hnew_; (first | rw [← Ny533.out] at ho40 | (simp only [Int.reduceToNat] at ho40; rw [← Ny533.out] at ho40)); have HO535 := Aside0.mk (Kd.R_lower (Kd.R_new' ho40 (rl HO_5.out)) (keep_size (w := w) (g := g) (row := none) (by exact jK HK.out))); replace HO_5 := Aside0.mk (Kd.R_elder' (by exact lR HO_5.out) (Kd.R_base ho40) hb); replace HI0 := Aside0.mk (IsS69.below (by exact IsS69.j HI0.out) hb); replace HK := Aside0.mk (kbl HK.out hb); replace HB := Aside0.mk (bj HB.out hb); clear hb ho40) | ((with_reducible refine gate_callee (f := 20) rfl ?_); refine gL (some 31) Try.func20 #[.pointer (some ⟨g, 0, none⟩), .int .i64 2] ?_; (with_reducible refine (spec_l20Rd_pick.calls k1 g s0_0 t532 2 t536 t537 w0 _ ?side1 ?side2 A30.out).mono ?_); (case side1 => exact IsS69.j HI0.out); (case side2 => exact jB HB.out); rintro e w41 ⟨rfl, hi, hb, hk⟩; refine ⟨_, rfl, ?_⟩; replace HO_5 := Aside0.mk (IsS69.kp (f1 := t532) (by exact IsS69.j HI0.out) (lR HO_5.out) hk); replace HO535 := Aside0.mk (IsS69.kp (f1 := t532) (by exact IsS69.j HI0.out) (lR HO535.out) hk); replace HK := Aside0.mk (kt HK.out hk); replace HB := Aside0.mk (hb); replace HI0 := Aside0.mk (hi); (try clear hb hk hi); obtain ⟨Ao42, co42, eo42⟩ := Kd.R_slice HO535.out; subst eo42; have p538 : 0 ≤ (t536 : Int) := of_decide_eq_true (by first | (with_reducible assumption) | assumption); have q538 : t536 < (y533.length : Int) := of_decide_eq_true (by first | (with_reducible assumption) | assumption); obtain ⟨ad538, e538, hx538_0⟩ := Kd.at_int (Kd.R_reads' HO535.out).2.2 t536 p538 q538; cases e538; replace p538 := eq_true p538; replace q538 := eq_true q538; have p35 : 0 ≤ (t531 : Int) := of_decide_eq_true (by first | (with_reducible assumption) | assumption); have q35 : (t531 : Int) < ((x5_1.length : Int) : Int) := of_decide_eq_true (by first | (with_reducible assumption) | assumption); obtain ⟨go35, co35, eo35, gb35, gl35, cl35, HG35⟩ := Kd.R_form HO_5.out (by omega); (first | cases eo35 | (injection eo35 with ea_ en_ ec_; (first | subst ea_ | (injection ea_ with ea_; subst ea_)); subst ec_; clear en_)); have GB35 := Aside0.mk gb35; have IGB35 : Nonempty _ := ⟨GB35.out⟩; have GG35 := Aside0.mk HG35; clear gb35 gl35 HG35; obtain ⟨hx35_0, hf35_0⟩ := Kd.R_celln 0 HO_5.out (t531 : Int) p35 q35; replace p35 := eq_true p35; replace q35 := eq_true q35; replace HO_5 := Aside0.mk (Kd.R_mono (ok' := (fun k_ => some k_ ≠ ownBlock (.slice (some ad538) y533.length co42))) HO_5.out (fun k_ hk => hk.2)); obtain ⟨hy43_, hz43_⟩ := Kd.R_celln 0 HO_5.out (t531 : Int) (of_decide_eq_true (by first | (with_reducible assumption) | assumption)) (of_decide_eq_true (by first | (with_reducible assumption) | assumption)); have HP43 := Kd.R_putg HO_5.out (t531 : Int) (rd y533 t536)) | ((with_reducible refine gate_store (t := 3) (p := 34) rfl ?_); refine store_event (t := 3) (p := 34) (v := ?vo_w44) (w1 := (w41.setCell ⟨go35, (t531 : Int).toNat, none⟩ (.int .i64 (rd y533 t536)))) ?hg ?ho ?hn ?hr ?_; (case ho => rfl); (case hg => rfl); (case hn => rfl); (case hr => first | (go_simp; done) | (go_simp; rfl)); intro w44 hw; have hg : w41.grownBy w44 (some go35) := (by rw [hw]; exact HP43.2); have hp_ : Kd.R (Kd.int .i64) 3 w44 w.heap.size (fun k_ => some k_ ≠ ownBlock (.slice (some ad538) y533.length co42)) (.slice (some ⟨go35, 0, none⟩) x5_1.length co35) y539 := (by rw [hw, Ny539.out]; exact HP43.1); clear HP43; replace HI0 := Aside0.mk (IsS69.grown (by exact IsS69.j HI0.out) hg (IsS69.own_ne HI0.out HO_5.out (by decide))); replace HO535 := Aside0.mk (Kd.R_after (v := (.slice (some ⟨go35, 0, none⟩) x5_1.length co35)) (v1 := (.slice (some ⟨go35, 0, none⟩) x5_1.length co35)) (ok := (fun _ => True)) (by exact lR HO535.out) hg (.inl rfl)); replace HB := Aside0.mk ((by rw [hw]; exact below_set (HB.out) (Nat.le_trans HL.out GB35.out) : Below w0.heap.size w0 w44)); replace HK := Aside0.mk (KeepBut.trans (by exact jK HK.out) (KeepBut.of_grown hg g) (Kd.R_base2 HO_5.out)); replace HO_5 := Aside0.mk (hp_); clear hg hw hp_))
           go_ret
           exact ⟨_, by first | rfl | (simp [errW_none, errW_some] <;> rfl) | (simp [*, errW_none, errW_some] <;> rfl), by exact lR <| Kd.R_mono HO_5.out (fun _ hk => trivial), by exact IsS69.j HI0.out, by exact jB HB.out, by exact jK HK.out⟩
          ·rw [if_neg c34] at H
           exact absurd H (by simp)
         ·rw [if_neg c33] at H
          exact absurd H (by simp)
        ·rw [if_neg c32] at H
         exact absurd H (by simp)
       ·rw [if_neg c31] at H
        exact absurd H (by simp)
    ·rw [if_neg c16] at H
     have c16b0 := beq_eq_false_iff_ne.mpr c16
     have c16b1 := bne_iff_ne.mpr c16
     simp only [Option.some.injEq, Prod.mk.injEq] at H
     obtain ⟨rfl, rfl⟩ := H
     go_wp2_with (first | ((with_reducible refine gate_callee (f := 20) rfl ?_); refine gL (some 22) Try.func20 #[.pointer (some ⟨g, 0, none⟩), .int .i64 a1] ?_; (with_reducible refine (spec_l20Rd_pick.calls k1 g s0_0 x1001_1 a1 t521 t522 w0 _ ?side1 ?side2 A15.out).mono ?_); (case side1 => exact IsS69.j HI0.out); (case side2 => exact jB HB.out); rintro e w45 ⟨rfl, hi, hb, hk⟩; refine ⟨_, rfl, ?_⟩; replace HO_5 := Aside0.mk (IsS69.kp (f1 := x1001_1) (by exact IsS69.j HI0.out) (lR HO_5.out) hk); replace HK := Aside0.mk (kt HK.out hk); replace HB := Aside0.mk (hb); replace HI0 := Aside0.mk (hi); (try clear hb hk hi)))
     go_ret
     exact ⟨_, by first | rfl | (simp [errW_none, errW_some] <;> rfl) | (simp [*, errW_none, errW_some] <;> rfl), by exact lR <| HO_5.out, by exact IsS69.j HI0.out, by exact jB HB.out, by exact jK HK.out⟩

/-! ### spec_l20Args: function 35 -/
def spec_l20Args.f (k : Nat) (s0_0 : List Int) (s0_1 : Int) (a1 : Int) : Option (List Int × Int) := (spec_l20Rd_pick.f k s0_0 s0_1 19).bind fun bt540 => ((spec_l20Rd_pick.f k s0_0 bt540.2 19).bind fun bt542 => ((some (([wrap64 (bt540.1 - 9), wrap64 (bt542.1 - 9)] : List Int) : List Int)).bind fun y544 => ((spec_l20Rd_pick.f k s0_0 bt542.2 a1).bind fun bt547 => (if bt547.1 = 0 then ((spec_l20Rd_pick.f k s0_0 bt547.2 3).bind fun bt549 => (if bt549.1 = 0 then (if 1 ≤ (y544.length : Int) then (some ((y544.take (1 : Int).toNat), bt549.2)) else (none)) else (if bt549.1 = 1 then (if y544.length < 17592186044416 then (some ((y544 ++ [0]), bt549.2)) else (none)) else ((spec_l20Rd_pick.f k s0_0 bt549.2 2).bind fun bt557 => ((some (([10, (-10)] : List Int) : List Int)).bind fun y559 => ((spec_l20Rd_pick.f k s0_0 bt557.2 2).bind fun bt562 => (if 0 ≤ bt562.1 then (if bt562.1 < (y559.length : Int) then (if 0 ≤ bt557.1 then (if bt557.1 < (y544.length : Int) then (some ((y544.set (bt557.1 : Int).toNat (rd y559 bt562.1)), bt562.2)) else (none)) else (none)) else (none)) else (none)))))))) else (some (y544, bt547.2))))))
theorem spec_l20Args.mono : ∀ a0 a1 a2 k, LeO (spec_l20Args.f k a0 a1 a2) (spec_l20Args.f (k + 1) a0 a1 a2) := by
 intro a0 a1 a2 k
 unfold spec_l20Args.f
 repeat' first
   | (with_reducible exact spec_l20Rd_pick.mono _ _ _ _)
   | (with_reducible exact LeO.refl _)
   | (with_reducible exact LeO.none _)
   | (with_reducible refine LeO.ite ?_ ?_)
   | (with_reducible refine LeO.bind ?_ (fun _ => ?_))
   | exact LeO.none _
   | refine LeO.ite ?_ ?_
   | refine LeO.bind ?_ (fun _ => ?_)
set_option maxHeartbeats 8000000 in
set_option maxRecDepth 100000 in
theorem spec_l20Args.calls (k : Nat) (g : Nat) (s0_0 : List Int) (s0_1 : Int) (a1 : Int) (r1 : List Int) (r2 : Int) (w0 w : World) (hI : IsS69 w0 w g s0_0 s0_1) (hB : Below w0.heap.size w0 w) (h : spec_l20Args.f k s0_0 s0_1 a1 = some (r1, r2)) :
  Calls Try.prog 35 #[.pointer (some ⟨g, 0, none⟩), .int .i64 a1] w fun e w' => ∃ v0_ : Value, e = .returned (v0_) ∧ Kd.R (Kd.int .i64) 3 w' w.heap.size (fun _ => True) v0_ r1 ∧ IsS69 w0 w' g s0_0 r2 ∧ Below w0.heap.size w0 w' ∧ KeepBut w w' g none := by
 have HI0 := Aside0.mk hI
 have IHI0 : Nonempty _ := ⟨IsS69.ge hI⟩
 have HK := Aside0.mk (KeepBut.refl w g none)
 have HL := Aside0.mk hB.size
 clear hI
 have HW0 := Aside0.mk hB.size
 have HB := Aside0.mk hB
 clear hB
 have H : ((spec_l20Rd_pick.f k s0_0 s0_1 19).bind fun bt540 => ((spec_l20Rd_pick.f k s0_0 bt540.2 19).bind fun bt542 => ((some (([wrap64 (bt540.1 - 9), wrap64 (bt542.1 - 9)] : List Int) : List Int)).bind fun y544 => ((spec_l20Rd_pick.f k s0_0 bt542.2 a1).bind fun bt547 => (if bt547.1 = 0 then ((spec_l20Rd_pick.f k s0_0 bt547.2 3).bind fun bt549 => (if bt549.1 = 0 then (if 1 ≤ (y544.length : Int) then (some ((y544.take (1 : Int).toNat), bt549.2)) else (none)) else (if bt549.1 = 1 then (if y544.length < 17592186044416 then (some ((y544 ++ [0]), bt549.2)) else (none)) else ((spec_l20Rd_pick.f k s0_0 bt549.2 2).bind fun bt557 => ((some (([10, (-10)] : List Int) : List Int)).bind fun y559 => ((spec_l20Rd_pick.f k s0_0 bt557.2 2).bind fun bt562 => (if 0 ≤ bt562.1 then (if bt562.1 < (y559.length : Int) then (if 0 ≤ bt557.1 then (if bt557.1 < (y544.length : Int) then (some ((y544.set (bt557.1 : Int).toNat (rd y559 bt562.1)), bt562.2)) else (none)) else (none)) else (none)) else (none)))))))) else (some (y544, bt547.2))))))) = some (r1, r2) := h
 clear h
 obtain ⟨⟨t540, t541⟩, A3, H⟩ := bS H
 try dsimp only at H
 obtain ⟨⟨t542, t543⟩, A4, H⟩ := bS H
 try dsimp only at H
 obtain ⟨y544, hy544⟩ : ∃ y_ : List Int, y_ = (([wrap64 (t540 - 9), wrap64 (t542 - 9)] : List Int)) := ⟨_, rfl⟩
 replace H : ((spec_l20Rd_pick.f k s0_0 t543 a1).bind fun bt547 => (if bt547.1 = 0 then ((spec_l20Rd_pick.f k s0_0 bt547.2 3).bind fun bt549 => (if bt549.1 = 0 then (if 1 ≤ (y544.length : Int) then (some ((y544.take (1 : Int).toNat), bt549.2)) else (none)) else (if bt549.1 = 1 then (if y544.length < 17592186044416 then (some ((y544 ++ [0]), bt549.2)) else (none)) else ((spec_l20Rd_pick.f k s0_0 bt549.2 2).bind fun bt557 => ((some (([10, (-10)] : List Int) : List Int)).bind fun y559 => ((spec_l20Rd_pick.f k s0_0 bt557.2 2).bind fun bt562 => (if 0 ≤ bt562.1 then (if bt562.1 < (y559.length : Int) then (if 0 ≤ bt557.1 then (if bt557.1 < (y544.length : Int) then (some ((y544.set (bt557.1 : Int).toNat (rd y559 bt562.1)), bt562.2)) else (none)) else (none)) else (none)) else (none)))))))) else (some (y544, bt547.2)))) = some (r1, r2) := by first | (rw [hy544]; exact H) | exact H
 have Ny544 := Aside0.mk hy544
 clear hy544
 obtain ⟨⟨t547, t548⟩, A5, H⟩ := bS H
 try dsimp only at H
 by_cases c6 : t547 = 0
 ·rw [if_pos c6] at H
  have c6b0 := beq_iff_eq.mpr c6
  have c6b1 := bne_eq_false_iff_eq.mpr c6
  clear c6
  obtain ⟨⟨t549, t550⟩, A7, H⟩ := bS H
  try dsimp only at H
  by_cases c8 : t549 = 0
  ·rw [if_pos c8] at H
   have c8b0 := beq_iff_eq.mpr c8
   have c8b1 := bne_eq_false_iff_eq.mpr c8
   clear c8
   by_cases c9 : 1 ≤ (y544.length : Int)
   ·rw [if_pos c9] at H
    have c9b0 := eq_true c9
    have c9b1 := decide_eq_true c9
    clear c9
    obtain ⟨y551, hy551⟩ : ∃ y_ : List Int, y_ = (y544.take (1 : Int).toNat) := ⟨_, rfl⟩
    replace H : (some (y551, t550)) = some (r1, r2) := by first | (rw [hy551]; exact H) | exact H
    have Ny551 := Aside0.mk hy551
    clear hy551
    simp only [Option.some.injEq, Prod.mk.injEq] at H
    obtain ⟨rfl, rfl⟩ := H
    go_enter Try.func35, Try.ntmps35
    go_wp2_with (first | ((with_reducible refine gate_callee (f := 20) rfl ?_); refine gL (some 7) Try.func20 #[.pointer (some ⟨g, 0, none⟩), .int .i64 19] ?_; (with_reducible refine (spec_l20Rd_pick.calls k g s0_0 s0_1 19 t540 t541 w0 _ ?side1 ?side2 A3.out).mono ?_); (case side1 => exact IsS69.j HI0.out); (case side2 => exact jB HB.out); rintro e w10 ⟨rfl, hi, hb, hk⟩; refine ⟨_, rfl, ?_⟩; replace HK := Aside0.mk (kt HK.out hk); replace HB := Aside0.mk (hb); replace HI0 := Aside0.mk (hi); (try clear hb hk hi)) | ((with_reducible refine gate_callee (f := 20) rfl ?_); refine gL (some 10) Try.func20 #[.pointer (some ⟨g, 0, none⟩), .int .i64 19] ?_; (with_reducible refine (spec_l20Rd_pick.calls k g s0_0 t541 19 t542 t543 w0 _ ?side1 ?side2 A4.out).mono ?_); (case side1 => exact IsS69.j HI0.out); (case side2 => exact jB HB.out); rintro e w11 ⟨rfl, hi, hb, hk⟩; refine ⟨_, rfl, ?_⟩; replace HK := Aside0.mk (kt HK.out hk); replace HB := Aside0.mk (hb); replace HI0 := Aside0.mk (hi); (try clear hb hk hi)) | ((with_reducible refine gate_dst (N := 12) rfl ?_); refine Kd.R_lit (Kd.int .i64) _ 3 ?hg (N := 12) ?hd (xs := ([wrap64 (t540 - 9), wrap64 (t542 - 9)] : List Int)) (inner := [.int .i64 (wrap64 (t540 - 9)), .int .i64 (wrap64 (t542 - 9))]) (ok := fun _ => True) (okp := fun _ => True) ?hr ?hp (fun _ hk => hk) trivial (Below.refl _ _) (Nat.le_refl _) (by simp) ?_; (case hd => rfl); (case hg => rfl); (case hr => first | (go_simp; done) | (go_simp; rfl)); (case hp => exact (Reps.one (show Kd.M (Kd.int .i64) _ _ _ (wrap64 (t540 - 9)) [.int .i64 (wrap64 (t540 - 9))] from rfl) (Reps.one (show Kd.M (Kd.int .i64) _ _ _ (wrap64 (t542 - 9)) [.int .i64 (wrap64 (t542 - 9))] from rfl) (Reps.none _ _)))); intro v545 w12 ho13 hb hg_ hnew_; clear hg_ hnew_; (first | rw [← Ny544.out] at ho13 | (simp only [Int.reduceToNat] at ho13; rw [← Ny544.out] at ho13)); have HO546 := Aside0.mk (lw ho13 HK.out); replace HI0 := Aside0.mk (IsS69.below (by exact IsS69.j HI0.out) hb); replace HK := Aside0.mk (kbl HK.out hb); replace HB := Aside0.mk (bj HB.out hb); clear hb ho13) | ((with_reducible refine gate_callee (f := 20) rfl ?_); refine gL (some 15) Try.func20 #[.pointer (some ⟨g, 0, none⟩), .int .i64 a1] ?_; (with_reducible refine (spec_l20Rd_pick.calls k g s0_0 t543 a1 t547 t548 w0 _ ?side1 ?side2 A5.out).mono ?_); (case side1 => exact IsS69.j HI0.out); (case side2 => exact jB HB.out); rintro e w14 ⟨rfl, hi, hb, hk⟩; refine ⟨_, rfl, ?_⟩; replace HO546 := Aside0.mk (IsS69.kp (f1 := t543) (by exact IsS69.j HI0.out) (lR HO546.out) hk); replace HK := Aside0.mk (kt HK.out hk); replace HB := Aside0.mk (hb); replace HI0 := Aside0.mk (hi); (try clear hb hk hi)) | ((with_reducible refine gate_callee (f := 20) rfl ?_); refine gL (some 18) Try.func20 #[.pointer (some ⟨g, 0, none⟩), .int .i64 3] ?_; (with_reducible refine (spec_l20Rd_pick.calls k g s0_0 t548 3 t549 t550 w0 _ ?side1 ?side2 A7.out).mono ?_); (case side1 => exact IsS69.j HI0.out); (case side2 => exact jB HB.out); rintro e w15 ⟨rfl, hi, hb, hk⟩; refine ⟨_, rfl, ?_⟩; replace HO546 := Aside0.mk (IsS69.kp (f1 := t548) (by exact IsS69.j HI0.out) (lR HO546.out) hk); replace HK := Aside0.mk (kt HK.out hk); replace HB := Aside0.mk (hb); replace HI0 := Aside0.mk (hi); (try clear hb hk hi); obtain ⟨Ao16, co16, eo16⟩ := Kd.R_slice HO546.out; subst eo16; have q17 : (1 : Int) ≤ ((y544.length : Int) : Int) := of_decide_eq_true (by first | (with_reducible assumption) | assumption); obtain ⟨i017, hi017, _, hsz17, _⟩ := info_parts info3; have hcut17 := cut_to (P := Try.prog) 24 3 .i64 Try.underlying24 hi017 Ao16 y544.length co16 1 (by omega) q17 (Kd.R_reads' HO546.out).2.1; have hr17 := Kd.R_take (m := (1 : Int).toNat) HO546.out (by omega); have hy17 : y551.length = (1 : Int).toNat := (by rw [Ny551.out, List.length_take]; omega); rw [← Ny551.out] at hr17; rw [← hy17] at hr17 hcut17; clear hy17 hi017 hsz17 HO546; have HO553 := Aside0.mk hr17; clear hr17; replace q17 := eq_true q17))
    go_ret
    exact ⟨_, by first | rfl | (simp [errW_none, errW_some] <;> rfl) | (simp [*, errW_none, errW_some] <;> rfl), by exact lR <| HO553.out, by exact IsS69.j HI0.out, by exact jB HB.out, by exact jK HK.out⟩
   ·rw [if_neg c9] at H
    exact absurd H (by simp)
  ·rw [if_neg c8] at H
   have c8b0 := beq_eq_false_iff_ne.mpr c8
   have c8b1 := bne_iff_ne.mpr c8
   by_cases c18 : t549 = 1
   ·rw [if_pos c18] at H
    have c18b0 := beq_iff_eq.mpr c18
    have c18b1 := bne_eq_false_iff_eq.mpr c18
    clear c18
    by_cases c19 : y544.length < 17592186044416
    ·rw [if_pos c19] at H
     have LMc19 := Aside0.mk c19
     clear c19
     obtain ⟨y554, hy554⟩ : ∃ y_ : List Int, y_ = (y544 ++ [0]) := ⟨_, rfl⟩
     replace H : (some (y554, t550)) = some (r1, r2) := by first | (rw [hy554]; exact H) | exact H
     have Ny554 := Aside0.mk hy554
     clear hy554
     simp only [Option.some.injEq, Prod.mk.injEq] at H
     obtain ⟨rfl, rfl⟩ := H
     go_enter Try.func35, Try.ntmps35
     go_wp2_with (first | ((with_reducible refine gate_callee (f := 20) rfl ?_); refine gL (some 7) Try.func20 #[.pointer (some ⟨g, 0, none⟩), .int .i64 19] ?_; (with_reducible refine (spec_l20Rd_pick.calls k g s0_0 s0_1 19 t540 t541 w0 _ ?side1 ?side2 A3.out).mono ?_); (case side1 => exact IsS69.j HI0.out); (case side2 => exact jB HB.out); rintro e w20 ⟨rfl, hi, hb, hk⟩; refine ⟨_, rfl, ?_⟩; replace HK := Aside0.mk (kt HK.out hk); replace HB := Aside0.mk (hb); replace HI0 := Aside0.mk (hi); (try clear hb hk hi)) | ((with_reducible refine gate_callee (f := 20) rfl ?_); refine gL (some 10) Try.func20 #[.pointer (some ⟨g, 0, none⟩), .int .i64 19] ?_; (with_reducible refine (spec_l20Rd_pick.calls k g s0_0 t541 19 t542 t543 w0 _ ?side1 ?side2 A4.out).mono ?_); (case side1 => exact IsS69.j HI0.out); (case side2 => exact jB HB.out); rintro e w21 ⟨rfl, hi, hb, hk⟩; refine ⟨_, rfl, ?_⟩; replace HK := Aside0.mk (kt HK.out hk); replace HB := Aside0.mk (hb); replace HI0 := Aside0.mk (hi); (try clear hb hk hi)) | ((with_reducible refine gate_dst (N := 12) rfl ?_); refine Kd.R_lit (Kd.int .i64) _ 3 ?hg (N := 12) ?hd (xs := ([wrap64 (t540 - 9), wrap64 (t542 - 9)] : List Int)) (inner := [.int .i64 (wrap64 (t540 - 9)), .int .i64 (wrap64 (t542 - 9))]) (ok := fun _ => True) (okp := fun _ => True) ?hr ?hp (fun _ hk => hk) trivial (Below.refl _ _) (Nat.le_refl _) (by simp) ?_; (case hd => rfl); (case hg => rfl); (case hr => first | (go_simp; done) | (go_simp; rfl)); (case hp => exact (Reps.one (show Kd.M (Kd.int .i64) _ _ _ (wrap64 (t540 - 9)) [.int .i64 (wrap64 (t540 - 9))] from rfl) (Reps.one (show Kd.M (Kd.int .i64) _ _ _ (wrap64 (t542 - 9)) [.int .i64 (wrap64 (t542 - 9))] from rfl) (Reps.none _ _)))); intro v545 w22 ho23 hb hg_ hnew_; clear hg_ hnew_; (first | rw [← Ny544.out] at ho23 | (simp only [Int.reduceToNat] at ho23; rw [← Ny544.out] at ho23)); have HO546 := Aside0.mk (lw ho23 HK.out); replace HI0 := Aside0.mk (IsS69.below (by exact IsS69.j HI0.out) hb); replace HK := Aside0.mk (kbl HK.out hb); replace HB := Aside0.mk (bj HB.out hb); clear hb ho23) | ((with_reducible refine gate_callee (f := 20) rfl ?_); refine gL (some 15) Try.func20 #[.pointer (some ⟨g, 0, none⟩), .int .i64 a1] ?_; (with_reducible refine (spec_l20Rd_pick.calls k g s0_0 t543 a1 t547 t548 w0 _ ?side1 ?side2 A5.out).mono ?_); (case side1 => exact IsS69.j HI0.out); (case side2 => exact jB HB.out); rintro e w24 ⟨rfl, hi, hb, hk⟩; refine ⟨_, rfl, ?_⟩; replace HO546 := Aside0.mk (IsS69.kp (f1 := t543) (by exact IsS69.j HI0.out) (lR HO546.out) hk); replace HK := Aside0.mk (kt HK.out hk); replace HB := Aside0.mk (hb); replace HI0 := Aside0.mk (hi); (try clear hb hk hi)) | ((with_reducible refine gate_callee (f := 20) rfl ?_); refine gL (some 18) Try.func20 #[.pointer (some ⟨g, 0, none⟩), .int .i64 3] ?_; (with_reducible refine (spec_l20Rd_pick.calls k g s0_0 t548 3 t549 t550 w0 _ ?side1 ?side2 A7.out).mono ?_); (case side1 => exact IsS69.j HI0.out); (case side2 => exact jB HB.out); rintro e w25 ⟨rfl, hi, hb, hk⟩; refine ⟨_, rfl, ?_⟩; replace HO546 := Aside0.mk (IsS69.kp (f1 := t548) (by exact IsS69.j HI0.out) (lR HO546.out) hk); replace HK := Aside0.mk (kt HK.out hk); replace HB := Aside0.mk (hb); replace HI0 := Aside0.mk (hi); (try clear hb hk hi)) | ((with_reducible refine gate_builtin (b := .append) (xs := #[.tmp 34, .tmp 35]) rfl ?_); at_builtin; refine Kd.R_append (Kd.int .i64) w.heap.size rfl (.tmp 34) (.tmp 35) 24 3 (.int .i64 0) 8 rfl Try.underlying24 info3 rfl (by decide) (by omega) v545 y544 0 [.int .i64 0] (fun _ => True) (fun _ => False) rfl rfl ?aP (fun _ hk => hk.elim) ?aF ?aO (Below.refl _ _) ?aS ?aL ?_; (case aP => exact rfl); (case aF => exact (fun _ _ => trivial)); (case aO => exact (by exact lR HO546.out)); (case aS => exact (keep_size (w := w) (g := g) (row := none) (by exact jK HK.out))); (case aL => have := LMc19.out; omega); intro v555 w26 ho hb hg hat; rw [← Ny554.out] at ho; replace HI0 := Aside0.mk (IsS69.grown (by exact IsS69.j HI0.out) hg (IsS69.own_ne HI0.out HO546.out (by decide))); replace HB := Aside0.mk (below_weaken (by exact jB HB.out) HL.out hb); replace HK := Aside0.mk (KeepBut.trans (by exact jK HK.out) (KeepBut.of_grown hg g) (Kd.R_base2 HO546.out)); have HO556 := Aside0.mk (ho); clear HO546 ho hb hg hat))
     go_ret
     exact ⟨_, by first | rfl | (simp [errW_none, errW_some] <;> rfl) | (simp [*, errW_none, errW_some] <;> rfl), by exact lR <| HO556.out, by exact IsS69.j HI0.out, by exact jB HB.out, by exact jK HK.out⟩
    ·rw [if_neg c19] at H
     exact absurd H (by simp)
   ·rw [if_neg c18] at H
    have c18b0 := beq_eq_false_iff_ne.mpr c18
    have c18b1 := bne_iff_ne.mpr c18
    obtain ⟨⟨t557, t558⟩, A27, H⟩ := bS H
    try dsimp only at H
    obtain ⟨y559, hy559⟩ : ∃ y_ : List Int, y_ = (([10, (-10)] : List Int)) := ⟨_, rfl⟩
    replace H : ((spec_l20Rd_pick.f k s0_0 t558 2).bind fun bt562 => (if 0 ≤ bt562.1 then (if bt562.1 < (y559.length : Int) then (if 0 ≤ t557 then (if t557 < (y544.length : Int) then (some ((y544.set (t557 : Int).toNat (rd y559 bt562.1)), bt562.2)) else (none)) else (none)) else (none)) else (none))) = some (r1, r2) := by first | (rw [hy559]; exact H) | exact H
    have Ny559 := Aside0.mk hy559
    clear hy559
    obtain ⟨⟨t562, t563⟩, A28, H⟩ := bS H
    try dsimp only at H
    by_cases c29 : 0 ≤ t562
    ·rw [if_pos c29] at H
     have c29b0 := decide_eq_true c29
     clear c29
     by_cases c30 : t562 < (y559.length : Int)
     ·rw [if_pos c30] at H
      have c30b0 := decide_eq_true c30
      clear c30
      by_cases c31 : 0 ≤ t557
      ·rw [if_pos c31] at H
       have c31b0 := decide_eq_true c31
       clear c31
       by_cases c32 : t557 < (y544.length : Int)
       ·rw [if_pos c32] at H
        have c32b0 := decide_eq_true c32
        clear c32
        obtain ⟨y565, hy565⟩ : ∃ y_ : List Int, y_ = (y544.set (t557 : Int).toNat (rd y559 t562)) := ⟨_, rfl⟩
        replace H : (some (y565, t563)) = some (r1, r2) := by first | (rw [hy565]; exact H) | exact H
        have Ny565 := Aside0.mk hy565
        clear hy565
        simp only [Option.some.injEq, Prod.mk.injEq] at H
        obtain ⟨rfl, rfl⟩ := H
        go_enter Try.func35, Try.ntmps35
        go_wp2_with (first | ((with_reducible refine gate_callee (f := 20) rfl ?_); refine gL (some 7) Try.func20 #[.pointer (some ⟨g, 0, none⟩), .int .i64 19] ?_; (with_reducible refine (spec_l20Rd_pick.calls k g s0_0 s0_1 19 t540 t541 w0 _ ?side1 ?side2 A3.out).mono ?_); (case side1 => exact IsS69.j HI0.out); (case side2 => exact jB HB.out); rintro e w34 ⟨rfl, hi, hb, hk⟩; refine ⟨_, rfl, ?_⟩; replace HK := Aside0.mk (kt HK.out hk); replace HB := Aside0.mk (hb); replace HI0 := Aside0.mk (hi); (try clear hb hk hi)) | ((with_reducible refine gate_callee (f := 20) rfl ?_); refine gL (some 10) Try.func20 #[.pointer (some ⟨g, 0, none⟩), .int .i64 19] ?_; (with_reducible refine (spec_l20Rd_pick.calls k g s0_0 t541 19 t542 t543 w0 _ ?side1 ?side2 A4.out).mono ?_); (case side1 => exact IsS69.j HI0.out); (case side2 => exact jB HB.out); rintro e w35 ⟨rfl, hi, hb, hk⟩; refine ⟨_, rfl, ?_⟩; replace HK := Aside0.mk (kt HK.out hk); replace HB := Aside0.mk (hb); replace HI0 := Aside0.mk (hi); (try clear hb hk hi)) | ((with_reducible refine gate_dst (N := 12) rfl ?_); refine Kd.R_lit (Kd.int .i64) _ 3 ?hg (N := 12) ?hd (xs := ([wrap64 (t540 - 9), wrap64 (t542 - 9)] : List Int)) (inner := [.int .i64 (wrap64 (t540 - 9)), .int .i64 (wrap64 (t542 - 9))]) (ok := fun _ => True) (okp := fun _ => True) ?hr ?hp (fun _ hk => hk) trivial (Below.refl _ _) (Nat.le_refl _) (by simp) ?_; (case hd => rfl); (case hg => rfl); (case hr => first | (go_simp; done) | (go_simp; rfl)); (case hp => exact (Reps.one (show Kd.M (Kd.int .i64) _ _ _ (wrap64 (t540 - 9)) [.int .i64 (wrap64 (t540 - 9))] from rfl) (Reps.one (show Kd.M (Kd.int .i64) _ _ _ (wrap64 (t542 - 9)) [.int .i64 (wrap64 (t542 - 9))] from rfl) (Reps.none _ _)))); intro v545 w36 ho37 hb hg_ hnew_; clear hg_ hnew_; (first | rw [← Ny544.out] at ho37 | (simp only [Int.reduceToNat] at ho37; rw [← Ny544.out] at ho37)); have HO546 := Aside0.mk (lw ho37 HK.out); replace HI0 := Aside0.mk (IsS69.below (by exact IsS69.j HI0.out) hb); replace HK := Aside0.mk (kbl HK.out hb); replace HB := Aside0.mk (bj HB.out hb); clear hb ho37) | ((with_reducible refine gate_callee (f := 20) rfl ?_); refine gL (some 15) Try.func20 #[.pointer (some ⟨g, 0, none⟩), .int .i64 a1] ?_; (with_reducible refine (spec_l20Rd_pick.calls k g s0_0 t543 a1 t547 t548 w0 _ ?side1 ?side2 A5.out).mono ?_); (case side1 => exact IsS69.j HI0.out); (case side2 => exact jB HB.out); rintro e w38 ⟨rfl, hi, hb, hk⟩; refine ⟨_, rfl, ?_⟩; replace HO546 := Aside0.mk (IsS69.kp (f1 := t543) (by exact IsS69.j HI0.out) (lR HO546.out) hk); replace HK := Aside0.mk (kt HK.out hk); replace HB := Aside0.mk (hb); replace HI0 := Aside0.mk (hi); (try clear hb hk hi)) | ((with_reducible refine gate_callee (f := 20) rfl ?_); refine gL (some 18) Try.func20 #[.pointer (some ⟨g, 0, none⟩), .int .i64 3] ?_; (with_reducible refine (spec_l20Rd_pick.calls k g s0_0 t548 3 t549 t550 w0 _ ?side1 ?side2 A7.out).mono ?_); (case side1 => exact IsS69.j HI0.out); (case side2 => exact jB HB.out); rintro e w39 ⟨rfl, hi, hb, hk⟩; refine ⟨_, rfl, ?_⟩; replace HO546 := Aside0.mk (IsS69.kp (f1 := t548) (by exact IsS69.j HI0.out) (lR HO546.out) hk); replace HK := Aside0.mk (kt HK.out hk); replace HB := Aside0.mk (hb); replace HI0 := Aside0.mk (hi); (try clear hb hk hi)) | ((with_reducible refine gate_callee (f := 20) rfl ?_); refine gL (some 21) Try.func20 #[.pointer (some ⟨g, 0, none⟩), .int .i64 2] ?_; (with_reducible refine (spec_l20Rd_pick.calls k g s0_0 t550 2 t557 t558 w0 _ ?side1 ?side2 A27.out).mono ?_); (case side1 => exact IsS69.j HI0.out); (case side2 => exact jB HB.out); rintro e w40 ⟨rfl, hi, hb, hk⟩; refine ⟨_, rfl, ?_⟩; replace HO546 := Aside0.mk (IsS69.kp (f1 := t550) (by exact IsS69.j HI0.out) (lR HO546.out) hk); replace HK := Aside0.mk (kt HK.out hk); replace HB := Aside0.mk (hb); replace HI0 := Aside0.mk (hi); (try clear hb hk hi)) | ((with_reducible refine gate_dst (N := 22) rfl ?_); refine Kd.R_lit (Kd.int .i64) _ 3 ?hg (N := 22) ?hd (xs := ([10, (-10)] : List Int)) (inner := [.int .i64 10, .int .i64 (-10)]) (ok := fun _ => True) (okp := fun _ => True) ?hr ?hp (fun _ hk => hk) trivial (Below.refl _ _) (Nat.le_refl _) (by simp) ?_; (case hd => rfl); (case hg => rfl); (case hr => first | (go_simp; done) | (go_simp; rfl)); (case hp => exact (Reps.one (show Kd.M (Kd.int .i64) _ _ _ 10 [.int .i64 10] from rfl) (Reps.one (show Kd.M (Kd.int .i64) _ _ _ (-10) [.int .i64 (-10)] from rfl) (Reps.none _ _)))); intro v560 w41 ho42 hb hg_ hnew_; clear hg_ hnew_; (first | rw [← Ny559.out] at ho42 | (simp only [Int.reduceToNat] at ho42; rw [← Ny559.out] at ho42)); have HO561 := Aside0.mk (Kd.R_lower (Kd.R_new' ho42 (rl HO546.out)) (keep_size (w := w) (g := g) (row := none) (by exact jK HK.out))); replace HO546 := Aside0.mk (Kd.R_elder' (by exact lR HO546.out) (Kd.R_base ho42) hb); replace HI0 := Aside0.mk (IsS69.below (by exact IsS69.j HI0.out) hb); replace HK := Aside0.mk (kbl HK.out hb); replace HB := Aside0.mk (bj HB.out hb); clear hb ho42) | ((with_reducible refine gate_callee (f := 20) rfl ?_); refine gL (some 24) Try.func20 #[.pointer (some ⟨g, 0, none⟩), .int .i64 2] ?_; (with_reducible refine (spec_l20Rd_pick.calls k g s0_0 t558 2 t562 t563 w0 _ ?side1 ?side2 A28.out).mono ?_); (case side1 => exact IsS69.j HI0.out); (case side2 => exact jB HB.out); rintro e w43 ⟨rfl, hi, hb, hk⟩; refine ⟨_, rfl, ?_⟩; replace HO546 := Aside0.mk (IsS69.kp (f1 := t558) (by exact IsS69.j HI0.out) (lR HO546.out) hk); replace HO561 := Aside0.mk (IsS69.kp (f1 := t558) (by exact IsS69.j HI0.out) (lR HO561.out) hk); replace HK := Aside0.mk (kt HK.out hk); replace HB := Aside0.mk (hb); replace HI0 := Aside0.mk (hi); (try clear hb hk hi); obtain ⟨Ao44, co44, eo44⟩ := Kd.R_slice HO561.out; subst eo44; have p564 : 0 ≤ (t562 : Int) := of_decide_eq_true (by first | (with_reducible assumption) | assumption); have q564 : t562 < (y559.length : Int) := of_decide_eq_true (by first | (with_reducible assumption) | assumption); obtain ⟨ad564, e564, hx564_0⟩ := Kd.at_int (Kd.R_reads' HO561.out).2.2 t562 p564 q564; cases e564; replace p564 := eq_true p564; replace q564 := eq_true q564; have p33 : 0 ≤ (t557 : Int) := of_decide_eq_true (by first | (with_reducible assumption) | assumption); have q33 : (t557 : Int) < ((y544.length : Int) : Int) := of_decide_eq_true (by first | (with_reducible assumption) | assumption); obtain ⟨go33, co33, eo33, gb33, gl33, cl33, HG33⟩ := Kd.R_form HO546.out (by omega); (first | cases eo33 | (injection eo33 with ea_ en_ ec_; (first | subst ea_ | (injection ea_ with ea_; subst ea_)); subst ec_; clear en_)); have GB33 := Aside0.mk gb33; have IGB33 : Nonempty _ := ⟨GB33.out⟩; have GG33 := Aside0.mk HG33; clear gb33 gl33 HG33; obtain ⟨hx33_0, hf33_0⟩ := Kd.R_celln 0 HO546.out (t557 : Int) p33 q33; replace p33 := eq_true p33; replace q33 := eq_true q33; replace HO546 := Aside0.mk (Kd.R_mono (ok' := (fun k_ => some k_ ≠ ownBlock (.slice (some ad564) y559.length co44))) HO546.out (fun k_ hk => hk.2)); obtain ⟨hy45_, hz45_⟩ := Kd.R_celln 0 HO546.out (t557 : Int) (of_decide_eq_true (by first | (with_reducible assumption) | assumption)) (of_decide_eq_true (by first | (with_reducible assumption) | assumption)); have HP45 := Kd.R_putg HO546.out (t557 : Int) (rd y559 t562)) | ((with_reducible refine gate_store (t := 3) (p := 27) rfl ?_); refine store_event (t := 3) (p := 27) (v := ?vo_w46) (w1 := (w43.setCell ⟨go33, (t557 : Int).toNat, none⟩ (.int .i64 (rd y559 t562)))) ?hg ?ho ?hn ?hr ?_; (case ho => rfl); (case hg => rfl); (case hn => rfl); (case hr => first | (go_simp; done) | (go_simp; rfl)); intro w46 hw; have hg : w43.grownBy w46 (some go33) := (by rw [hw]; exact HP45.2); have hp_ : Kd.R (Kd.int .i64) 3 w46 w.heap.size (fun k_ => some k_ ≠ ownBlock (.slice (some ad564) y559.length co44)) (.slice (some ⟨go33, 0, none⟩) y544.length co33) y565 := (by rw [hw, Ny565.out]; exact HP45.1); clear HP45; replace HI0 := Aside0.mk (IsS69.grown (by exact IsS69.j HI0.out) hg (IsS69.own_ne HI0.out HO546.out (by decide))); replace HO561 := Aside0.mk (Kd.R_after (v := (.slice (some ⟨go33, 0, none⟩) y544.length co33)) (v1 := (.slice (some ⟨go33, 0, none⟩) y544.length co33)) (ok := (fun _ => True)) (by exact lR HO561.out) hg (.inl rfl)); replace HB := Aside0.mk ((by rw [hw]; exact below_set (HB.out) (Nat.le_trans HL.out GB33.out) : Below w0.heap.size w0 w46)); replace HK := Aside0.mk (KeepBut.trans (by exact jK HK.out) (KeepBut.of_grown hg g) (Kd.R_base2 HO546.out)); replace HO546 := Aside0.mk (hp_); clear hg hw hp_))
        go_ret
        exact ⟨_, by first | rfl | (simp [errW_none, errW_some] <;> rfl) | (simp [*, errW_none, errW_some] <;> rfl), by exact lR <| Kd.R_mono HO546.out (fun _ hk => trivial), by exact IsS69.j HI0.out, by exact jB HB.out, by exact jK HK.out⟩
       ·rw [if_neg c32] at H
        exact absurd H (by simp)
      ·rw [if_neg c31] at H
       exact absurd H (by simp)
     ·rw [if_neg c30] at H
      exact absurd H (by simp)
    ·rw [if_neg c29] at H
     exact absurd H (by simp)
 ·rw [if_neg c6] at H
  have c6b0 := beq_eq_false_iff_ne.mpr c6
  have c6b1 := bne_iff_ne.mpr c6
  simp only [Option.some.injEq, Prod.mk.injEq] at H
  obtain ⟨rfl, rfl⟩ := H
  go_enter Try.func35, Try.ntmps35
  go_wp2_with (first | ((with_reducible refine gate_callee (f := 20) rfl ?_); refine gL (some 7) Try.func20 #[.pointer (some ⟨g, 0, none⟩), .int .i64 19] ?_; (with_reducible refine (spec_l20Rd_pick.calls k g s0_0 s0_1 19 t540 t541 w0 _ ?side1 ?side2 A3.out).mono ?_); (case side1 => exact IsS69.j HI0.out); (case side2 => exact jB HB.out); rintro e w47 ⟨rfl, hi, hb, hk⟩; refine ⟨_, rfl, ?_⟩; replace HK := Aside0.mk (kt HK.out hk); replace HB := Aside0.mk (hb); replace HI0 := Aside0.mk (hi); (try clear hb hk hi)) | ((with_reducible refine gate_callee (f := 20) rfl ?_); refine gL (some 10) Try.func20 #[.pointer (some ⟨g, 0, none⟩), .int .i64 19] ?_; (with_reducible refine (spec_l20Rd_pick.calls k g s0_0 t541 19 t542 t543 w0 _ ?side1 ?side2 A4.out).mono ?_); (case side1 => exact IsS69.j HI0.out); (case side2 => exact jB HB.out); rintro e w48 ⟨rfl, hi, hb, hk⟩; refine ⟨_, rfl, ?_⟩; replace HK := Aside0.mk (kt HK.out hk); replace HB := Aside0.mk (hb); replace HI0 := Aside0.mk (hi); (try clear hb hk hi)) | ((with_reducible refine gate_dst (N := 12) rfl ?_); refine Kd.R_lit (Kd.int .i64) _ 3 ?hg (N := 12) ?hd (xs := ([wrap64 (t540 - 9), wrap64 (t542 - 9)] : List Int)) (inner := [.int .i64 (wrap64 (t540 - 9)), .int .i64 (wrap64 (t542 - 9))]) (ok := fun _ => True) (okp := fun _ => True) ?hr ?hp (fun _ hk => hk) trivial (Below.refl _ _) (Nat.le_refl _) (by simp) ?_; (case hd => rfl); (case hg => rfl); (case hr => first | (go_simp; done) | (go_simp; rfl)); (case hp => exact (Reps.one (show Kd.M (Kd.int .i64) _ _ _ (wrap64 (t540 - 9)) [.int .i64 (wrap64 (t540 - 9))] from rfl) (Reps.one (show Kd.M (Kd.int .i64) _ _ _ (wrap64 (t542 - 9)) [.int .i64 (wrap64 (t542 - 9))] from rfl) (Reps.none _ _)))); intro v545 w49 ho50 hb hg_ hnew_; clear hg_ hnew_; (first | rw [← Ny544.out] at ho50 | (simp only [Int.reduceToNat] at ho50; rw [← Ny544.out] at ho50)); have HO546 := Aside0.mk (lw ho50 HK.out); replace HI0 := Aside0.mk (IsS69.below (by exact IsS69.j HI0.out) hb); replace HK := Aside0.mk (kbl HK.out hb); replace HB := Aside0.mk (bj HB.out hb); clear hb ho50) | ((with_reducible refine gate_callee (f := 20) rfl ?_); refine gL (some 15) Try.func20 #[.pointer (some ⟨g, 0, none⟩), .int .i64 a1] ?_; (with_reducible refine (spec_l20Rd_pick.calls k g s0_0 t543 a1 t547 t548 w0 _ ?side1 ?side2 A5.out).mono ?_); (case side1 => exact IsS69.j HI0.out); (case side2 => exact jB HB.out); rintro e w51 ⟨rfl, hi, hb, hk⟩; refine ⟨_, rfl, ?_⟩; replace HO546 := Aside0.mk (IsS69.kp (f1 := t543) (by exact IsS69.j HI0.out) (lR HO546.out) hk); replace HK := Aside0.mk (kt HK.out hk); replace HB := Aside0.mk (hb); replace HI0 := Aside0.mk (hi); (try clear hb hk hi)))
  go_ret
  exact ⟨_, by first | rfl | (simp [errW_none, errW_some] <;> rfl) | (simp [*, errW_none, errW_some] <;> rfl), by exact lR <| HO546.out, by exact IsS69.j HI0.out, by exact jB HB.out, by exact jK HK.out⟩

/-! ### spec_DrawActRun: function 12 -/
def spec_DrawActRun.f (k : Nat) (l0 : List Int) : Option ((List (S45)) × List Int × List Int) := (spec_l20Open.f l0).bind fun bt566 => ((spec_l20AnyAct.f k bt566.1 bt566.2 16).bind fun bt569 => ((spec_l20Vals.f k bt566.1 bt569.2 16).bind fun bt573 => ((spec_l20Args.f k bt566.1 bt573.2 16).bind fun bt577 => (some (bt569.1, bt573.1, bt577.1)))))
theorem spec_DrawActRun.mono : ∀ a0 k, LeO (spec_DrawActRun.f k a0) (spec_DrawActRun.f (k + 1) a0) := by
 intro a0 k
 unfold spec_DrawActRun.f
 repeat' first
   | (with_reducible exact spec_l20AnyAct.mono _ _ _ _)
   | (with_reducible exact spec_l20Args.mono _ _ _ _)
   | (with_reducible exact spec_l20Vals.mono _ _ _ _)
   | (with_reducible exact LeO.refl _)
   | (with_reducible exact LeO.none _)
   | (with_reducible refine LeO.ite ?_ ?_)
   | (with_reducible refine LeO.bind ?_ (fun _ => ?_))
   | exact LeO.none _
   | refine LeO.ite ?_ ?_
   | refine LeO.bind ?_ (fun _ => ?_)
set_option maxHeartbeats 8000000 in
set_option maxRecDepth 100000 in
theorem spec_DrawActRun.calls (k : Nat) (A0 : Option Addr) (c0 : Nat) (l0 : List Int) (r1 : List (S45)) (r2 : List Int) (r3 : List Int) (w : World) (hr0 : Kd.C (Kd.int .u8) w A0 l0.length l0) (hc0 : l0.length ≤ c0) (h : spec_DrawActRun.f k l0 = some (r1, r2, r3)) :
  Calls Try.prog 12 #[.slice A0 l0.length c0] w fun e w' => ∃ v0_ v1_ v2_ : Value, e = .returned (.tuple #[v0_, v1_, v2_]) ∧ Kd.N k45 45 w' w.heap.size (fun k_ => (w.heap.size ≤ k_) ∧ some k_ ≠ (v1_ : Value).ownBlock ∧ some k_ ≠ (v2_ : Value).ownBlock) v0_ r1 ∧ Kd.R (Kd.int .i64) 3 w' w.heap.size (fun k_ => (w.heap.size ≤ k_) ∧ some k_ ≠ (v2_ : Value).ownBlock) v1_ r2 ∧ Kd.R (Kd.int .i64) 3 w' w.heap.size (fun k_ => (w.heap.size ≤ k_) ∧ some k_ ≠ (v1_ : Value).ownBlock) v2_ r3 ∧ Below w.heap.size w w' := by
 have HR0 := Aside0.mk hr0
 have HC0 := Aside0.mk hc0
 clear hr0 hc0
 have HB := Aside0.mk (Below.refl w.heap.size w)
 have H : ((spec_l20Open.f l0).bind fun bt566 => ((spec_l20AnyAct.f k bt566.1 bt566.2 16).bind fun bt569 => ((spec_l20Vals.f k bt566.1 bt569.2 16).bind fun bt573 => ((spec_l20Args.f k bt566.1 bt573.2 16).bind fun bt577 => (some (bt569.1, bt573.1, bt577.1)))))) = some (r1, r2, r3) := h
 clear h
 obtain ⟨⟨t566, t567⟩, A2, H⟩ := bS H
 try dsimp only at H
 obtain ⟨⟨t569, t572⟩, A3, H⟩ := bS H
 try dsimp only at H
 obtain ⟨⟨t573, t576⟩, A4, H⟩ := bS H
 try dsimp only at H
 obtain ⟨⟨t577, t580⟩, A5, H⟩ := bS H
 try dsimp only at H
 simp only [Option.some.injEq, Prod.mk.injEq] at H
 obtain ⟨rfl, rfl, rfl⟩ := H
 go_enter Try.func12, Try.ntmps12
 go_wp2_with (first | ((with_reducible refine gate_callee (f := 18) rfl ?_); refine gL (some 7) Try.func18 #[.slice A0 l0.length c0] ?_; (with_reducible refine (spec_l20Open.calls _ _ l0 t566 t567 w _ ?side1 ?side2 ?side3 A2.out).mono ?_); (case side1 => exact lB HB.out); (case side2 => exact HR0.out); (case side3 => exact HC0.out); rintro e w6 ⟨g568, rfl, hi, hb, hb2⟩; refine ⟨_, rfl, ?_⟩; replace HB := Aside0.mk (hb); have HI568 := Aside0.mk (hi); (try clear hb hb2 hi)) | ((with_reducible refine gate_callee (f := 33) rfl ?_); refine gL (some 9) Try.func33 #[.pointer (some ⟨g568, 0, none⟩), .int .i64 16] ?_; (with_reducible refine (spec_l20AnyAct.calls k g568 t566 t567 16 t569 t572 w _ ?side1 ?side2 A3.out).mono ?_); (case side1 => exact IsS69.j HI568.out); (case side2 => exact jB HB.out); rintro e w7 ⟨v570, rfl, ho0, hi, hb, hk⟩; refine ⟨_, rfl, ?_⟩; have HO571 := Aside0.mk (Kd.N_lower (Kd.N_mono (ok' := fun k_ => (w.heap.size ≤ k_) ∧ k_ ≠ g568) ho0 (fun k_ hk_ => ⟨(Nat.le_trans (below_size (by exact jB HB.out)) hk_), (IsS69.fresh (by exact IsS69.j HI568.out) k_ hk_)⟩)) (below_size (by exact jB HB.out))); replace HB := Aside0.mk (hb); replace HI568 := Aside0.mk (hi); (try clear hb hk hi); (try clear ho0)) | ((with_reducible refine gate_callee (f := 34) rfl ?_); refine gL (some 11) Try.func34 #[.pointer (some ⟨g568, 0, none⟩), .int .i64 16] ?_; (with_reducible refine (spec_l20Vals.calls k g568 t566 t572 16 t573 t576 w _ ?side1 ?side2 A4.out).mono ?_); (case side1 => exact IsS69.j HI568.out); (case side2 => exact jB HB.out); rintro e w8 ⟨v574, rfl, ho0, hi, hb, hk⟩; refine ⟨_, rfl, ?_⟩; replace HO571 := Aside0.mk (Kd.N_mono (Kd.N_told (Kd.N_oldK (Kd.N_mono (ok := fun k_ => (((w.heap.size ≤ k_)) ∧ k_ ≠ g568)) (by exact lN <| HO571.out) (fun k_ hk_ => (⟨hk_, hk_.2⟩ : _ ∧ k_ ≠ g568))) hk) (Kd.R_base ho0)) (fun _ h_ => h_.1)); have HO575 := Aside0.mk (Kd.R_lower (Kd.R_newM (M := fun k_ => (w.heap.size ≤ k_)) ho0 (below_size (by exact jB HB.out)) (fun k_ h_ => h_)) (below_size (by exact jB HB.out))); replace HB := Aside0.mk (hb); replace HI568 := Aside0.mk (hi); (try clear hb hk hi); (try clear ho0)) | ((with_reducible refine gate_callee (f := 35) rfl ?_); refine gL (some 13) Try.func35 #[.pointer (some ⟨g568, 0, none⟩), .int .i64 16] ?_; (with_reducible refine (spec_l20Args.calls k g568 t566 t576 16 t577 t580 w _ ?side1 ?side2 A5.out).mono ?_); (case side1 => exact IsS69.j HI568.out); (case side2 => exact jB HB.out); rintro e w9 ⟨v578, rfl, ho0, hi, hb, hk⟩; refine ⟨_, rfl, ?_⟩; replace HO571 := Aside0.mk (Kd.N_mono (Kd.N_told (Kd.N_oldK (Kd.N_mono (ok := fun k_ => ((((w.heap.size ≤ k_)) ∧ k_ ≠ g568) ∧ some k_ ≠ v574.ownBlock)) (by exact lN <| HO571.out) (fun k_ hk_ => (⟨hk_, hk_.1.2⟩ : _ ∧ k_ ≠ g568))) hk) (Kd.R_base ho0)) (fun _ h_ => h_.1)); have HO579 := Aside0.mk (Kd.R_lower (Kd.R_new' (Kd.R_newM (M := fun k_ => (w.heap.size ≤ k_)) ho0 (below_size (by exact jB HB.out)) (fun k_ h_ => h_)) (rl HO575.out)) (below_size (by exact jB HB.out))); replace HO575 := Aside0.mk (Kd.R_mono (Kd.R_told (Kd.R_oldK (IsS69.apart (show IsS69 w _ g568 t566 t576 from by exact IsS69.j HI568.out) (by exact lR HO575.out) (by decide)) hk) (Kd.R_base ho0)) (fun _ h_ => h_.1)); replace HB := Aside0.mk (hb); replace HI568 := Aside0.mk (hi); (try clear hb hk hi); (try clear ho0)))
 go_ret3
 exact ⟨_, _, _, by first | rfl | (simp [errW_none, errW_some] <;> rfl) | (simp [*, errW_none, errW_some] <;> rfl), by exact lN <| Kd.N_mono HO571.out (fun _ hk => ⟨hk.1.1.1, ⟨hk.1.2, hk.2⟩⟩), by exact lR <| Kd.R_mono HO575.out (fun _ hk => ⟨hk.1.1, hk.2⟩), by exact lR <| Kd.R_mono HO579.out (fun _ hk => ⟨hk.1.1, hk.2⟩), by exact jB HB.out⟩

/-! ### impl_FrmForm_small: function 58 -/
def impl_FrmForm_small.f (l0_0 : List Int) (l0_1 : List Int) (a0_2 : Int) : Option (Bool) := (impl_within.f l0_0 3 2).bind fun t582 => (if t582 = true then ((impl_within.f l0_1 2 2).bind fun t583 => (if t583 = true then ((impl_in.f a0_2 (-20) 20).bind fun t584 => (some t584)) else (some false))) else (some false))
set_option maxHeartbeats 8000000 in
set_option maxRecDepth 100000 in
theorem impl_FrmForm_small.calls (A0_0 : Option Addr) (c0_0 : Nat) (l0_0 : List Int) (A0_1 : Option Addr) (c0_1 : Nat) (l0_1 : List Int) (a0_2 : Int) (r : Bool) (w : World) (hr0_0 : Kd.C (Kd.int .i64) w A0_0 l0_0.length l0_0) (hc0_0 : l0_0.length ≤ c0_0) (hr0_1 : Kd.C (Kd.int .i64) w A0_1 l0_1.length l0_1) (hc0_1 : l0_1.length ≤ c0_1) (h : impl_FrmForm_small.f l0_0 l0_1 a0_2 = some r) :
  Calls Try.prog 58 #[.agg #[.slice A0_0 l0_0.length c0_0, .slice A0_1 l0_1.length c0_1, .int .i64 a0_2]] w fun e w' => e = .returned (.bool r) ∧ Below w.heap.size w w' := by
 have hu43 := Try.underlying43
 have HR0_0 := Aside0.mk hr0_0
 have HC0_0 := Aside0.mk hc0_0
 clear hr0_0 hc0_0
 have HR0_1 := Aside0.mk hr0_1
 have HC0_1 := Aside0.mk hc0_1
 clear hr0_1 hc0_1
 have HB := Aside0.mk (Below.refl w.heap.size w)
 have H : ((impl_within.f l0_0 3 2).bind fun t582 => (if t582 = true then ((impl_within.f l0_1 2 2).bind fun t583 => (if t583 = true then ((impl_in.f a0_2 (-20) 20).bind fun t584 => (some t584)) else (some false))) else (some false))) = some r := h
 clear h
 obtain ⟨t582, A2, H⟩ := bS H
 try dsimp only at H
 by_cases c3 : t582 = true
 ·subst c3
  have H1 : ((impl_within.f l0_1 2 2).bind fun t583 => (if t583 = true then ((impl_in.f a0_2 (-20) 20).bind fun t584 => (some t584)) else (some false))) = some r := by rw [if_pos rfl] at H; exact H
  clear H
  have H := H1
  clear H1
  obtain ⟨t583, A4, H⟩ := bS H
  try dsimp only at H
  by_cases c5 : t583 = true
  ·subst c5
   have H1 : ((impl_in.f a0_2 (-20) 20).bind fun t584 => (some t584)) = some r := by rw [if_pos rfl] at H; exact H
   clear H
   have H := H1
   clear H1
   obtain ⟨t584, A6, H⟩ := bS H
   try dsimp only at H
   obtain rfl := Option.some.inj H
   go_enter Try.func58, Try.ntmps58
   go_wp2_with (first | ((with_reducible refine gate_dst (N := 1) rfl ?_); refine bx 1 #[.slice A0_0 l0_0.length c0_0, .slice A0_1 l0_1.length c0_1, .int .i64 a0_2] 43 ?_; intro gb581 hg w7 hbox hb; have BK581 := Aside0.mk (hbox); have GW581 := Aside0.mk ((gz hg HB.out)); have IGW581 : Nonempty _ := ⟨GW581.out⟩; have GE581 := Aside0.mk ((gz hg HB.out)); have IGE581 : Nonempty _ := ⟨GE581.out⟩; replace HB := Aside0.mk (bj HB.out hb); clear hb hbox hg; obtain ⟨hcz8_0, hcz8_1, hcz8_2, hfz8_0, hfz8_1, hfz8_2⟩ := cf3 BK581.out) | ((with_reducible refine gate_callee (f := 25) rfl ?_); refine gL (some 5) Try.func25 #[.slice A0_0 l0_0.length c0_0, .int .i64 3, .int .i64 2] ?_; (with_reducible refine (impl_within.calls _ _ l0_0 3 2 true _ ?side1 ?side2 A2.out).mono ?_); (case side1 => exact lC <| (Kd.C_below HR0_0.out HB.out)); (case side2 => exact HC0_0.out); rintro e w9 ⟨rfl, hb⟩; refine ⟨_, rfl, ?_⟩; replace BK581 := Aside0.mk (bb BK581.out hb); replace HB := Aside0.mk (bj HB.out hb); (try clear hb); obtain ⟨hcz10_0, hcz10_1, hcz10_2, hfz10_0, hfz10_1, hfz10_2⟩ := cf3 BK581.out) | (go_at_call 25; (with_reducible refine (impl_within.calls _ _ l0_1 2 2 true _ ?side1 ?side2 A4.out).mono ?_); (case side1 => exact lC <| (Kd.C_below HR0_1.out HB.out)); (case side2 => exact HC0_1.out); rintro e w11 ⟨rfl, hb⟩; replace BK581 := Aside0.mk (bb BK581.out hb); replace HB := Aside0.mk (bj HB.out hb); (try clear hb); obtain ⟨hcz12_0, hcz12_1, hcz12_2, hfz12_0, hfz12_1, hfz12_2⟩ := cf3 BK581.out) | (go_at_call 23; (with_reducible refine (impl_in.calls a0_2 (-20) 20 t584 _ A6.out).mono ?_); rintro e w' ⟨rfl, ⟨nd, rfl⟩⟩))
   go_ret
   exact ⟨by first | rfl | (simp [errW_none, errW_some] <;> rfl) | (simp [*, errW_none, errW_some] <;> rfl), by exact jB HB.out⟩
  ·replace c5 := Bool.eq_false_iff.mpr c5
   subst c5
   have H1 : (some false) = some r := by rw [if_neg (show ¬ (false = true) by decide)] at H; exact H
   clear H
   have H := H1
   clear H1
   obtain rfl := Option.some.inj H
   go_enter Try.func58, Try.ntmps58
   go_wp2_with (first | ((with_reducible refine gate_dst (N := 1) rfl ?_); refine bx 1 #[.slice A0_0 l0_0.length c0_0, .slice A0_1 l0_1.length c0_1, .int .i64 a0_2] 43 ?_; intro gb581 hg w13 hbox hb; have BK581 := Aside0.mk (hbox); have GW581 := Aside0.mk ((gz hg HB.out)); have IGW581 : Nonempty _ := ⟨GW581.out⟩; have GE581 := Aside0.mk ((gz hg HB.out)); have IGE581 : Nonempty _ := ⟨GE581.out⟩; replace HB := Aside0.mk (bj HB.out hb); clear hb hbox hg; obtain ⟨hcz14_0, hcz14_1, hcz14_2, hfz14_0, hfz14_1, hfz14_2⟩ := cf3 BK581.out) | ((with_reducible refine gate_callee (f := 25) rfl ?_); refine gL (some 5) Try.func25 #[.slice A0_0 l0_0.length c0_0, .int .i64 3, .int .i64 2] ?_; (with_reducible refine (impl_within.calls _ _ l0_0 3 2 true _ ?side1 ?side2 A2.out).mono ?_); (case side1 => exact lC <| (Kd.C_below HR0_0.out HB.out)); (case side2 => exact HC0_0.out); rintro e w15 ⟨rfl, hb⟩; refine ⟨_, rfl, ?_⟩; replace BK581 := Aside0.mk (bb BK581.out hb); replace HB := Aside0.mk (bj HB.out hb); (try clear hb); obtain ⟨hcz16_0, hcz16_1, hcz16_2, hfz16_0, hfz16_1, hfz16_2⟩ := cf3 BK581.out) | (go_at_call 25; (with_reducible refine (impl_within.calls _ _ l0_1 2 2 false _ ?side1 ?side2 A4.out).mono ?_); (case side1 => exact lC <| (Kd.C_below HR0_1.out HB.out)); (case side2 => exact HC0_1.out); rintro e w17 ⟨rfl, hb⟩; replace BK581 := Aside0.mk (bb BK581.out hb); replace HB := Aside0.mk (bj HB.out hb); (try clear hb)))
   go_ret
   exact ⟨by first | rfl | (simp [errW_none, errW_some] <;> rfl) | (simp [*, errW_none, errW_some] <;> rfl), by exact jB HB.out⟩
 ·replace c3 := Bool.eq_false_iff.mpr c3
  subst c3
  have H1 : (some false) = some r := by rw [if_neg (show ¬ (false = true) by decide)] at H; exact H
  clear H
  have H := H1
  clear H1
  obtain rfl := Option.some.inj H
  go_enter Try.func58, Try.ntmps58
  go_wp2_with (first | ((with_reducible refine gate_dst (N := 1) rfl ?_); refine bx 1 #[.slice A0_0 l0_0.length c0_0, .slice A0_1 l0_1.length c0_1, .int .i64 a0_2] 43 ?_; intro gb581 hg w18 hbox hb; have BK581 := Aside0.mk (hbox); have GW581 := Aside0.mk ((gz hg HB.out)); have IGW581 : Nonempty _ := ⟨GW581.out⟩; have GE581 := Aside0.mk ((gz hg HB.out)); have IGE581 : Nonempty _ := ⟨GE581.out⟩; replace HB := Aside0.mk (bj HB.out hb); clear hb hbox hg; obtain ⟨hcz19_0, hcz19_1, hcz19_2, hfz19_0, hfz19_1, hfz19_2⟩ := cf3 BK581.out) | ((with_reducible refine gate_callee (f := 25) rfl ?_); refine gL (some 5) Try.func25 #[.slice A0_0 l0_0.length c0_0, .int .i64 3, .int .i64 2] ?_; (with_reducible refine (impl_within.calls _ _ l0_0 3 2 false _ ?side1 ?side2 A2.out).mono ?_); (case side1 => exact lC <| (Kd.C_below HR0_0.out HB.out)); (case side2 => exact HC0_0.out); rintro e w20 ⟨rfl, hb⟩; refine ⟨_, rfl, ?_⟩; replace BK581 := Aside0.mk (bb BK581.out hb); replace HB := Aside0.mk (bj HB.out hb); (try clear hb)))
  go_ret
  exact ⟨by first | rfl | (simp [errW_none, errW_some] <;> rfl) | (simp [*, errW_none, errW_some] <;> rfl), by exact jB HB.out⟩

/-! ### slices_Equal_int_int: function 68 -/
def slices_Equal_int_int.l0 : Nat → List Int → List Int → Int → Int → Option (Bool)
 | 0, _, _, _, _ => none
 | k + 1, x0, x1, x12, x13 => if x13 < x12 then (if 0 ≤ x13 then (if x13 < (x0.length : Int) then (if x13 < (x1.length : Int) then (if (rd x0 x13) = (rd x1 x13) then (slices_Equal_int_int.l0 k x0 x1 x12 (wrap64 (x13 + 1))) else (some false)) else (none)) else (none)) else (none)) else (some true)
def slices_Equal_int_int.f (k : Nat) (l0 : List Int) (l1 : List Int) : Option (Bool) := if (l0.length : Int) = (l1.length : Int) then (slices_Equal_int_int.l0 k l0 l1 (l0.length : Int) 0) else (some false)
theorem slices_Equal_int_int.mono_l : ∀ k, (∀ y0 y1 y2 y3, LeO (slices_Equal_int_int.l0 k y0 y1 y2 y3) (slices_Equal_int_int.l0 (k + 1) y0 y1 y2 y3))
 | 0 => fun _ _ _ _ r h => by simp [slices_Equal_int_int.l0] at h
 | k + 1 => by
  have ih0 := slices_Equal_int_int.mono_l k
  ·intro y0 y1 y2 y3
   unfold slices_Equal_int_int.l0
   repeat' first
   | (with_reducible exact ih0 _ _ _ _)
   | (with_reducible exact LeO.refl _)
   | (with_reducible exact LeO.none _)
   | (with_reducible refine LeO.ite ?_ ?_)
   | (with_reducible refine LeO.bind ?_ (fun _ => ?_))
   | exact LeO.none _
   | refine LeO.ite ?_ ?_
   | refine LeO.bind ?_ (fun _ => ?_)
theorem slices_Equal_int_int.mono : ∀ a0 a1 k, LeO (slices_Equal_int_int.f k a0 a1) (slices_Equal_int_int.f (k + 1) a0 a1) := by
 intro a0 a1 k
 have ih0 := slices_Equal_int_int.mono_l k
 unfold slices_Equal_int_int.f
 repeat' first
   | (with_reducible exact ih0 _ _ _ _)
   | (with_reducible exact LeO.refl _)
   | (with_reducible exact LeO.none _)
   | (with_reducible refine LeO.ite ?_ ?_)
   | (with_reducible refine LeO.bind ?_ (fun _ => ?_))
   | exact LeO.none _
   | refine LeO.ite ?_ ?_
   | refine LeO.bind ?_ (fun _ => ?_)
set_option maxHeartbeats 8000000 in
set_option maxRecDepth 100000 in
theorem slices_Equal_int_int.calls (k : Nat) (A0 : Option Addr) (c0 : Nat) (l0 : List Int) (A1 : Option Addr) (c1 : Nat) (l1 : List Int) (r : Bool) (w : World) (hr0 : Kd.C (Kd.int .i64) w A0 l0.length l0) (hc0 : l0.length ≤ c0) (hr1 : Kd.C (Kd.int .i64) w A1 l1.length l1) (hc1 : l1.length ≤ c1) (h : slices_Equal_int_int.f k l0 l1 = some r) :
  Calls Try.prog 68 #[.slice A0 l0.length c0, .slice A1 l1.length c1] w fun e w' => e = .returned (.bool r) ∧ Drawn0 w w' := by
 have HR0 := Aside0.mk hr0
 have HC0 := Aside0.mk hc0
 clear hr0 hc0
 have HR1 := Aside0.mk hr1
 have HC1 := Aside0.mk hc1
 clear hr1 hc1
 have H : (if (l0.length : Int) = (l1.length : Int) then (slices_Equal_int_int.l0 k l0 l1 (l0.length : Int) 0) else (some false)) = some r := h
 clear h
 by_cases c3 : (l0.length : Int) = (l1.length : Int)
 ·rw [if_pos c3] at H
  have c3b0 := beq_iff_eq.mpr c3
  have c3b1 := bne_eq_false_iff_eq.mpr c3
  have c3b2 : (l0.length == l1.length) = true := by first | simpa using c3 | (simp at c3 ⊢; omega)
  clear c3
  have H' := Aside0.mk H
  clear H
  go_enter Try.func68, Try.ntmps68
  go_wp2
  repeat (go_quiet (fail); try go_wp2)
  go_loopg [13] k (fun kq v13 w' => ∃ (x13_1 : Int), v13 = .int .i64 x13_1 ∧ Aside0 (slices_Equal_int_int.l0 kq l0 l1 (l0.length : Int) x13_1 = some r) ∧ Aside0 (kq ≤ k) ∧ Drawn0 w w')
  case atStart => exact ⟨(0), (by first | rfl | (simp; done) | (simp [*]; done)), H', ⟨Nat.le_refl _⟩, by repeat (first | exact Drawn0.refl _ | apply Drawn0.step)⟩
  case round =>
   clear H'
   try clear c1
   try clear p2
   try clear c3
   try clear c3b0
   try clear c3b1
   try clear c3b2
   obtain ⟨x13_1, rfl, HA, HK1, ⟨m1, rfl⟩⟩ := hrel
   cases gk with
   | zero => exact absurd HA.out (by simp [slices_Equal_int_int.l0])
   | succ k1 =>
    have H := HA.out
    clear HA
    simp only [slices_Equal_int_int.l0] at H
    by_cases c4 : x13_1 < (l0.length : Int)
    ·rw [if_pos c4] at H
     have c4b0 := decide_eq_true c4
     clear c4
     by_cases c5 : 0 ≤ x13_1
     ·rw [if_pos c5] at H
      have c5b0 := decide_eq_true c5
      clear c5
      by_cases c6 : x13_1 < (l0.length : Int)
      ·rw [if_pos c6] at H
       have c6b0 := decide_eq_true c6
       clear c6
       by_cases c7 : x13_1 < (l1.length : Int)
       ·rw [if_pos c7] at H
        have c7b0 := decide_eq_true c7
        clear c7
        by_cases c8 : (rd l0 x13_1) = (rd l1 x13_1)
        ·rw [if_pos c8] at H
         have c8b0 := beq_iff_eq.mpr c8
         have c8b1 := bne_eq_false_iff_eq.mpr c8
         clear c8
         have H' := Aside0.mk H
         clear H
         have p585 : 0 ≤ (x13_1 : Int) := of_decide_eq_true (by first | (with_reducible assumption) | assumption)
         have q585 : x13_1 < (l0.length : Int) := of_decide_eq_true (by first | (with_reducible assumption) | assumption)
         obtain ⟨ad585, e585, hx585_0⟩ := Kd.at_int HR0.out x13_1 p585 q585
         cases e585
         replace p585 := eq_true p585
         replace q585 := eq_true q585
         have p586 : 0 ≤ (x13_1 : Int) := of_decide_eq_true (by first | (with_reducible assumption) | assumption)
         have q586 : x13_1 < (l1.length : Int) := of_decide_eq_true (by first | (with_reducible assumption) | assumption)
         obtain ⟨ad586, e586, hx586_0⟩ := Kd.at_int HR1.out x13_1 p586 q586
         cases e586
         replace p586 := eq_true p586
         replace q586 := eq_true q586
         go_wp2
         repeat (go_quiet (fail); try go_wp2)
         go_roundg k1
         case measure => have := HK1.out; omega
         case rel => exact ⟨(wrap64 (x13_1 + 1)), (by first | rfl | (simp; done) | (simp [*]; done)), H', ⟨by have := HK1.out; omega⟩, by repeat (first | exact Drawn0.refl _ | apply Drawn0.step)⟩
        ·rw [if_neg c8] at H
         have c8b0 := beq_eq_false_iff_ne.mpr c8
         have c8b1 := bne_iff_ne.mpr c8
         obtain rfl := Option.some.inj H
         have p585 : 0 ≤ (x13_1 : Int) := of_decide_eq_true (by first | (with_reducible assumption) | assumption)
         have q585 : x13_1 < (l0.length : Int) := of_decide_eq_true (by first | (with_reducible assumption) | assumption)
         obtain ⟨ad585, e585, hx585_0⟩ := Kd.at_int HR0.out x13_1 p585 q585
         cases e585
         replace p585 := eq_true p585
         replace q585 := eq_true q585
         have p586 : 0 ≤ (x13_1 : Int) := of_decide_eq_true (by first | (with_reducible assumption) | assumption)
         have q586 : x13_1 < (l1.length : Int) := of_decide_eq_true (by first | (with_reducible assumption) | assumption)
         obtain ⟨ad586, e586, hx586_0⟩ := Kd.at_int HR1.out x13_1 p586 q586
         cases e586
         replace p586 := eq_true p586
         replace q586 := eq_true q586
         go_wp2
         repeat (go_quiet (fail); try go_wp2)
         go_ret
         exact ⟨by first | rfl | (simp; done) | (simp [*]; done), by repeat (first | exact Drawn0.refl _ | apply Drawn0.step)⟩
       ·rw [if_neg c7] at H
        exact absurd H (by simp)
      ·rw [if_neg c6] at H
       exact absurd H (by simp)
     ·rw [if_neg c5] at H
      exact absurd H (by simp)
    ·rw [if_neg c4] at H
     have c4b0 := decide_eq_false c4
     clear c4
     obtain rfl := Option.some.inj H
     go_wp2
     repeat (go_quiet (fail); try go_wp2)
     go_ret
     exact ⟨by first | rfl | (simp; done) | (simp [*]; done), by repeat (first | exact Drawn0.refl _ | apply Drawn0.step)⟩
 ·rw [if_neg c3] at H
  have c3b0 := beq_eq_false_iff_ne.mpr c3
  have c3b1 := bne_iff_ne.mpr c3
  have c3b2 : (l0.length == l1.length) = false := by first | simpa using c3 | (simp at c3 ⊢; omega)
  obtain rfl := Option.some.inj H
  go_enter Try.func68, Try.ntmps68
  go_wp2
  repeat (go_quiet (fail); try go_wp2)
  go_ret
  exact ⟨by first | rfl | (simp; done) | (simp [*]; done), by repeat (first | exact Drawn0.refl _ | apply Drawn0.step)⟩

/-! ### impl_FrmForm_same: function 59 -/
def impl_FrmForm_same.f (k : Nat) (l0_0 : List Int) (l0_1 : List Int) (a0_2 : Int) (l1_0 : List Int) (l1_1 : List Int) (a1_2 : Int) : Option (Bool) := if a0_2 = a1_2 then ((slices_Equal_int_int.f k l0_0 l1_0).bind fun t589 => (if t589 = true then ((slices_Equal_int_int.f k l0_1 l1_1).bind fun t590 => (some t590)) else (some false))) else (some false)
theorem impl_FrmForm_same.mono : ∀ a0 a1 a2 a3 a4 a5 k, LeO (impl_FrmForm_same.f k a0 a1 a2 a3 a4 a5) (impl_FrmForm_same.f (k + 1) a0 a1 a2 a3 a4 a5) := by
 intro a0 a1 a2 a3 a4 a5 k
 unfold impl_FrmForm_same.f
 repeat' first
   | (with_reducible exact slices_Equal_int_int.mono _ _ _)
   | (with_reducible exact LeO.refl _)
   | (with_reducible exact LeO.none _)
   | (with_reducible refine LeO.ite ?_ ?_)
   | (with_reducible refine LeO.bind ?_ (fun _ => ?_))
   | exact LeO.none _
   | refine LeO.ite ?_ ?_
   | refine LeO.bind ?_ (fun _ => ?_)
set_option maxHeartbeats 8000000 in
set_option maxRecDepth 100000 in
theorem impl_FrmForm_same.calls (k : Nat) (A0_0 : Option Addr) (c0_0 : Nat) (l0_0 : List Int) (A0_1 : Option Addr) (c0_1 : Nat) (l0_1 : List Int) (a0_2 : Int) (A1_0 : Option Addr) (c1_0 : Nat) (l1_0 : List Int) (A1_1 : Option Addr) (c1_1 : Nat) (l1_1 : List Int) (a1_2 : Int) (r : Bool) (w : World) (hr0_0 : Kd.C (Kd.int .i64) w A0_0 l0_0.length l0_0) (hc0_0 : l0_0.length ≤ c0_0) (hr0_1 : Kd.C (Kd.int .i64) w A0_1 l0_1.length l0_1) (hc0_1 : l0_1.length ≤ c0_1) (hr1_0 : Kd.C (Kd.int .i64) w A1_0 l1_0.length l1_0) (hc1_0 : l1_0.length ≤ c1_0) (hr1_1 : Kd.C (Kd.int .i64) w A1_1 l1_1.length l1_1) (hc1_1 : l1_1.length ≤ c1_1) (h : impl_FrmForm_same.f k l0_0 l0_1 a0_2 l1_0 l1_1 a1_2 = some r) :
  Calls Try.prog 59 #[.agg #[.slice A0_0 l0_0.length c0_0, .slice A0_1 l0_1.length c0_1, .int .i64 a0_2], .agg #[.slice A1_0 l1_0.length c1_0, .slice A1_1 l1_1.length c1_1, .int .i64 a1_2]] w fun e w' => e = .returned (.bool r) ∧ Below w.heap.size w w' := by
 have hu43 := Try.underlying43
 have HR0_0 := Aside0.mk hr0_0
 have HC0_0 := Aside0.mk hc0_0
 clear hr0_0 hc0_0
 have HR0_1 := Aside0.mk hr0_1
 have HC0_1 := Aside0.mk hc0_1
 clear hr0_1 hc0_1
 have HR1_0 := Aside0.mk hr1_0
 have HC1_0 := Aside0.mk hc1_0
 clear hr1_0 hc1_0
 have HR1_1 := Aside0.mk hr1_1
 have HC1_1 := Aside0.mk hc1_1
 clear hr1_1 hc1_1
 have HB := Aside0.mk (Below.refl w.heap.size w)
 have H : (if a0_2 = a1_2 then ((slices_Equal_int_int.f k l0_0 l1_0).bind fun t589 => (if t589 = true then ((slices_Equal_int_int.f k l0_1 l1_1).bind fun t590 => (some t590)) else (some false))) else (some false)) = some r := h
 clear h
 by_cases c3 : a0_2 = a1_2
 ·rw [if_pos c3] at H
  have c3b0 := beq_iff_eq.mpr c3
  have c3b1 := bne_eq_false_iff_eq.mpr c3
  clear c3
  obtain ⟨t589, A4, H⟩ := bS H
  try dsimp only at H
  by_cases c5 : t589 = true
  ·subst c5
   have H1 : ((slices_Equal_int_int.f k l0_1 l1_1).bind fun t590 => (some t590)) = some r := by rw [if_pos rfl] at H; exact H
   clear H
   have H := H1
   clear H1
   obtain ⟨t590, A6, H⟩ := bS H
   try dsimp only at H
   obtain rfl := Option.some.inj H
   go_enter Try.func59, Try.ntmps59
   go_wp2_with (first | ((with_reducible refine gate_dst (N := 2) rfl ?_); refine bx 2 #[.slice A0_0 l0_0.length c0_0, .slice A0_1 l0_1.length c0_1, .int .i64 a0_2] 43 ?_; intro gb587 hg w7 hbox hb; have BK587 := Aside0.mk (hbox); have GW587 := Aside0.mk ((gz hg HB.out)); have IGW587 : Nonempty _ := ⟨GW587.out⟩; have GE587 := Aside0.mk ((gz hg HB.out)); have IGE587 : Nonempty _ := ⟨GE587.out⟩; replace HB := Aside0.mk (bj HB.out hb); clear hb hbox hg) | ((with_reducible refine gate_dst (N := 3) rfl ?_); refine bx 3 #[.slice A1_0 l1_0.length c1_0, .slice A1_1 l1_1.length c1_1, .int .i64 a1_2] 43 ?_; intro gb588 hg w8 hbox hb; have BK588 := Aside0.mk (hbox); have GW588 := Aside0.mk ((gz hg HB.out)); have IGW588 : Nonempty _ := ⟨GW588.out⟩; have GE588 := Aside0.mk ((gz hg HB.out)); have IGE588 : Nonempty _ := ⟨GE588.out⟩; replace HB := Aside0.mk (bj HB.out hb); have NB587_588 := Aside0.mk ((neL hg (lK BK587.out) : gb587 ≠ gb588)); have NB588_587 := Aside0.mk ((neG hg (lK BK587.out) : gb588 ≠ gb587)); replace BK587 := Aside0.mk (bb BK587.out hb); clear hb hbox hg; have hnb9 := NB587_588.out; have hnc9 := NB588_587.out; obtain ⟨hcz10_0, hcz10_1, hcz10_2, hfz10_0, hfz10_1, hfz10_2⟩ := cf3 BK587.out; obtain ⟨hcz11_0, hcz11_1, hcz11_2, hfz11_0, hfz11_1, hfz11_2⟩ := cf3 BK588.out) | (go_at_call 68; (with_reducible refine (slices_Equal_int_int.calls k _ _ l0_0 _ _ l1_0 true _ ?side1 ?side2 ?side3 ?side4 A4.out).mono ?_); (case side1 => exact lC <| (Kd.C_below HR0_0.out HB.out)); (case side2 => exact HC0_0.out); (case side3 => exact lC <| (Kd.C_below HR1_0.out HB.out)); (case side4 => exact HC1_0.out); rintro e w' ⟨rfl, ⟨nd, rfl⟩⟩) | (go_at_call 68; (with_reducible refine (slices_Equal_int_int.calls k _ _ l0_1 _ _ l1_1 t590 _ ?side1 ?side2 ?side3 ?side4 A6.out).mono ?_); (case side1 => repeat (first | exact (Kd.C_below HR0_1.out (by exact jB HB.out)) | (with_reducible refine Kd.C_alloc ?_ _) | (with_reducible refine Kd.C_drewN ?_ _) | (with_reducible refine Kd.C_drew ?_))); (case side2 => exact HC0_1.out); (case side3 => repeat (first | exact (Kd.C_below HR1_1.out (by exact jB HB.out)) | (with_reducible refine Kd.C_alloc ?_ _) | (with_reducible refine Kd.C_drewN ?_ _) | (with_reducible refine Kd.C_drew ?_))); (case side4 => exact HC1_1.out); rintro e w' ⟨rfl, ⟨nd, rfl⟩⟩))
   go_ret
   exact ⟨by first | rfl | (simp [errW_none, errW_some] <;> rfl) | (simp [*, errW_none, errW_some] <;> rfl), by exact jB HB.out⟩
  ·replace c5 := Bool.eq_false_iff.mpr c5
   subst c5
   have H1 : (some false) = some r := by rw [if_neg (show ¬ (false = true) by decide)] at H; exact H
   clear H
   have H := H1
   clear H1
   obtain rfl := Option.some.inj H
   go_enter Try.func59, Try.ntmps59
   go_wp2_with (first | ((with_reducible refine gate_dst (N := 2) rfl ?_); refine bx 2 #[.slice A0_0 l0_0.length c0_0, .slice A0_1 l0_1.length c0_1, .int .i64 a0_2] 43 ?_; intro gb587 hg w12 hbox hb; have BK587 := Aside0.mk (hbox); have GW587 := Aside0.mk ((gz hg HB.out)); have IGW587 : Nonempty _ := ⟨GW587.out⟩; have GE587 := Aside0.mk ((gz hg HB.out)); have IGE587 : Nonempty _ := ⟨GE587.out⟩; replace HB := Aside0.mk (bj HB.out hb); clear hb hbox hg) | ((with_reducible refine gate_dst (N := 3) rfl ?_); refine bx 3 #[.slice A1_0 l1_0.length c1_0, .slice A1_1 l1_1.length c1_1, .int .i64 a1_2] 43 ?_; intro gb588 hg w13 hbox hb; have BK588 := Aside0.mk (hbox); have GW588 := Aside0.mk ((gz hg HB.out)); have IGW588 : Nonempty _ := ⟨GW588.out⟩; have GE588 := Aside0.mk ((gz hg HB.out)); have IGE588 : Nonempty _ := ⟨GE588.out⟩; replace HB := Aside0.mk (bj HB.out hb); have NB587_588 := Aside0.mk ((neL hg (lK BK587.out) : gb587 ≠ gb588)); have NB588_587 := Aside0.mk ((neG hg (lK BK587.out) : gb588 ≠ gb587)); replace BK587 := Aside0.mk (bb BK587.out hb); clear hb hbox hg; have hnb14 := NB587_588.out; have hnc14 := NB588_587.out; obtain ⟨hcz15_0, hcz15_1, hcz15_2, hfz15_0, hfz15_1, hfz15_2⟩ := cf3 BK587.out; obtain ⟨hcz16_0, hcz16_1, hcz16_2, hfz16_0, hfz16_1, hfz16_2⟩ := cf3 BK588.out) | (go_at_call 68; (with_reducible refine (slices_Equal_int_int.calls k _ _ l0_0 _ _ l1_0 false _ ?side1 ?side2 ?side3 ?side4 A4.out).mono ?_); (case side1 => exact lC <| (Kd.C_below HR0_0.out HB.out)); (case side2 => exact HC0_0.out); (case side3 => exact lC <| (Kd.C_below HR1_0.out HB.out)); (case side4 => exact HC1_0.out); rintro e w' ⟨rfl, ⟨nd, rfl⟩⟩))
   go_ret
   exact ⟨by first | rfl | (simp [errW_none, errW_some] <;> rfl) | (simp [*, errW_none, errW_some] <;> rfl), by exact jB HB.out⟩
 ·rw [if_neg c3] at H
  have c3b0 := beq_eq_false_iff_ne.mpr c3
  have c3b1 := bne_iff_ne.mpr c3
  obtain rfl := Option.some.inj H
  go_enter Try.func59, Try.ntmps59
  go_wp2_with (first | ((with_reducible refine gate_dst (N := 2) rfl ?_); refine bx 2 #[.slice A0_0 l0_0.length c0_0, .slice A0_1 l0_1.length c0_1, .int .i64 a0_2] 43 ?_; intro gb587 hg w17 hbox hb; have BK587 := Aside0.mk (hbox); have GW587 := Aside0.mk ((gz hg HB.out)); have IGW587 : Nonempty _ := ⟨GW587.out⟩; have GE587 := Aside0.mk ((gz hg HB.out)); have IGE587 : Nonempty _ := ⟨GE587.out⟩; replace HB := Aside0.mk (bj HB.out hb); clear hb hbox hg) | ((with_reducible refine gate_dst (N := 3) rfl ?_); refine bx 3 #[.slice A1_0 l1_0.length c1_0, .slice A1_1 l1_1.length c1_1, .int .i64 a1_2] 43 ?_; intro gb588 hg w18 hbox hb; have BK588 := Aside0.mk (hbox); have GW588 := Aside0.mk ((gz hg HB.out)); have IGW588 : Nonempty _ := ⟨GW588.out⟩; have GE588 := Aside0.mk ((gz hg HB.out)); have IGE588 : Nonempty _ := ⟨GE588.out⟩; replace HB := Aside0.mk (bj HB.out hb); have NB587_588 := Aside0.mk ((neL hg (lK BK587.out) : gb587 ≠ gb588)); have NB588_587 := Aside0.mk ((neG hg (lK BK587.out) : gb588 ≠ gb587)); replace BK587 := Aside0.mk (bb BK587.out hb); clear hb hbox hg; have hnb19 := NB587_588.out; have hnc19 := NB588_587.out; obtain ⟨hcz20_0, hcz20_1, hcz20_2, hfz20_0, hfz20_1, hfz20_2⟩ := cf3 BK587.out; obtain ⟨hcz21_0, hcz21_1, hcz21_2, hfz21_0, hfz21_1, hfz21_2⟩ := cf3 BK588.out))
  go_ret
  exact ⟨by first | rfl | (simp [errW_none, errW_some] <;> rfl) | (simp [*, errW_none, errW_some] <;> rfl), by exact jB HB.out⟩

end Go.Proofs.Ytgalnmgkcdmnkaa.QFnActSkip

-- shorter
