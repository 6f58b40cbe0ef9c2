/- Plain functions, and that the Go code computes them: written by a program of this session over the seat's translation; the conditions stand in each theorem. -/
import Derived.Test.YtopbdoilpdpkmaaQFnFrmTimesx0
import Derived.Test.YtopbdoilpdpkmaaQFnFrmTimesx1
import Derived.Test.YtopbdoilpdpkmaaQFnFrmTimesx3
namespace Go.Proofs.Ytopbdoilpdpkmaa.QFnFrmTimes
open Go.RowKit Go.Proofs.YtopbdoilpdpkmaaW.PrintWords Go.Proofs.YtopbdoilpdpkmaaW.PrintLast Go.Proofs.YtopbdoilpdpkmaaW.PrintMore Go.Proofs.Ytopbdoilpdpkmaa.HWords
attribute [local go_sem] max2_int min2_int max_two min_two max_three min_three max_four min_four   -- for this text's walks alone
set_option linter.unusedVariables false
set_option linter.unusedSimpArgs false

/-! ### spec_l20Vals: function 23 -/
def spec_l20Vals.l0 : Nat → Int → List Int → Int → List Int → Int → Option (List Int × Int)
 | 0, _, _, _, _, _ => none
 | k + 1, x1, x5, x6, x1000, x1001 => if x6 < 3 then ((some (([0, 1, 5, 20, (-3), 60, 10000, (-10000), 9996] : List Int) : List Int)).bind fun y192 => ((spec_l20Rd_pick.f k x1000 x1001 9).bind fun bt195 => (if 0 ≤ bt195.1 then (if bt195.1 < (y192.length : Int) then (if x5.length < 17592186044416 then (spec_l20Vals.l0 k x1 (x5 ++ [rd y192 bt195.1]) (wrap64 (x6 + 1)) x1000 bt195.2) else (none)) else (none)) else (none)))) else ((spec_l20Rd_pick.f k x1000 x1001 x1).bind fun bt201 => (if bt201.1 = 0 then ((spec_l20Rd_pick.f k x1000 bt201.2 3).bind fun bt203 => (if bt203.1 = 0 then (if 2 ≤ (x5.length : Int) then (some ((x5.take (2 : Int).toNat), bt203.2)) else (none)) else (if bt203.1 = 1 then (if x5.length < 17592186044416 then (some ((x5 ++ [0]), bt203.2)) else (none)) else ((spec_l20Rd_pick.f k x1000 bt203.2 3).bind fun bt211 => ((some (([10001, (-10001)] : List Int) : List Int)).bind fun y213 => ((spec_l20Rd_pick.f k x1000 bt211.2 2).bind fun bt216 => (if 0 ≤ bt216.1 then (if bt216.1 < (y213.length : Int) then (if 0 ≤ bt211.1 then (if bt211.1 < (x5.length : Int) then (some ((x5.set (bt211.1 : Int).toNat (rd y213 bt216.1)), bt216.2)) else (none)) else (none)) else (none)) else (none)))))))) else (some (x5, bt201.2))))
def spec_l20Vals.f (k : Nat) (s0_0 : List Int) (s0_1 : Int) (a1 : Int) : Option (List Int × Int) := spec_l20Vals.l0 k a1 (([] : List Int)) 0 s0_0 s0_1
theorem spec_l20Vals.mono_l : ∀ k, (∀ y0 y1 y2 y3 y4, LeO (spec_l20Vals.l0 k y0 y1 y2 y3 y4) (spec_l20Vals.l0 (k + 1) y0 y1 y2 y3 y4))
 | 0 => fun _ _ _ _ _ r h => by simp [spec_l20Vals.l0] at h
 | k + 1 => by
  have ih0 := spec_l20Vals.mono_l k
  ·intro y0 y1 y2 y3 y4
   unfold spec_l20Vals.l0
   repeat' first
   | (with_reducible exact ih0 _ _ _ _ _)
   | (with_reducible exact spec_l20Rd_pick.mono _ _ _ _)
   | (with_reducible exact LeO.refl _)
   | (with_reducible exact LeO.none _)
   | (with_reducible refine LeO.ite ?_ ?_)
   | (with_reducible refine LeO.bind ?_ (fun _ => ?_))
   | exact ih0 _ _ _ _ _
   | exact spec_l20Rd_pick.mono _ _ _ _
   | exact LeO.none _
   | refine LeO.ite ?_ ?_
   | refine LeO.bind ?_ (fun _ => ?_)
theorem spec_l20Vals.mono : ∀ a0 a1 a2 k, LeO (spec_l20Vals.f k a0 a1 a2) (spec_l20Vals.f (k + 1) a0 a1 a2) := by
 intro a0 a1 a2 k
 have ih0 := spec_l20Vals.mono_l k
 unfold spec_l20Vals.f
 repeat' first
   | (with_reducible exact ih0 _ _ _ _ _)
   | (with_reducible exact spec_l20Rd_pick.mono _ _ _ _)
   | (with_reducible exact LeO.refl _)
   | (with_reducible exact LeO.none _)
   | (with_reducible refine LeO.ite ?_ ?_)
   | (with_reducible refine LeO.bind ?_ (fun _ => ?_))
   | exact ih0 _ _ _ _ _
   | exact spec_l20Rd_pick.mono _ _ _ _
   | exact LeO.none _
   | refine LeO.ite ?_ ?_
   | refine LeO.bind ?_ (fun _ => ?_)
set_option maxHeartbeats 8000000 in
set_option maxRecDepth 100000 in
theorem spec_l20Vals.calls (k : Nat) (g : Nat) (s0_0 : List Int) (s0_1 : Int) (a1 : Int) (r1 : List Int) (r2 : Int) (w0 w : World) (hI : IsS59 w0 w g s0_0 s0_1) (hB : Below w0.heap.size w0 w) (h : spec_l20Vals.f k s0_0 s0_1 a1 = some (r1, r2)) :
  Calls Try.prog 23 #[.pointer (some ⟨g, 0, none⟩), .int .i64 a1] w fun e w' => ∃ v0_ : Value, e = .returned (v0_) ∧ Kd.R (Kd.int .i64) 3 w' w.heap.size (fun _ => True) v0_ r1 ∧ IsS59 w0 w' g s0_0 r2 ∧ Below w0.heap.size w0 w' ∧ KeepBut w w' g none := by
 have HI0 := Aside0.mk hI
 have IHI0 : Nonempty _ := ⟨IsS59.ge hI⟩
 have HK := Aside0.mk (KeepBut.refl w g none)
 have HL := Aside0.mk hB.size
 clear hI
 have HW0 := Aside0.mk hB.size
 have HB := Aside0.mk hB
 clear hB
 have H : (spec_l20Vals.l0 k a1 (([] : List Int)) 0 s0_0 s0_1) = some (r1, r2) := h
 clear h
 obtain ⟨y189, hy189⟩ : ∃ y_ : List Int, y_ = (([] : List Int)) := ⟨_, rfl⟩
 replace H : (spec_l20Vals.l0 k a1 y189 0 s0_0 s0_1) = some (r1, r2) := by first | (rw [hy189]; with_reducible exact H) | (have H2_ := (Option.bind_some _ _).symm.trans H; rw [hy189]; with_reducible exact H2_) | (have H2_ := (Option.bind_some _ _).symm.trans H; with_reducible exact H2_) | with_reducible exact H | (rw [hy189]; exact H) | exact H
 have Ny189 := Aside0.mk hy189
 clear hy189
 have H' := Aside0.mk H
 clear H
 go_enter Try.func23, Try.ntmps23
 go_wp2_with (first | ((with_reducible refine gate_dst (N := 7) rfl ?_); refine Kd.R_lit (Kd.int .i64) _ 3 ?hg (N := 7) ?hd (xs := ([] : List Int)) (inner := []) (ok := fun _ => True) (okp := fun _ => True) ?hr ?hp (fun _ hk => hk) trivial (Below.refl _ _) (Nat.le_refl _) (by simp) ?_; (case hd => rfl); (case hg => rfl); (case hr => first | (go_simp; done) | (go_simp; rfl)); (case hp => exact (Reps.none _ _)); intro v190 w3 ho4 hb hg_ hnew_; clear hg_ hnew_; (first | rw [← Ny189.out] at ho4 | (simp only [Int.reduceToNat] at ho4; rw [← Ny189.out] at ho4)); have HO191 := Aside0.mk (Kd.R_lower ho4 (keep_size (w := w) (g := g) (row := none) (by exact jK HK.out))); replace HI0 := Aside0.mk (IsS59.below (by exact IsS59.j HI0.out) hb); replace HK := Aside0.mk (KeepBut.trans (by exact jK HK.out) (KeepBut.of_below hb g none) (.inl rfl)); replace HB := Aside0.mk (below_step (by exact jB HB.out) hb); clear hb ho4))
 go_loopg [5, 6] k (fun kq v5 v6 w' => ∃ (x5_1 : List Int) (x6_1 : Int) (x1001_1 : Int), v6 = .int .i64 x6_1 ∧ Aside0 (spec_l20Vals.l0 kq a1 x5_1 x6_1 s0_0 x1001_1 = some (r1, r2)) ∧ Aside0 (kq ≤ k) ∧ Aside0 (Kd.R (Kd.int .i64) 3 w' w.heap.size (fun _ => True) v5 x5_1) ∧ Aside0 (IsS59 w0 w' g s0_0 x1001_1) ∧ Aside0 (KeepBut w w' g none) ∧ Aside0 (Below w0.heap.size w0 w'))
 case atStart => exact ⟨(y189), (0), (s0_1), (by first | rfl | (simp; done) | (simp [*]; done)), H', ⟨Nat.le_refl _⟩, ⟨by exact lR <| HO191.out⟩, ⟨by exact IsS59.j HI0.out⟩, ⟨by exact jK HK.out⟩, ⟨by exact jB HB.out⟩⟩
 case round =>
  clear H'
  try clear c2
  try clear p2
  obtain ⟨x5_1, x6_1, x1001_1, rfl, HA, HK1, HO_5, HI0, HK, HB⟩ := hrel
  cases gk with
  | zero => exact absurd HA.out (by simp [spec_l20Vals.l0])
  | succ k1 =>
   have H := HA.out
   clear HA
   simp only [spec_l20Vals.l0] at H
   by_cases c5 : x6_1 < 3
   ·rw [if_pos c5] at H
    have c5b0 : decide (x6_1 < 3) = true := decide_eq_true c5
    clear c5
    obtain ⟨y192, hy192⟩ : ∃ y_ : List Int, y_ = (([0, 1, 5, 20, (-3), 60, 10000, (-10000), 9996] : List Int)) := ⟨_, rfl⟩
    replace H : ((spec_l20Rd_pick.f k1 s0_0 x1001_1 9).bind fun bt195 => (if 0 ≤ bt195.1 then (if bt195.1 < (y192.length : Int) then (if x5_1.length < 17592186044416 then (spec_l20Vals.l0 k1 a1 (x5_1 ++ [rd y192 bt195.1]) (wrap64 (x6_1 + 1)) s0_0 bt195.2) else (none)) else (none)) else (none))) = some (r1, r2) := by first | (rw [hy192]; with_reducible exact H) | (have H2_ := (Option.bind_some _ _).symm.trans H; rw [hy192]; with_reducible exact H2_) | (have H2_ := (Option.bind_some _ _).symm.trans H; with_reducible exact H2_) | with_reducible exact H | (rw [hy192]; exact H) | exact H
    have Ny192 := Aside0.mk hy192
    clear hy192
    replace H := Option.bind_eq_some_iff.mp H
    obtain ⟨⟨t195, t196⟩, A60, H⟩ := H
    replace H : (if 0 ≤ t195 then (if t195 < (y192.length : Int) then (if x5_1.length < 17592186044416 then (spec_l20Vals.l0 k1 a1 (x5_1 ++ [rd y192 t195]) (wrap64 (x6_1 + 1)) s0_0 t196) else (none)) else (none)) else (none)) = some (r1, r2) := H
    have A6 := Aside0.mk A60
    clear A60
    by_cases c7 : 0 ≤ t195
    ·rw [if_pos c7] at H
     have c7b0 : decide (0 ≤ t195) = true := decide_eq_true c7
     clear c7
     by_cases c8 : t195 < (y192.length : Int)
     ·rw [if_pos c8] at H
      have c8b0 : decide (t195 < (y192.length : Int)) = true := decide_eq_true c8
      clear c8
      by_cases c9 : x5_1.length < 17592186044416
      ·rw [if_pos c9] at H
       have LMc9 := Aside0.mk c9
       clear c9
       obtain ⟨y198, hy198⟩ : ∃ y_ : List Int, y_ = (x5_1 ++ [rd y192 t195]) := ⟨_, rfl⟩
       replace H : (spec_l20Vals.l0 k1 a1 y198 (wrap64 (x6_1 + 1)) s0_0 t196) = some (r1, r2) := by first | (rw [hy198]; with_reducible exact H) | (have H2_ := (Option.bind_some _ _).symm.trans H; rw [hy198]; with_reducible exact H2_) | (have H2_ := (Option.bind_some _ _).symm.trans H; with_reducible exact H2_) | with_reducible exact H | (rw [hy198]; exact H) | exact H
       have Ny198 := Aside0.mk hy198
       clear hy198
       have H' := Aside0.mk H
       clear H
       go_wp2_with (first | ((with_reducible refine gate_dst (N := 13) rfl ?_); refine Kd.R_lit (Kd.int .i64) _ 3 ?hg (N := 13) ?hd (xs := ([0, 1, 5, 20, (-3), 60, 10000, (-10000), 9996] : List Int)) (inner := [.int .i64 0, .int .i64 1, .int .i64 5, .int .i64 20, .int .i64 (-3), .int .i64 60, .int .i64 10000, .int .i64 (-10000), .int .i64 9996]) (ok := fun _ => True) (okp := fun _ => True) ?hr ?hp (fun _ hk => hk) trivial (Below.refl _ _) (Nat.le_refl _) (by simp) ?_; (case hd => rfl); (case hg => rfl); (case hr => first | (go_simp; done) | (go_simp; rfl)); (case hp => exact (Reps.one (show Kd.M (Kd.int .i64) _ _ _ 0 [.int .i64 0] from rfl) (Reps.one (show Kd.M (Kd.int .i64) _ _ _ 1 [.int .i64 1] from rfl) (Reps.one (show Kd.M (Kd.int .i64) _ _ _ 5 [.int .i64 5] from rfl) (Reps.one (show Kd.M (Kd.int .i64) _ _ _ 20 [.int .i64 20] from rfl) (Reps.one (show Kd.M (Kd.int .i64) _ _ _ (-3) [.int .i64 (-3)] from rfl) (Reps.one (show Kd.M (Kd.int .i64) _ _ _ 60 [.int .i64 60] from rfl) (Reps.one (show Kd.M (Kd.int .i64) _ _ _ 10000 [.int .i64 10000] from rfl) (Reps.one (show Kd.M (Kd.int .i64) _ _ _ (-10000) [.int .i64 (-10000)] from rfl) (Reps.one (show Kd.M (Kd.int .i64) _ _ _ 9996 [.int .i64 9996] from rfl) (Reps.none _ _))))))))))); intro v193 w10 ho11 hb hg_ hnew_; clear hg_ hnew_; (first | rw [← Ny192.out] at ho11 | (simp only [Int.reduceToNat] at ho11; rw [← Ny192.out] at ho11)); have HO194 := Aside0.mk (Kd.R_lower (Kd.R_new' ho11 (rl HO_5.out)) (keep_size (w := w) (g := g) (row := none) (by exact jK HK.out))); replace HO_5 := Aside0.mk (Kd.R_elder' (by exact lR HO_5.out) (Kd.R_base ho11) hb); replace HI0 := Aside0.mk (IsS59.below (by exact IsS59.j HI0.out) hb); replace HK := Aside0.mk (KeepBut.trans (by exact jK HK.out) (KeepBut.of_below hb g none) (.inl rfl)); replace HB := Aside0.mk (below_step (by exact jB HB.out) hb); clear hb ho11) | ((with_reducible refine gate_callee (f := 22) rfl ?_); refine goesL_ (some 15) rfl rfl Try.func22 (by kernel_rfl) rfl #[.pointer (some ⟨g, 0, none⟩), .int .i64 9] rfl (by (try simp only [mA, mC, mN]); first | done | rfl | (simp only [ld, lt]; rfl)) ?_; (with_reducible refine (spec_l20Rd_pick.calls k1 g s0_0 x1001_1 9 t195 t196 w0 _ ?side1 ?side2 A6.out).mono ?_); (case side1 => exact IsS59.j HI0.out); (case side2 => exact jB HB.out); rintro e w12 ⟨rfl, hi, hb, hk⟩; refine ⟨_, rfl, ?_⟩; replace HO_5 := Aside0.mk (IsS59.kp (f1 := x1001_1) (by exact IsS59.j HI0.out) (by exact lR HO_5.out) hk); replace HO194 := Aside0.mk (IsS59.kp (f1 := x1001_1) (by exact IsS59.j HI0.out) (by exact lR HO194.out) hk); replace HK := Aside0.mk (KeepBut.trans (by exact jK HK.out) hk (.inl rfl)); replace HB := Aside0.mk (hb); replace HI0 := Aside0.mk (hi); (try clear hb); (try clear hb2); (try clear hk); (try clear hi); obtain ⟨Ao13, co13, eo13⟩ := Kd.R_slice HO194.out; subst eo13; have p197 : 0 ≤ (t195 : Int) := of_decide_eq_true (by first | (with_reducible assumption) | assumption); have q197 : t195 < (y192.length : Int) := of_decide_eq_true (by first | (with_reducible assumption) | assumption); obtain ⟨ad197, e197, hx197_0⟩ := Kd.at_int (Kd.R_reads' HO194.out).2.2 t195 p197 q197; cases e197; replace p197 := eq_true p197; replace q197 := eq_true q197) | ((with_reducible refine gate_builtin (b := .append) (xs := #[.tmp 12, .tmp 18]) rfl ?_); at_builtin; refine Kd.R_append (Kd.int .i64) w.heap.size rfl (.tmp 12) (.tmp 18) 23 3 (.int .i64 0) 8 rfl Try.underlying23 info3 rfl (by decide) (by omega) u5 x5_1 (rd y192 t195) [.int .i64 (rd y192 t195)] (fun k_ => some k_ ≠ (.slice (some ad197) y192.length co13 : Value).ownBlock) (fun _ => False) rfl rfl ?aP (fun _ hk => hk.elim) ?aF ?aO (Below.refl _ _) ?aS ?aL ?_; (case aP => exact rfl); (case aF => exact (fun k_ hk => Kd.fresh' (rl HO194.out) k_ hk)); (case aO => exact (by exact lR <| Kd.R_mono HO_5.out (fun _ hk => hk.2))); (case aS => exact (keep_size (w := w) (g := g) (row := none) (by exact jK HK.out))); (case aL => have := LMc9.out; omega); intro v199 w14 ho hb hg hat; rw [← Ny198.out] at ho; replace HI0 := Aside0.mk (IsS59.grown (by exact IsS59.j HI0.out) hg (IsS59.own_ne HI0.out HO_5.out (by decide))); replace HO194 := Aside0.mk (Kd.R_after (ok := (fun _ => True)) (by exact lR HO194.out) hg hat); replace HB := Aside0.mk (below_weaken (by exact jB HB.out) HL.out hb); replace HK := Aside0.mk (KeepBut.trans (by exact jK HK.out) (KeepBut.of_grown hg g) (Kd.R_base2 HO_5.out)); have HO200 := Aside0.mk (ho); clear HO_5 ho hb hg hat))
       go_roundg k1
       case measure => have := HK1.out; omega
       case rel => exact ⟨(y198), (wrap64 (x6_1 + 1)), (t196), (by first | rfl | (simp; done) | (simp [*]; done)), H', ⟨by have := HK1.out; omega⟩, ⟨by exact lR <| Kd.R_mono HO200.out (fun _ hk => trivial)⟩, ⟨by exact IsS59.j HI0.out⟩, ⟨by exact jK HK.out⟩, ⟨by exact jB HB.out⟩⟩
      ·rw [if_neg c9] at H
       exact absurd H (by simp)
     ·rw [if_neg c8] at H
      exact absurd H (by simp)
    ·rw [if_neg c7] at H
     exact absurd H (by simp)
   ·rw [if_neg c5] at H
    have c5b0 : decide (x6_1 < 3) = false := decide_eq_false c5
    clear c5
    replace H := Option.bind_eq_some_iff.mp H
    obtain ⟨⟨t201, t202⟩, A150, H⟩ := H
    replace H : (if t201 = 0 then ((spec_l20Rd_pick.f k1 s0_0 t202 3).bind fun bt203 => (if bt203.1 = 0 then (if 2 ≤ (x5_1.length : Int) then (some ((x5_1.take (2 : Int).toNat), bt203.2)) else (none)) else (if bt203.1 = 1 then (if x5_1.length < 17592186044416 then (some ((x5_1 ++ [0]), bt203.2)) else (none)) else ((spec_l20Rd_pick.f k1 s0_0 bt203.2 3).bind fun bt211 => ((some (([10001, (-10001)] : List Int) : List Int)).bind fun y213 => ((spec_l20Rd_pick.f k1 s0_0 bt211.2 2).bind fun bt216 => (if 0 ≤ bt216.1 then (if bt216.1 < (y213.length : Int) then (if 0 ≤ bt211.1 then (if bt211.1 < (x5_1.length : Int) then (some ((x5_1.set (bt211.1 : Int).toNat (rd y213 bt216.1)), bt216.2)) else (none)) else (none)) else (none)) else (none)))))))) else (some (x5_1, t202))) = some (r1, r2) := H
    have A15 := Aside0.mk A150
    clear A150
    by_cases c16 : t201 = 0
    ·rw [if_pos c16] at H
     have c16b0 : (t201 == 0) = true := beq_iff_eq.mpr c16
     have c16b1 : (t201 != 0) = false := bne_eq_false_iff_eq.mpr c16
     clear c16
     replace H := Option.bind_eq_some_iff.mp H
     obtain ⟨⟨t203, t204⟩, A170, H⟩ := H
     replace H : (if t203 = 0 then (if 2 ≤ (x5_1.length : Int) then (some ((x5_1.take (2 : Int).toNat), t204)) else (none)) else (if t203 = 1 then (if x5_1.length < 17592186044416 then (some ((x5_1 ++ [0]), t204)) else (none)) else ((spec_l20Rd_pick.f k1 s0_0 t204 3).bind fun bt211 => ((some (([10001, (-10001)] : List Int) : List Int)).bind fun y213 => ((spec_l20Rd_pick.f k1 s0_0 bt211.2 2).bind fun bt216 => (if 0 ≤ bt216.1 then (if bt216.1 < (y213.length : Int) then (if 0 ≤ bt211.1 then (if bt211.1 < (x5_1.length : Int) then (some ((x5_1.set (bt211.1 : Int).toNat (rd y213 bt216.1)), bt216.2)) else (none)) else (none)) else (none)) else (none))))))) = some (r1, r2) := H
     have A17 := Aside0.mk A170
     clear A170
     by_cases c18 : t203 = 0
     ·rw [if_pos c18] at H
      have c18b0 : (t203 == 0) = true := beq_iff_eq.mpr c18
      have c18b1 : (t203 != 0) = false := bne_eq_false_iff_eq.mpr c18
      clear c18
      by_cases c19 : 2 ≤ (x5_1.length : Int)
      ·rw [if_pos c19] at H
       have c19b0 := eq_true c19
       have c19b1 : decide (2 ≤ (x5_1.length : Int)) = true := decide_eq_true c19
       clear c19
       obtain ⟨y205, hy205⟩ : ∃ y_ : List Int, y_ = (x5_1.take (2 : Int).toNat) := ⟨_, rfl⟩
       replace H : (some (y205, t204)) = some (r1, r2) := by first | (rw [hy205]; with_reducible exact H) | (have H2_ := (Option.bind_some _ _).symm.trans H; rw [hy205]; with_reducible exact H2_) | (have H2_ := (Option.bind_some _ _).symm.trans H; with_reducible exact H2_) | with_reducible exact H | (rw [hy205]; exact H) | exact H
       have Ny205 := Aside0.mk hy205
       clear hy205
       simp only [Option.some.injEq, Prod.mk.injEq] at H
       obtain ⟨rfl, rfl⟩ := H
       go_wp2_with (first | ((with_reducible refine gate_callee (f := 22) rfl ?_); refine goesL_ (some 22) rfl rfl Try.func22 (by kernel_rfl) rfl #[.pointer (some ⟨g, 0, none⟩), .int .i64 a1] rfl (by (try simp only [mA, mC, mN]); first | done | rfl | (simp only [ld, lt]; rfl)) ?_; (with_reducible refine (spec_l20Rd_pick.calls k1 g s0_0 x1001_1 a1 t201 t202 w0 _ ?side1 ?side2 A15.out).mono ?_); (case side1 => exact IsS59.j HI0.out); (case side2 => exact jB HB.out); rintro e w20 ⟨rfl, hi, hb, hk⟩; refine ⟨_, rfl, ?_⟩; replace HO_5 := Aside0.mk (IsS59.kp (f1 := x1001_1) (by exact IsS59.j HI0.out) (by exact lR HO_5.out) hk); replace HK := Aside0.mk (KeepBut.trans (by exact jK HK.out) hk (.inl rfl)); replace HB := Aside0.mk (hb); replace HI0 := Aside0.mk (hi); (try clear hb); (try clear hb2); (try clear hk); (try clear hi)) | ((with_reducible refine gate_callee (f := 22) rfl ?_); refine goesL_ (some 25) rfl rfl Try.func22 (by kernel_rfl) rfl #[.pointer (some ⟨g, 0, none⟩), .int .i64 3] rfl (by (try simp only [mA, mC, mN]); first | done | rfl | (simp only [ld, lt]; rfl)) ?_; (with_reducible refine (spec_l20Rd_pick.calls k1 g s0_0 t202 3 t203 t204 w0 _ ?side1 ?side2 A17.out).mono ?_); (case side1 => exact IsS59.j HI0.out); (case side2 => exact jB HB.out); rintro e w21 ⟨rfl, hi, hb, hk⟩; refine ⟨_, rfl, ?_⟩; replace HO_5 := Aside0.mk (IsS59.kp (f1 := t202) (by exact IsS59.j HI0.out) (by exact lR HO_5.out) hk); replace HK := Aside0.mk (KeepBut.trans (by exact jK HK.out) hk (.inl rfl)); replace HB := Aside0.mk (hb); replace HI0 := Aside0.mk (hi); (try clear hb); (try clear hb2); (try clear hk); (try clear hi); obtain ⟨Ao22, co22, eo22⟩ := Kd.R_slice HO_5.out; subst eo22; have q23 : (2 : Int) ≤ ((x5_1.length : Int) : Int) := of_decide_eq_true (by first | (with_reducible assumption) | assumption); obtain ⟨i023, hi023, _, hsz23, _⟩ := info_parts info3; have hcut23 := cut_to (P := Try.prog) 23 3 .i64 Try.underlying23 hi023 Ao22 x5_1.length co22 2 (by omega) q23 (Kd.R_reads' HO_5.out).2.1; have hr23 := Kd.R_take (m := (2 : Int).toNat) HO_5.out (by omega); have hy23 : y205.length = (2 : Int).toNat := (by rw [Ny205.out, List.length_take]; omega); rw [← Ny205.out] at hr23; rw [← hy23] at hr23 hcut23; clear hy23 hi023 hsz23 HO_5; have HO207 := Aside0.mk hr23; clear hr23; replace q23 := eq_true q23))
       go_ret
       exact ⟨_, by first | rfl | (simp [errW_none, errW_some] <;> rfl) | (simp [*, errW_none, errW_some] <;> rfl), by exact lR <| HO207.out, by exact IsS59.j HI0.out, by exact jB HB.out, by exact jK HK.out⟩
      ·rw [if_neg c19] at H
       exact absurd H (by simp)
     ·rw [if_neg c18] at H
      have c18b0 : (t203 == 0) = false := beq_eq_false_iff_ne.mpr c18
      have c18b1 : (t203 != 0) = true := bne_iff_ne.mpr c18
      by_cases c24 : t203 = 1
      ·rw [if_pos c24] at H
       have c24b0 : (t203 == 1) = true := beq_iff_eq.mpr c24
       have c24b1 : (t203 != 1) = false := bne_eq_false_iff_eq.mpr c24
       clear c24
       by_cases c25 : x5_1.length < 17592186044416
       ·rw [if_pos c25] at H
        have LMc25 := Aside0.mk c25
        clear c25
        obtain ⟨y208, hy208⟩ : ∃ y_ : List Int, y_ = (x5_1 ++ [0]) := ⟨_, rfl⟩
        replace H : (some (y208, t204)) = some (r1, r2) := by first | (rw [hy208]; with_reducible exact H) | (have H2_ := (Option.bind_some _ _).symm.trans H; rw [hy208]; with_reducible exact H2_) | (have H2_ := (Option.bind_some _ _).symm.trans H; with_reducible exact H2_) | with_reducible exact H | (rw [hy208]; exact H) | exact H
        have Ny208 := Aside0.mk hy208
        clear hy208
        simp only [Option.some.injEq, Prod.mk.injEq] at H
        obtain ⟨rfl, rfl⟩ := H
        go_wp2_with (first | ((with_reducible refine gate_callee (f := 22) rfl ?_); refine goesL_ (some 22) rfl rfl Try.func22 (by kernel_rfl) rfl #[.pointer (some ⟨g, 0, none⟩), .int .i64 a1] rfl (by (try simp only [mA, mC, mN]); first | done | rfl | (simp only [ld, lt]; rfl)) ?_; (with_reducible refine (spec_l20Rd_pick.calls k1 g s0_0 x1001_1 a1 t201 t202 w0 _ ?side1 ?side2 A15.out).mono ?_); (case side1 => exact IsS59.j HI0.out); (case side2 => exact jB HB.out); rintro e w26 ⟨rfl, hi, hb, hk⟩; refine ⟨_, rfl, ?_⟩; replace HO_5 := Aside0.mk (IsS59.kp (f1 := x1001_1) (by exact IsS59.j HI0.out) (by exact lR HO_5.out) hk); replace HK := Aside0.mk (KeepBut.trans (by exact jK HK.out) hk (.inl rfl)); replace HB := Aside0.mk (hb); replace HI0 := Aside0.mk (hi); (try clear hb); (try clear hb2); (try clear hk); (try clear hi)) | ((with_reducible refine gate_callee (f := 22) rfl ?_); refine goesL_ (some 25) rfl rfl Try.func22 (by kernel_rfl) rfl #[.pointer (some ⟨g, 0, none⟩), .int .i64 3] rfl (by (try simp only [mA, mC, mN]); first | done | rfl | (simp only [ld, lt]; rfl)) ?_; (with_reducible refine (spec_l20Rd_pick.calls k1 g s0_0 t202 3 t203 t204 w0 _ ?side1 ?side2 A17.out).mono ?_); (case side1 => exact IsS59.j HI0.out); (case side2 => exact jB HB.out); rintro e w27 ⟨rfl, hi, hb, hk⟩; refine ⟨_, rfl, ?_⟩; replace HO_5 := Aside0.mk (IsS59.kp (f1 := t202) (by exact IsS59.j HI0.out) (by exact lR HO_5.out) hk); replace HK := Aside0.mk (KeepBut.trans (by exact jK HK.out) hk (.inl rfl)); replace HB := Aside0.mk (hb); replace HI0 := Aside0.mk (hi); (try clear hb); (try clear hb2); (try clear hk); (try clear hi)) | ((with_reducible refine gate_builtin (b := .append) (xs := #[.tmp 41, .tmp 42]) rfl ?_); at_builtin; refine Kd.R_append (Kd.int .i64) w.heap.size rfl (.tmp 41) (.tmp 42) 23 3 (.int .i64 0) 8 rfl Try.underlying23 info3 rfl (by decide) (by omega) u5 x5_1 0 [.int .i64 0] (fun _ => True) (fun _ => False) rfl rfl ?aP (fun _ hk => hk.elim) ?aF ?aO (Below.refl _ _) ?aS ?aL ?_; (case aP => exact rfl); (case aF => exact (fun _ _ => trivial)); (case aO => exact (by exact lR HO_5.out)); (case aS => exact (keep_size (w := w) (g := g) (row := none) (by exact jK HK.out))); (case aL => have := LMc25.out; omega); intro v209 w28 ho hb hg hat; rw [← Ny208.out] at ho; replace HI0 := Aside0.mk (IsS59.grown (by exact IsS59.j HI0.out) hg (IsS59.own_ne HI0.out HO_5.out (by decide))); replace HB := Aside0.mk (below_weaken (by exact jB HB.out) HL.out hb); replace HK := Aside0.mk (KeepBut.trans (by exact jK HK.out) (KeepBut.of_grown hg g) (Kd.R_base2 HO_5.out)); have HO210 := Aside0.mk (ho); clear HO_5 ho hb hg hat))
        go_ret
        exact ⟨_, by first | rfl | (simp [errW_none, errW_some] <;> rfl) | (simp [*, errW_none, errW_some] <;> rfl), by exact lR <| HO210.out, by exact IsS59.j HI0.out, by exact jB HB.out, by exact jK HK.out⟩
       ·rw [if_neg c25] at H
        exact absurd H (by simp)
      ·rw [if_neg c24] at H
       have c24b0 : (t203 == 1) = false := beq_eq_false_iff_ne.mpr c24
       have c24b1 : (t203 != 1) = true := bne_iff_ne.mpr c24
       replace H := Option.bind_eq_some_iff.mp H
       obtain ⟨⟨t211, t212⟩, A290, H⟩ := H
       replace H : ((some (([10001, (-10001)] : List Int) : List Int)).bind fun y213 => ((spec_l20Rd_pick.f k1 s0_0 t212 2).bind fun bt216 => (if 0 ≤ bt216.1 then (if bt216.1 < (y213.length : Int) then (if 0 ≤ t211 then (if t211 < (x5_1.length : Int) then (some ((x5_1.set (t211 : Int).toNat (rd y213 bt216.1)), bt216.2)) else (none)) else (none)) else (none)) else (none)))) = some (r1, r2) := H
       have A29 := Aside0.mk A290
       clear A290
       obtain ⟨y213, hy213⟩ : ∃ y_ : List Int, y_ = (([10001, (-10001)] : List Int)) := ⟨_, rfl⟩
       replace H : ((spec_l20Rd_pick.f k1 s0_0 t212 2).bind fun bt216 => (if 0 ≤ bt216.1 then (if bt216.1 < (y213.length : Int) then (if 0 ≤ t211 then (if t211 < (x5_1.length : Int) then (some ((x5_1.set (t211 : Int).toNat (rd y213 bt216.1)), bt216.2)) else (none)) else (none)) else (none)) else (none))) = some (r1, r2) := by first | (rw [hy213]; with_reducible exact H) | (have H2_ := (Option.bind_some _ _).symm.trans H; rw [hy213]; with_reducible exact H2_) | (have H2_ := (Option.bind_some _ _).symm.trans H; with_reducible exact H2_) | with_reducible exact H | (rw [hy213]; exact H) | exact H
       have Ny213 := Aside0.mk hy213
       clear hy213
       replace H := Option.bind_eq_some_iff.mp H
       obtain ⟨⟨t216, t217⟩, A300, H⟩ := H
       replace H : (if 0 ≤ t216 then (if t216 < (y213.length : Int) then (if 0 ≤ t211 then (if t211 < (x5_1.length : Int) then (some ((x5_1.set (t211 : Int).toNat (rd y213 t216)), t217)) else (none)) else (none)) else (none)) else (none)) = some (r1, r2) := H
       have A30 := Aside0.mk A300
       clear A300
       by_cases c31 : 0 ≤ t216
       ·rw [if_pos c31] at H
        have c31b0 : decide (0 ≤ t216) = true := decide_eq_true c31
        clear c31
        by_cases c32 : t216 < (y213.length : Int)
        ·rw [if_pos c32] at H
         have c32b0 : decide (t216 < (y213.length : Int)) = true := decide_eq_true c32
         clear c32
         by_cases c33 : 0 ≤ t211
         ·rw [if_pos c33] at H
          have c33b0 : decide (0 ≤ t211) = true := decide_eq_true c33
          clear c33
          by_cases c34 : t211 < (x5_1.length : Int)
          ·rw [if_pos c34] at H
           have c34b0 : decide (t211 < (x5_1.length : Int)) = true := decide_eq_true c34
           clear c34
           obtain ⟨y219, hy219⟩ : ∃ y_ : List Int, y_ = (x5_1.set (t211 : Int).toNat (rd y213 t216)) := ⟨_, rfl⟩
           replace H : (some (y219, t217)) = some (r1, r2) := by first | (rw [hy219]; with_reducible exact H) | (have H2_ := (Option.bind_some _ _).symm.trans H; rw [hy219]; with_reducible exact H2_) | (have H2_ := (Option.bind_some _ _).symm.trans H; with_reducible exact H2_) | with_reducible exact H | (rw [hy219]; exact H) | exact H
           have Ny219 := Aside0.mk hy219
           clear hy219
           simp only [Option.some.injEq, Prod.mk.injEq] at H
           obtain ⟨rfl, rfl⟩ := H
           go_wp2_with (first | ((with_reducible refine gate_callee (f := 22) rfl ?_); refine goesL_ (some 22) rfl rfl Try.func22 (by kernel_rfl) rfl #[.pointer (some ⟨g, 0, none⟩), .int .i64 a1] rfl (by (try simp only [mA, mC, mN]); first | done | rfl | (simp only [ld, lt]; rfl)) ?_; (with_reducible refine (spec_l20Rd_pick.calls k1 g s0_0 x1001_1 a1 t201 t202 w0 _ ?side1 ?side2 A15.out).mono ?_); (case side1 => exact IsS59.j HI0.out); (case side2 => exact jB HB.out); rintro e w36 ⟨rfl, hi, hb, hk⟩; refine ⟨_, rfl, ?_⟩; replace HO_5 := Aside0.mk (IsS59.kp (f1 := x1001_1) (by exact IsS59.j HI0.out) (by exact lR HO_5.out) hk); replace HK := Aside0.mk (KeepBut.trans (by exact jK HK.out) hk (.inl rfl)); replace HB := Aside0.mk (hb); replace HI0 := Aside0.mk (hi); (try clear hb); (try clear hb2); (try clear hk); (try clear hi)) | ((with_reducible refine gate_callee (f := 22) rfl ?_); refine goesL_ (some 25) rfl rfl Try.func22 (by kernel_rfl) rfl #[.pointer (some ⟨g, 0, none⟩), .int .i64 3] rfl (by (try simp only [mA, mC, mN]); first | done | rfl | (simp only [ld, lt]; rfl)) ?_; (with_reducible refine (spec_l20Rd_pick.calls k1 g s0_0 t202 3 t203 t204 w0 _ ?side1 ?side2 A17.out).mono ?_); (case side1 => exact IsS59.j HI0.out); (case side2 => exact jB HB.out); rintro e w37 ⟨rfl, hi, hb, hk⟩; refine ⟨_, rfl, ?_⟩; replace HO_5 := Aside0.mk (IsS59.kp (f1 := t202) (by exact IsS59.j HI0.out) (by exact lR HO_5.out) hk); replace HK := Aside0.mk (KeepBut.trans (by exact jK HK.out) hk (.inl rfl)); replace HB := Aside0.mk (hb); replace HI0 := Aside0.mk (hi); (try clear hb); (try clear hb2); (try clear hk); (try clear hi)) | ((with_reducible refine gate_callee (f := 22) rfl ?_); refine goesL_ (some 28) rfl rfl Try.func22 (by kernel_rfl) rfl #[.pointer (some ⟨g, 0, none⟩), .int .i64 3] rfl (by (try simp only [mA, mC, mN]); first | done | rfl | (simp only [ld, lt]; rfl)) ?_; (with_reducible refine (spec_l20Rd_pick.calls k1 g s0_0 t204 3 t211 t212 w0 _ ?side1 ?side2 A29.out).mono ?_); (case side1 => exact IsS59.j HI0.out); (case side2 => exact jB HB.out); rintro e w38 ⟨rfl, hi, hb, hk⟩; refine ⟨_, rfl, ?_⟩; replace HO_5 := Aside0.mk (IsS59.kp (f1 := t204) (by exact IsS59.j HI0.out) (by exact lR HO_5.out) hk); replace HK := Aside0.mk (KeepBut.trans (by exact jK HK.out) hk (.inl rfl)); replace HB := Aside0.mk (hb); replace HI0 := Aside0.mk (hi); (try clear hb); (try clear hb2); (try clear hk); (try clear hi)) | ((with_reducible refine gate_dst (N := 29) rfl ?_); refine Kd.R_lit (Kd.int .i64) _ 3 ?hg (N := 29) ?hd (xs := ([10001, (-10001)] : List Int)) (inner := [.int .i64 10001, .int .i64 (-10001)]) (ok := fun _ => True) (okp := fun _ => True) ?hr ?hp (fun _ hk => hk) trivial (Below.refl _ _) (Nat.le_refl _) (by simp) ?_; (case hd => rfl); (case hg => rfl); (case hr => first | (go_simp; done) | (go_simp; rfl)); (case hp => exact (Reps.one (show Kd.M (Kd.int .i64) _ _ _ 10001 [.int .i64 10001] from rfl) (Reps.one (show Kd.M (Kd.int .i64) _ _ _ (-10001) [.int .i64 (-10001)] from rfl) (Reps.none _ _)))); intro v214 w39 ho40 hb hg_ hnew_; clear hg_ hnew_; (first | rw [← Ny213.out] at ho40 | (simp only [Int.reduceToNat] at ho40; rw [← Ny213.out] at ho40)); have HO215 := Aside0.mk (Kd.R_lower (Kd.R_new' ho40 (rl HO_5.out)) (keep_size (w := w) (g := g) (row := none) (by exact jK HK.out))); replace HO_5 := Aside0.mk (Kd.R_elder' (by exact lR HO_5.out) (Kd.R_base ho40) hb); replace HI0 := Aside0.mk (IsS59.below (by exact IsS59.j HI0.out) hb); replace HK := Aside0.mk (KeepBut.trans (by exact jK HK.out) (KeepBut.of_below hb g none) (.inl rfl)); replace HB := Aside0.mk (below_step (by exact jB HB.out) hb); clear hb ho40) | ((with_reducible refine gate_callee (f := 22) rfl ?_); refine goesL_ (some 31) rfl rfl Try.func22 (by kernel_rfl) rfl #[.pointer (some ⟨g, 0, none⟩), .int .i64 2] rfl (by (try simp only [mA, mC, mN]); first | done | rfl | (simp only [ld, lt]; rfl)) ?_; (with_reducible refine (spec_l20Rd_pick.calls k1 g s0_0 t212 2 t216 t217 w0 _ ?side1 ?side2 A30.out).mono ?_); (case side1 => exact IsS59.j HI0.out); (case side2 => exact jB HB.out); rintro e w41 ⟨rfl, hi, hb, hk⟩; refine ⟨_, rfl, ?_⟩; replace HO_5 := Aside0.mk (IsS59.kp (f1 := t212) (by exact IsS59.j HI0.out) (by exact lR HO_5.out) hk); replace HO215 := Aside0.mk (IsS59.kp (f1 := t212) (by exact IsS59.j HI0.out) (by exact lR HO215.out) hk); replace HK := Aside0.mk (KeepBut.trans (by exact jK HK.out) hk (.inl rfl)); replace HB := Aside0.mk (hb); replace HI0 := Aside0.mk (hi); (try clear hb); (try clear hb2); (try clear hk); (try clear hi); obtain ⟨Ao42, co42, eo42⟩ := Kd.R_slice HO215.out; subst eo42; have p218 : 0 ≤ (t216 : Int) := of_decide_eq_true (by first | (with_reducible assumption) | assumption); have q218 : t216 < (y213.length : Int) := of_decide_eq_true (by first | (with_reducible assumption) | assumption); obtain ⟨ad218, e218, hx218_0⟩ := Kd.at_int (Kd.R_reads' HO215.out).2.2 t216 p218 q218; cases e218; replace p218 := eq_true p218; replace q218 := eq_true q218; have p35 : 0 ≤ (t211 : Int) := of_decide_eq_true (by first | (with_reducible assumption) | assumption); have q35 : (t211 : Int) < ((x5_1.length : Int) : Int) := of_decide_eq_true (by first | (with_reducible assumption) | assumption); obtain ⟨go35, co35, eo35, gb35, gl35, cl35, HG35⟩ := Kd.R_form HO_5.out (by omega); (first | cases eo35 | (injection eo35 with ea_ en_ ec_; (first | subst ea_ | (injection ea_ with ea_; subst ea_)); subst ec_; clear en_)); have GB35 := Aside0.mk gb35; have IGB35 : Nonempty _ := ⟨GB35.out⟩; have GG35 := Aside0.mk HG35; clear gb35 gl35 HG35; obtain ⟨hx35_0, hf35_0⟩ := Kd.R_celln 0 HO_5.out (t211 : Int) p35 q35; replace p35 := eq_true p35; replace q35 := eq_true q35; have n_ := Aside0.mk (Kd.R_mono (ok' := (fun k_ => some k_ ≠ (.slice (some ad218) y213.length co42 : Value).ownBlock)) HO_5.out (fun k_ hk => hk.2)); clear HO_5; have HO_5 := n_; clear n_; obtain ⟨hy43_, hz43_⟩ := Kd.R_celln 0 HO_5.out (t211 : Int) (of_decide_eq_true (by first | (with_reducible assumption) | assumption)) (of_decide_eq_true (by first | (with_reducible assumption) | assumption)); have HP43 := Kd.R_putg HO_5.out (t211 : Int) (rd y213 t216)) | ((with_reducible refine gate_store (t := 3) (p := 34) rfl ?_); refine store_event (t := 3) (p := 34) (v := ?vo_w44) (w1 := (w41.setCell ⟨go35, (t211 : Int).toNat, none⟩ (.int .i64 (rd y213 t216)))) ?hg ?ho ?hn ?hr ?_; (case ho => rfl); (case hg => rfl); (case hn => rfl); (case hr => first | (go_simp; done) | (go_simp; rfl)); intro w44 hw; have hg : w41.grownBy w44 (some go35) := (by rw [hw]; exact HP43.2); have hp_ : Kd.R (Kd.int .i64) 3 w44 w.heap.size (fun k_ => some k_ ≠ (.slice (some ad218) y213.length co42 : Value).ownBlock) (.slice (some ⟨go35, 0, none⟩) x5_1.length co35) y219 := (by rw [hw, Ny219.out]; exact HP43.1); clear HP43; replace HI0 := Aside0.mk (IsS59.grown (by exact IsS59.j HI0.out) hg (IsS59.own_ne HI0.out HO_5.out (by decide))); replace HO215 := Aside0.mk (Kd.R_after (v := (.slice (some ⟨go35, 0, none⟩) x5_1.length co35)) (v1 := (.slice (some ⟨go35, 0, none⟩) x5_1.length co35)) (ok := (fun _ => True)) (by exact lR HO215.out) hg (.inl rfl)); replace HB := Aside0.mk ((by rw [hw]; exact below_set (HB.out) (Nat.le_trans HL.out GB35.out) : Below w0.heap.size w0 w44)); replace HK := Aside0.mk (KeepBut.trans (by exact jK HK.out) (KeepBut.of_grown hg g) (Kd.R_base2 HO_5.out)); replace HO_5 := Aside0.mk (hp_); clear hg hw hp_))
           go_ret
           exact ⟨_, by first | rfl | (simp [errW_none, errW_some] <;> rfl) | (simp [*, errW_none, errW_some] <;> rfl), by exact lR <| Kd.R_mono HO_5.out (fun _ hk => trivial), by exact IsS59.j HI0.out, by exact jB HB.out, by exact jK HK.out⟩
          ·rw [if_neg c34] at H
           exact absurd H (by simp)
         ·rw [if_neg c33] at H
          exact absurd H (by simp)
        ·rw [if_neg c32] at H
         exact absurd H (by simp)
       ·rw [if_neg c31] at H
        exact absurd H (by simp)
    ·rw [if_neg c16] at H
     have c16b0 : (t201 == 0) = false := beq_eq_false_iff_ne.mpr c16
     have c16b1 : (t201 != 0) = true := bne_iff_ne.mpr c16
     simp only [Option.some.injEq, Prod.mk.injEq] at H
     obtain ⟨rfl, rfl⟩ := H
     go_wp2_with (first | ((with_reducible refine gate_callee (f := 22) rfl ?_); refine goesL_ (some 22) rfl rfl Try.func22 (by kernel_rfl) rfl #[.pointer (some ⟨g, 0, none⟩), .int .i64 a1] rfl (by (try simp only [mA, mC, mN]); first | done | rfl | (simp only [ld, lt]; rfl)) ?_; (with_reducible refine (spec_l20Rd_pick.calls k1 g s0_0 x1001_1 a1 t201 t202 w0 _ ?side1 ?side2 A15.out).mono ?_); (case side1 => exact IsS59.j HI0.out); (case side2 => exact jB HB.out); rintro e w45 ⟨rfl, hi, hb, hk⟩; refine ⟨_, rfl, ?_⟩; replace HO_5 := Aside0.mk (IsS59.kp (f1 := x1001_1) (by exact IsS59.j HI0.out) (by exact lR HO_5.out) hk); replace HK := Aside0.mk (KeepBut.trans (by exact jK HK.out) hk (.inl rfl)); replace HB := Aside0.mk (hb); replace HI0 := Aside0.mk (hi); (try clear hb); (try clear hb2); (try clear hk); (try clear hi)))
     go_ret
     exact ⟨_, by first | rfl | (simp [errW_none, errW_some] <;> rfl) | (simp [*, errW_none, errW_some] <;> rfl), by exact lR <| HO_5.out, by exact IsS59.j HI0.out, by exact jB HB.out, by exact jK HK.out⟩

/-! ### spec_l20Args: function 24 -/
def spec_l20Args.f (k : Nat) (s0_0 : List Int) (s0_1 : Int) (a1 : Int) : Option (List Int × Int) := (spec_l20Rd_pick.f k s0_0 s0_1 19).bind fun bt220 => ((spec_l20Rd_pick.f k s0_0 bt220.2 19).bind fun bt222 => ((some (([wrap64 (bt220.1 - 9), wrap64 (bt222.1 - 9)] : List Int) : List Int)).bind fun y224 => ((spec_l20Rd_pick.f k s0_0 bt222.2 a1).bind fun bt227 => (if bt227.1 = 0 then ((spec_l20Rd_pick.f k s0_0 bt227.2 3).bind fun bt229 => (if bt229.1 = 0 then (if 1 ≤ (y224.length : Int) then (some ((y224.take (1 : Int).toNat), bt229.2)) else (none)) else (if bt229.1 = 1 then (if y224.length < 17592186044416 then (some ((y224 ++ [0]), bt229.2)) else (none)) else ((spec_l20Rd_pick.f k s0_0 bt229.2 2).bind fun bt237 => ((some (([10, (-10)] : List Int) : List Int)).bind fun y239 => ((spec_l20Rd_pick.f k s0_0 bt237.2 2).bind fun bt242 => (if 0 ≤ bt242.1 then (if bt242.1 < (y239.length : Int) then (if 0 ≤ bt237.1 then (if bt237.1 < (y224.length : Int) then (some ((y224.set (bt237.1 : Int).toNat (rd y239 bt242.1)), bt242.2)) else (none)) else (none)) else (none)) else (none)))))))) else (some (y224, bt227.2))))))
theorem spec_l20Args.mono : ∀ a0 a1 a2 k, LeO (spec_l20Args.f k a0 a1 a2) (spec_l20Args.f (k + 1) a0 a1 a2) := by
 intro a0 a1 a2 k
 unfold spec_l20Args.f
 repeat' first
   | (with_reducible exact spec_l20Rd_pick.mono _ _ _ _)
   | (with_reducible exact LeO.refl _)
   | (with_reducible exact LeO.none _)
   | (with_reducible refine LeO.ite ?_ ?_)
   | (with_reducible refine LeO.bind ?_ (fun _ => ?_))
   | exact spec_l20Rd_pick.mono _ _ _ _
   | exact LeO.none _
   | refine LeO.ite ?_ ?_
   | refine LeO.bind ?_ (fun _ => ?_)
set_option maxHeartbeats 8000000 in
set_option maxRecDepth 100000 in
theorem spec_l20Args.calls (k : Nat) (g : Nat) (s0_0 : List Int) (s0_1 : Int) (a1 : Int) (r1 : List Int) (r2 : Int) (w0 w : World) (hI : IsS59 w0 w g s0_0 s0_1) (hB : Below w0.heap.size w0 w) (h : spec_l20Args.f k s0_0 s0_1 a1 = some (r1, r2)) :
  Calls Try.prog 24 #[.pointer (some ⟨g, 0, none⟩), .int .i64 a1] w fun e w' => ∃ v0_ : Value, e = .returned (v0_) ∧ Kd.R (Kd.int .i64) 3 w' w.heap.size (fun _ => True) v0_ r1 ∧ IsS59 w0 w' g s0_0 r2 ∧ Below w0.heap.size w0 w' ∧ KeepBut w w' g none := by
 have HI0 := Aside0.mk hI
 have IHI0 : Nonempty _ := ⟨IsS59.ge hI⟩
 have HK := Aside0.mk (KeepBut.refl w g none)
 have HL := Aside0.mk hB.size
 clear hI
 have HW0 := Aside0.mk hB.size
 have HB := Aside0.mk hB
 clear hB
 have H : ((spec_l20Rd_pick.f k s0_0 s0_1 19).bind fun bt220 => ((spec_l20Rd_pick.f k s0_0 bt220.2 19).bind fun bt222 => ((some (([wrap64 (bt220.1 - 9), wrap64 (bt222.1 - 9)] : List Int) : List Int)).bind fun y224 => ((spec_l20Rd_pick.f k s0_0 bt222.2 a1).bind fun bt227 => (if bt227.1 = 0 then ((spec_l20Rd_pick.f k s0_0 bt227.2 3).bind fun bt229 => (if bt229.1 = 0 then (if 1 ≤ (y224.length : Int) then (some ((y224.take (1 : Int).toNat), bt229.2)) else (none)) else (if bt229.1 = 1 then (if y224.length < 17592186044416 then (some ((y224 ++ [0]), bt229.2)) else (none)) else ((spec_l20Rd_pick.f k s0_0 bt229.2 2).bind fun bt237 => ((some (([10, (-10)] : List Int) : List Int)).bind fun y239 => ((spec_l20Rd_pick.f k s0_0 bt237.2 2).bind fun bt242 => (if 0 ≤ bt242.1 then (if bt242.1 < (y239.length : Int) then (if 0 ≤ bt237.1 then (if bt237.1 < (y224.length : Int) then (some ((y224.set (bt237.1 : Int).toNat (rd y239 bt242.1)), bt242.2)) else (none)) else (none)) else (none)) else (none)))))))) else (some (y224, bt227.2))))))) = some (r1, r2) := h
 clear h
 replace H := Option.bind_eq_some_iff.mp H
 obtain ⟨⟨t220, t221⟩, A30, H⟩ := H
 replace H : ((spec_l20Rd_pick.f k s0_0 t221 19).bind fun bt222 => ((some (([wrap64 (t220 - 9), wrap64 (bt222.1 - 9)] : List Int) : List Int)).bind fun y224 => ((spec_l20Rd_pick.f k s0_0 bt222.2 a1).bind fun bt227 => (if bt227.1 = 0 then ((spec_l20Rd_pick.f k s0_0 bt227.2 3).bind fun bt229 => (if bt229.1 = 0 then (if 1 ≤ (y224.length : Int) then (some ((y224.take (1 : Int).toNat), bt229.2)) else (none)) else (if bt229.1 = 1 then (if y224.length < 17592186044416 then (some ((y224 ++ [0]), bt229.2)) else (none)) else ((spec_l20Rd_pick.f k s0_0 bt229.2 2).bind fun bt237 => ((some (([10, (-10)] : List Int) : List Int)).bind fun y239 => ((spec_l20Rd_pick.f k s0_0 bt237.2 2).bind fun bt242 => (if 0 ≤ bt242.1 then (if bt242.1 < (y239.length : Int) then (if 0 ≤ bt237.1 then (if bt237.1 < (y224.length : Int) then (some ((y224.set (bt237.1 : Int).toNat (rd y239 bt242.1)), bt242.2)) else (none)) else (none)) else (none)) else (none)))))))) else (some (y224, bt227.2)))))) = some (r1, r2) := H
 have A3 := Aside0.mk A30
 clear A30
 replace H := Option.bind_eq_some_iff.mp H
 obtain ⟨⟨t222, t223⟩, A40, H⟩ := H
 replace H : ((some (([wrap64 (t220 - 9), wrap64 (t222 - 9)] : List Int) : List Int)).bind fun y224 => ((spec_l20Rd_pick.f k s0_0 t223 a1).bind fun bt227 => (if bt227.1 = 0 then ((spec_l20Rd_pick.f k s0_0 bt227.2 3).bind fun bt229 => (if bt229.1 = 0 then (if 1 ≤ (y224.length : Int) then (some ((y224.take (1 : Int).toNat), bt229.2)) else (none)) else (if bt229.1 = 1 then (if y224.length < 17592186044416 then (some ((y224 ++ [0]), bt229.2)) else (none)) else ((spec_l20Rd_pick.f k s0_0 bt229.2 2).bind fun bt237 => ((some (([10, (-10)] : List Int) : List Int)).bind fun y239 => ((spec_l20Rd_pick.f k s0_0 bt237.2 2).bind fun bt242 => (if 0 ≤ bt242.1 then (if bt242.1 < (y239.length : Int) then (if 0 ≤ bt237.1 then (if bt237.1 < (y224.length : Int) then (some ((y224.set (bt237.1 : Int).toNat (rd y239 bt242.1)), bt242.2)) else (none)) else (none)) else (none)) else (none)))))))) else (some (y224, bt227.2))))) = some (r1, r2) := H
 have A4 := Aside0.mk A40
 clear A40
 obtain ⟨y224, hy224⟩ : ∃ y_ : List Int, y_ = (([wrap64 (t220 - 9), wrap64 (t222 - 9)] : List Int)) := ⟨_, rfl⟩
 replace H : ((spec_l20Rd_pick.f k s0_0 t223 a1).bind fun bt227 => (if bt227.1 = 0 then ((spec_l20Rd_pick.f k s0_0 bt227.2 3).bind fun bt229 => (if bt229.1 = 0 then (if 1 ≤ (y224.length : Int) then (some ((y224.take (1 : Int).toNat), bt229.2)) else (none)) else (if bt229.1 = 1 then (if y224.length < 17592186044416 then (some ((y224 ++ [0]), bt229.2)) else (none)) else ((spec_l20Rd_pick.f k s0_0 bt229.2 2).bind fun bt237 => ((some (([10, (-10)] : List Int) : List Int)).bind fun y239 => ((spec_l20Rd_pick.f k s0_0 bt237.2 2).bind fun bt242 => (if 0 ≤ bt242.1 then (if bt242.1 < (y239.length : Int) then (if 0 ≤ bt237.1 then (if bt237.1 < (y224.length : Int) then (some ((y224.set (bt237.1 : Int).toNat (rd y239 bt242.1)), bt242.2)) else (none)) else (none)) else (none)) else (none)))))))) else (some (y224, bt227.2)))) = some (r1, r2) := by first | (rw [hy224]; with_reducible exact H) | (have H2_ := (Option.bind_some _ _).symm.trans H; rw [hy224]; with_reducible exact H2_) | (have H2_ := (Option.bind_some _ _).symm.trans H; with_reducible exact H2_) | with_reducible exact H | (rw [hy224]; exact H) | exact H
 have Ny224 := Aside0.mk hy224
 clear hy224
 replace H := Option.bind_eq_some_iff.mp H
 obtain ⟨⟨t227, t228⟩, A50, H⟩ := H
 replace H : (if t227 = 0 then ((spec_l20Rd_pick.f k s0_0 t228 3).bind fun bt229 => (if bt229.1 = 0 then (if 1 ≤ (y224.length : Int) then (some ((y224.take (1 : Int).toNat), bt229.2)) else (none)) else (if bt229.1 = 1 then (if y224.length < 17592186044416 then (some ((y224 ++ [0]), bt229.2)) else (none)) else ((spec_l20Rd_pick.f k s0_0 bt229.2 2).bind fun bt237 => ((some (([10, (-10)] : List Int) : List Int)).bind fun y239 => ((spec_l20Rd_pick.f k s0_0 bt237.2 2).bind fun bt242 => (if 0 ≤ bt242.1 then (if bt242.1 < (y239.length : Int) then (if 0 ≤ bt237.1 then (if bt237.1 < (y224.length : Int) then (some ((y224.set (bt237.1 : Int).toNat (rd y239 bt242.1)), bt242.2)) else (none)) else (none)) else (none)) else (none)))))))) else (some (y224, t228))) = some (r1, r2) := H
 have A5 := Aside0.mk A50
 clear A50
 by_cases c6 : t227 = 0
 ·rw [if_pos c6] at H
  have c6b0 : (t227 == 0) = true := beq_iff_eq.mpr c6
  have c6b1 : (t227 != 0) = false := bne_eq_false_iff_eq.mpr c6
  clear c6
  replace H := Option.bind_eq_some_iff.mp H
  obtain ⟨⟨t229, t230⟩, A70, H⟩ := H
  replace H : (if t229 = 0 then (if 1 ≤ (y224.length : Int) then (some ((y224.take (1 : Int).toNat), t230)) else (none)) else (if t229 = 1 then (if y224.length < 17592186044416 then (some ((y224 ++ [0]), t230)) else (none)) else ((spec_l20Rd_pick.f k s0_0 t230 2).bind fun bt237 => ((some (([10, (-10)] : List Int) : List Int)).bind fun y239 => ((spec_l20Rd_pick.f k s0_0 bt237.2 2).bind fun bt242 => (if 0 ≤ bt242.1 then (if bt242.1 < (y239.length : Int) then (if 0 ≤ bt237.1 then (if bt237.1 < (y224.length : Int) then (some ((y224.set (bt237.1 : Int).toNat (rd y239 bt242.1)), bt242.2)) else (none)) else (none)) else (none)) else (none))))))) = some (r1, r2) := H
  have A7 := Aside0.mk A70
  clear A70
  by_cases c8 : t229 = 0
  ·rw [if_pos c8] at H
   have c8b0 : (t229 == 0) = true := beq_iff_eq.mpr c8
   have c8b1 : (t229 != 0) = false := bne_eq_false_iff_eq.mpr c8
   clear c8
   by_cases c9 : 1 ≤ (y224.length : Int)
   ·rw [if_pos c9] at H
    have c9b0 := eq_true c9
    have c9b1 : decide (1 ≤ (y224.length : Int)) = true := decide_eq_true c9
    clear c9
    obtain ⟨y231, hy231⟩ : ∃ y_ : List Int, y_ = (y224.take (1 : Int).toNat) := ⟨_, rfl⟩
    replace H : (some (y231, t230)) = some (r1, r2) := by first | (rw [hy231]; with_reducible exact H) | (have H2_ := (Option.bind_some _ _).symm.trans H; rw [hy231]; with_reducible exact H2_) | (have H2_ := (Option.bind_some _ _).symm.trans H; with_reducible exact H2_) | with_reducible exact H | (rw [hy231]; exact H) | exact H
    have Ny231 := Aside0.mk hy231
    clear hy231
    simp only [Option.some.injEq, Prod.mk.injEq] at H
    obtain ⟨rfl, rfl⟩ := H
    go_enter Try.func24, Try.ntmps24
    go_wp2_with (first | ((with_reducible refine gate_callee (f := 22) rfl ?_); refine goesL_ (some 7) rfl rfl Try.func22 (by kernel_rfl) rfl #[.pointer (some ⟨g, 0, none⟩), .int .i64 19] rfl (by (try simp only [mA, mC, mN]); first | done | rfl | (simp only [ld, lt]; rfl)) ?_; (with_reducible refine (spec_l20Rd_pick.calls k g s0_0 s0_1 19 t220 t221 w0 _ ?side1 ?side2 A3.out).mono ?_); (case side1 => exact IsS59.j HI0.out); (case side2 => exact jB HB.out); rintro e w10 ⟨rfl, hi, hb, hk⟩; refine ⟨_, rfl, ?_⟩; replace HK := Aside0.mk (KeepBut.trans (by exact jK HK.out) hk (.inl rfl)); replace HB := Aside0.mk (hb); replace HI0 := Aside0.mk (hi); (try clear hb); (try clear hb2); (try clear hk); (try clear hi)) | ((with_reducible refine gate_callee (f := 22) rfl ?_); refine goesL_ (some 10) rfl rfl Try.func22 (by kernel_rfl) rfl #[.pointer (some ⟨g, 0, none⟩), .int .i64 19] rfl (by (try simp only [mA, mC, mN]); first | done | rfl | (simp only [ld, lt]; rfl)) ?_; (with_reducible refine (spec_l20Rd_pick.calls k g s0_0 t221 19 t222 t223 w0 _ ?side1 ?side2 A4.out).mono ?_); (case side1 => exact IsS59.j HI0.out); (case side2 => exact jB HB.out); rintro e w11 ⟨rfl, hi, hb, hk⟩; refine ⟨_, rfl, ?_⟩; replace HK := Aside0.mk (KeepBut.trans (by exact jK HK.out) hk (.inl rfl)); replace HB := Aside0.mk (hb); replace HI0 := Aside0.mk (hi); (try clear hb); (try clear hb2); (try clear hk); (try clear hi)) | ((with_reducible refine gate_dst (N := 12) rfl ?_); refine Kd.R_lit (Kd.int .i64) _ 3 ?hg (N := 12) ?hd (xs := ([wrap64 (t220 - 9), wrap64 (t222 - 9)] : List Int)) (inner := [.int .i64 (wrap64 (t220 - 9)), .int .i64 (wrap64 (t222 - 9))]) (ok := fun _ => True) (okp := fun _ => True) ?hr ?hp (fun _ hk => hk) trivial (Below.refl _ _) (Nat.le_refl _) (by simp) ?_; (case hd => rfl); (case hg => rfl); (case hr => first | (go_simp; done) | (go_simp; rfl)); (case hp => exact (Reps.one (show Kd.M (Kd.int .i64) _ _ _ (wrap64 (t220 - 9)) [.int .i64 (wrap64 (t220 - 9))] from rfl) (Reps.one (show Kd.M (Kd.int .i64) _ _ _ (wrap64 (t222 - 9)) [.int .i64 (wrap64 (t222 - 9))] from rfl) (Reps.none _ _)))); intro v225 w12 ho13 hb hg_ hnew_; clear hg_ hnew_; (first | rw [← Ny224.out] at ho13 | (simp only [Int.reduceToNat] at ho13; rw [← Ny224.out] at ho13)); have HO226 := Aside0.mk (Kd.R_lower ho13 (keep_size (w := w) (g := g) (row := none) (by exact jK HK.out))); replace HI0 := Aside0.mk (IsS59.below (by exact IsS59.j HI0.out) hb); replace HK := Aside0.mk (KeepBut.trans (by exact jK HK.out) (KeepBut.of_below hb g none) (.inl rfl)); replace HB := Aside0.mk (below_step (by exact jB HB.out) hb); clear hb ho13) | ((with_reducible refine gate_callee (f := 22) rfl ?_); refine goesL_ (some 15) rfl rfl Try.func22 (by kernel_rfl) rfl #[.pointer (some ⟨g, 0, none⟩), .int .i64 a1] rfl (by (try simp only [mA, mC, mN]); first | done | rfl | (simp only [ld, lt]; rfl)) ?_; (with_reducible refine (spec_l20Rd_pick.calls k g s0_0 t223 a1 t227 t228 w0 _ ?side1 ?side2 A5.out).mono ?_); (case side1 => exact IsS59.j HI0.out); (case side2 => exact jB HB.out); rintro e w14 ⟨rfl, hi, hb, hk⟩; refine ⟨_, rfl, ?_⟩; replace HO226 := Aside0.mk (IsS59.kp (f1 := t223) (by exact IsS59.j HI0.out) (by exact lR HO226.out) hk); replace HK := Aside0.mk (KeepBut.trans (by exact jK HK.out) hk (.inl rfl)); replace HB := Aside0.mk (hb); replace HI0 := Aside0.mk (hi); (try clear hb); (try clear hb2); (try clear hk); (try clear hi)) | ((with_reducible refine gate_callee (f := 22) rfl ?_); refine goesL_ (some 18) rfl rfl Try.func22 (by kernel_rfl) rfl #[.pointer (some ⟨g, 0, none⟩), .int .i64 3] rfl (by (try simp only [mA, mC, mN]); first | done | rfl | (simp only [ld, lt]; rfl)) ?_; (with_reducible refine (spec_l20Rd_pick.calls k g s0_0 t228 3 t229 t230 w0 _ ?side1 ?side2 A7.out).mono ?_); (case side1 => exact IsS59.j HI0.out); (case side2 => exact jB HB.out); rintro e w15 ⟨rfl, hi, hb, hk⟩; refine ⟨_, rfl, ?_⟩; replace HO226 := Aside0.mk (IsS59.kp (f1 := t228) (by exact IsS59.j HI0.out) (by exact lR HO226.out) hk); replace HK := Aside0.mk (KeepBut.trans (by exact jK HK.out) hk (.inl rfl)); replace HB := Aside0.mk (hb); replace HI0 := Aside0.mk (hi); (try clear hb); (try clear hb2); (try clear hk); (try clear hi); obtain ⟨Ao16, co16, eo16⟩ := Kd.R_slice HO226.out; subst eo16; have q17 : (1 : Int) ≤ ((y224.length : Int) : Int) := of_decide_eq_true (by first | (with_reducible assumption) | assumption); obtain ⟨i017, hi017, _, hsz17, _⟩ := info_parts info3; have hcut17 := cut_to (P := Try.prog) 23 3 .i64 Try.underlying23 hi017 Ao16 y224.length co16 1 (by omega) q17 (Kd.R_reads' HO226.out).2.1; have hr17 := Kd.R_take (m := (1 : Int).toNat) HO226.out (by omega); have hy17 : y231.length = (1 : Int).toNat := (by rw [Ny231.out, List.length_take]; omega); rw [← Ny231.out] at hr17; rw [← hy17] at hr17 hcut17; clear hy17 hi017 hsz17 HO226; have HO233 := Aside0.mk hr17; clear hr17; replace q17 := eq_true q17))
    go_ret
    exact ⟨_, by first | rfl | (simp [errW_none, errW_some] <;> rfl) | (simp [*, errW_none, errW_some] <;> rfl), by exact lR <| HO233.out, by exact IsS59.j HI0.out, by exact jB HB.out, by exact jK HK.out⟩
   ·rw [if_neg c9] at H
    exact absurd H (by simp)
  ·rw [if_neg c8] at H
   have c8b0 : (t229 == 0) = false := beq_eq_false_iff_ne.mpr c8
   have c8b1 : (t229 != 0) = true := bne_iff_ne.mpr c8
   by_cases c18 : t229 = 1
   ·rw [if_pos c18] at H
    have c18b0 : (t229 == 1) = true := beq_iff_eq.mpr c18
    have c18b1 : (t229 != 1) = false := bne_eq_false_iff_eq.mpr c18
    clear c18
    by_cases c19 : y224.length < 17592186044416
    ·rw [if_pos c19] at H
     have LMc19 := Aside0.mk c19
     clear c19
     obtain ⟨y234, hy234⟩ : ∃ y_ : List Int, y_ = (y224 ++ [0]) := ⟨_, rfl⟩
     replace H : (some (y234, t230)) = some (r1, r2) := by first | (rw [hy234]; with_reducible exact H) | (have H2_ := (Option.bind_some _ _).symm.trans H; rw [hy234]; with_reducible exact H2_) | (have H2_ := (Option.bind_some _ _).symm.trans H; with_reducible exact H2_) | with_reducible exact H | (rw [hy234]; exact H) | exact H
     have Ny234 := Aside0.mk hy234
     clear hy234
     simp only [Option.some.injEq, Prod.mk.injEq] at H
     obtain ⟨rfl, rfl⟩ := H
     go_enter Try.func24, Try.ntmps24
     go_wp2_with (first | ((with_reducible refine gate_callee (f := 22) rfl ?_); refine goesL_ (some 7) rfl rfl Try.func22 (by kernel_rfl) rfl #[.pointer (some ⟨g, 0, none⟩), .int .i64 19] rfl (by (try simp only [mA, mC, mN]); first | done | rfl | (simp only [ld, lt]; rfl)) ?_; (with_reducible refine (spec_l20Rd_pick.calls k g s0_0 s0_1 19 t220 t221 w0 _ ?side1 ?side2 A3.out).mono ?_); (case side1 => exact IsS59.j HI0.out); (case side2 => exact jB HB.out); rintro e w20 ⟨rfl, hi, hb, hk⟩; refine ⟨_, rfl, ?_⟩; replace HK := Aside0.mk (KeepBut.trans (by exact jK HK.out) hk (.inl rfl)); replace HB := Aside0.mk (hb); replace HI0 := Aside0.mk (hi); (try clear hb); (try clear hb2); (try clear hk); (try clear hi)) | ((with_reducible refine gate_callee (f := 22) rfl ?_); refine goesL_ (some 10) rfl rfl Try.func22 (by kernel_rfl) rfl #[.pointer (some ⟨g, 0, none⟩), .int .i64 19] rfl (by (try simp only [mA, mC, mN]); first | done | rfl | (simp only [ld, lt]; rfl)) ?_; (with_reducible refine (spec_l20Rd_pick.calls k g s0_0 t221 19 t222 t223 w0 _ ?side1 ?side2 A4.out).mono ?_); (case side1 => exact IsS59.j HI0.out); (case side2 => exact jB HB.out); rintro e w21 ⟨rfl, hi, hb, hk⟩; refine ⟨_, rfl, ?_⟩; replace HK := Aside0.mk (KeepBut.trans (by exact jK HK.out) hk (.inl rfl)); replace HB := Aside0.mk (hb); replace HI0 := Aside0.mk (hi); (try clear hb); (try clear hb2); (try clear hk); (try clear hi)) | ((with_reducible refine gate_dst (N := 12) rfl ?_); refine Kd.R_lit (Kd.int .i64) _ 3 ?hg (N := 12) ?hd (xs := ([wrap64 (t220 - 9), wrap64 (t222 - 9)] : List Int)) (inner := [.int .i64 (wrap64 (t220 - 9)), .int .i64 (wrap64 (t222 - 9))]) (ok := fun _ => True) (okp := fun _ => True) ?hr ?hp (fun _ hk => hk) trivial (Below.refl _ _) (Nat.le_refl _) (by simp) ?_; (case hd => rfl); (case hg => rfl); (case hr => first | (go_simp; done) | (go_simp; rfl)); (case hp => exact (Reps.one (show Kd.M (Kd.int .i64) _ _ _ (wrap64 (t220 - 9)) [.int .i64 (wrap64 (t220 - 9))] from rfl) (Reps.one (show Kd.M (Kd.int .i64) _ _ _ (wrap64 (t222 - 9)) [.int .i64 (wrap64 (t222 - 9))] from rfl) (Reps.none _ _)))); intro v225 w22 ho23 hb hg_ hnew_; clear hg_ hnew_; (first | rw [← Ny224.out] at ho23 | (simp only [Int.reduceToNat] at ho23; rw [← Ny224.out] at ho23)); have HO226 := Aside0.mk (Kd.R_lower ho23 (keep_size (w := w) (g := g) (row := none) (by exact jK HK.out))); replace HI0 := Aside0.mk (IsS59.below (by exact IsS59.j HI0.out) hb); replace HK := Aside0.mk (KeepBut.trans (by exact jK HK.out) (KeepBut.of_below hb g none) (.inl rfl)); replace HB := Aside0.mk (below_step (by exact jB HB.out) hb); clear hb ho23) | ((with_reducible refine gate_callee (f := 22) rfl ?_); refine goesL_ (some 15) rfl rfl Try.func22 (by kernel_rfl) rfl #[.pointer (some ⟨g, 0, none⟩), .int .i64 a1] rfl (by (try simp only [mA, mC, mN]); first | done | rfl | (simp only [ld, lt]; rfl)) ?_; (with_reducible refine (spec_l20Rd_pick.calls k g s0_0 t223 a1 t227 t228 w0 _ ?side1 ?side2 A5.out).mono ?_); (case side1 => exact IsS59.j HI0.out); (case side2 => exact jB HB.out); rintro e w24 ⟨rfl, hi, hb, hk⟩; refine ⟨_, rfl, ?_⟩; replace HO226 := Aside0.mk (IsS59.kp (f1 := t223) (by exact IsS59.j HI0.out) (by exact lR HO226.out) hk); replace HK := Aside0.mk (KeepBut.trans (by exact jK HK.out) hk (.inl rfl)); replace HB := Aside0.mk (hb); replace HI0 := Aside0.mk (hi); (try clear hb); (try clear hb2); (try clear hk); (try clear hi)) | ((with_reducible refine gate_callee (f := 22) rfl ?_); refine goesL_ (some 18) rfl rfl Try.func22 (by kernel_rfl) rfl #[.pointer (some ⟨g, 0, none⟩), .int .i64 3] rfl (by (try simp only [mA, mC, mN]); first | done | rfl | (simp only [ld, lt]; rfl)) ?_; (with_reducible refine (spec_l20Rd_pick.calls k g s0_0 t228 3 t229 t230 w0 _ ?side1 ?side2 A7.out).mono ?_); (case side1 => exact IsS59.j HI0.out); (case side2 => exact jB HB.out); rintro e w25 ⟨rfl, hi, hb, hk⟩; refine ⟨_, rfl, ?_⟩; replace HO226 := Aside0.mk (IsS59.kp (f1 := t228) (by exact IsS59.j HI0.out) (by exact lR HO226.out) hk); replace HK := Aside0.mk (KeepBut.trans (by exact jK HK.out) hk (.inl rfl)); replace HB := Aside0.mk (hb); replace HI0 := Aside0.mk (hi); (try clear hb); (try clear hb2); (try clear hk); (try clear hi)) | ((with_reducible refine gate_builtin (b := .append) (xs := #[.tmp 34, .tmp 35]) rfl ?_); at_builtin; refine Kd.R_append (Kd.int .i64) w.heap.size rfl (.tmp 34) (.tmp 35) 23 3 (.int .i64 0) 8 rfl Try.underlying23 info3 rfl (by decide) (by omega) v225 y224 0 [.int .i64 0] (fun _ => True) (fun _ => False) rfl rfl ?aP (fun _ hk => hk.elim) ?aF ?aO (Below.refl _ _) ?aS ?aL ?_; (case aP => exact rfl); (case aF => exact (fun _ _ => trivial)); (case aO => exact (by exact lR HO226.out)); (case aS => exact (keep_size (w := w) (g := g) (row := none) (by exact jK HK.out))); (case aL => have := LMc19.out; omega); intro v235 w26 ho hb hg hat; rw [← Ny234.out] at ho; replace HI0 := Aside0.mk (IsS59.grown (by exact IsS59.j HI0.out) hg (IsS59.own_ne HI0.out HO226.out (by decide))); replace HB := Aside0.mk (below_weaken (by exact jB HB.out) HL.out hb); replace HK := Aside0.mk (KeepBut.trans (by exact jK HK.out) (KeepBut.of_grown hg g) (Kd.R_base2 HO226.out)); have HO236 := Aside0.mk (ho); clear HO226 ho hb hg hat))
     go_ret
     exact ⟨_, by first | rfl | (simp [errW_none, errW_some] <;> rfl) | (simp [*, errW_none, errW_some] <;> rfl), by exact lR <| HO236.out, by exact IsS59.j HI0.out, by exact jB HB.out, by exact jK HK.out⟩
    ·rw [if_neg c19] at H
     exact absurd H (by simp)
   ·rw [if_neg c18] at H
    have c18b0 : (t229 == 1) = false := beq_eq_false_iff_ne.mpr c18
    have c18b1 : (t229 != 1) = true := bne_iff_ne.mpr c18
    replace H := Option.bind_eq_some_iff.mp H
    obtain ⟨⟨t237, t238⟩, A270, H⟩ := H
    replace H : ((some (([10, (-10)] : List Int) : List Int)).bind fun y239 => ((spec_l20Rd_pick.f k s0_0 t238 2).bind fun bt242 => (if 0 ≤ bt242.1 then (if bt242.1 < (y239.length : Int) then (if 0 ≤ t237 then (if t237 < (y224.length : Int) then (some ((y224.set (t237 : Int).toNat (rd y239 bt242.1)), bt242.2)) else (none)) else (none)) else (none)) else (none)))) = some (r1, r2) := H
    have A27 := Aside0.mk A270
    clear A270
    obtain ⟨y239, hy239⟩ : ∃ y_ : List Int, y_ = (([10, (-10)] : List Int)) := ⟨_, rfl⟩
    replace H : ((spec_l20Rd_pick.f k s0_0 t238 2).bind fun bt242 => (if 0 ≤ bt242.1 then (if bt242.1 < (y239.length : Int) then (if 0 ≤ t237 then (if t237 < (y224.length : Int) then (some ((y224.set (t237 : Int).toNat (rd y239 bt242.1)), bt242.2)) else (none)) else (none)) else (none)) else (none))) = some (r1, r2) := by first | (rw [hy239]; with_reducible exact H) | (have H2_ := (Option.bind_some _ _).symm.trans H; rw [hy239]; with_reducible exact H2_) | (have H2_ := (Option.bind_some _ _).symm.trans H; with_reducible exact H2_) | with_reducible exact H | (rw [hy239]; exact H) | exact H
    have Ny239 := Aside0.mk hy239
    clear hy239
    replace H := Option.bind_eq_some_iff.mp H
    obtain ⟨⟨t242, t243⟩, A280, H⟩ := H
    replace H : (if 0 ≤ t242 then (if t242 < (y239.length : Int) then (if 0 ≤ t237 then (if t237 < (y224.length : Int) then (some ((y224.set (t237 : Int).toNat (rd y239 t242)), t243)) else (none)) else (none)) else (none)) else (none)) = some (r1, r2) := H
    have A28 := Aside0.mk A280
    clear A280
    by_cases c29 : 0 ≤ t242
    ·rw [if_pos c29] at H
     have c29b0 : decide (0 ≤ t242) = true := decide_eq_true c29
     clear c29
     by_cases c30 : t242 < (y239.length : Int)
     ·rw [if_pos c30] at H
      have c30b0 : decide (t242 < (y239.length : Int)) = true := decide_eq_true c30
      clear c30
      by_cases c31 : 0 ≤ t237
      ·rw [if_pos c31] at H
       have c31b0 : decide (0 ≤ t237) = true := decide_eq_true c31
       clear c31
       by_cases c32 : t237 < (y224.length : Int)
       ·rw [if_pos c32] at H
        have c32b0 : decide (t237 < (y224.length : Int)) = true := decide_eq_true c32
        clear c32
        obtain ⟨y245, hy245⟩ : ∃ y_ : List Int, y_ = (y224.set (t237 : Int).toNat (rd y239 t242)) := ⟨_, rfl⟩
        replace H : (some (y245, t243)) = some (r1, r2) := by first | (rw [hy245]; with_reducible exact H) | (have H2_ := (Option.bind_some _ _).symm.trans H; rw [hy245]; with_reducible exact H2_) | (have H2_ := (Option.bind_some _ _).symm.trans H; with_reducible exact H2_) | with_reducible exact H | (rw [hy245]; exact H) | exact H
        have Ny245 := Aside0.mk hy245
        clear hy245
        simp only [Option.some.injEq, Prod.mk.injEq] at H
        obtain ⟨rfl, rfl⟩ := H
        go_enter Try.func24, Try.ntmps24
        go_wp2_with (first | ((with_reducible refine gate_callee (f := 22) rfl ?_); refine goesL_ (some 7) rfl rfl Try.func22 (by kernel_rfl) rfl #[.pointer (some ⟨g, 0, none⟩), .int .i64 19] rfl (by (try simp only [mA, mC, mN]); first | done | rfl | (simp only [ld, lt]; rfl)) ?_; (with_reducible refine (spec_l20Rd_pick.calls k g s0_0 s0_1 19 t220 t221 w0 _ ?side1 ?side2 A3.out).mono ?_); (case side1 => exact IsS59.j HI0.out); (case side2 => exact jB HB.out); rintro e w34 ⟨rfl, hi, hb, hk⟩; refine ⟨_, rfl, ?_⟩; replace HK := Aside0.mk (KeepBut.trans (by exact jK HK.out) hk (.inl rfl)); replace HB := Aside0.mk (hb); replace HI0 := Aside0.mk (hi); (try clear hb); (try clear hb2); (try clear hk); (try clear hi)) | ((with_reducible refine gate_callee (f := 22) rfl ?_); refine goesL_ (some 10) rfl rfl Try.func22 (by kernel_rfl) rfl #[.pointer (some ⟨g, 0, none⟩), .int .i64 19] rfl (by (try simp only [mA, mC, mN]); first | done | rfl | (simp only [ld, lt]; rfl)) ?_; (with_reducible refine (spec_l20Rd_pick.calls k g s0_0 t221 19 t222 t223 w0 _ ?side1 ?side2 A4.out).mono ?_); (case side1 => exact IsS59.j HI0.out); (case side2 => exact jB HB.out); rintro e w35 ⟨rfl, hi, hb, hk⟩; refine ⟨_, rfl, ?_⟩; replace HK := Aside0.mk (KeepBut.trans (by exact jK HK.out) hk (.inl rfl)); replace HB := Aside0.mk (hb); replace HI0 := Aside0.mk (hi); (try clear hb); (try clear hb2); (try clear hk); (try clear hi)) | ((with_reducible refine gate_dst (N := 12) rfl ?_); refine Kd.R_lit (Kd.int .i64) _ 3 ?hg (N := 12) ?hd (xs := ([wrap64 (t220 - 9), wrap64 (t222 - 9)] : List Int)) (inner := [.int .i64 (wrap64 (t220 - 9)), .int .i64 (wrap64 (t222 - 9))]) (ok := fun _ => True) (okp := fun _ => True) ?hr ?hp (fun _ hk => hk) trivial (Below.refl _ _) (Nat.le_refl _) (by simp) ?_; (case hd => rfl); (case hg => rfl); (case hr => first | (go_simp; done) | (go_simp; rfl)); (case hp => exact (Reps.one (show Kd.M (Kd.int .i64) _ _ _ (wrap64 (t220 - 9)) [.int .i64 (wrap64 (t220 - 9))] from rfl) (Reps.one (show Kd.M (Kd.int .i64) _ _ _ (wrap64 (t222 - 9)) [.int .i64 (wrap64 (t222 - 9))] from rfl) (Reps.none _ _)))); intro v225 w36 ho37 hb hg_ hnew_; clear hg_ hnew_; (first | rw [← Ny224.out] at ho37 | (simp only [Int.reduceToNat] at ho37; rw [← Ny224.out] at ho37)); have HO226 := Aside0.mk (Kd.R_lower ho37 (keep_size (w := w) (g := g) (row := none) (by exact jK HK.out))); replace HI0 := Aside0.mk (IsS59.below (by exact IsS59.j HI0.out) hb); replace HK := Aside0.mk (KeepBut.trans (by exact jK HK.out) (KeepBut.of_below hb g none) (.inl rfl)); replace HB := Aside0.mk (below_step (by exact jB HB.out) hb); clear hb ho37) | ((with_reducible refine gate_callee (f := 22) rfl ?_); refine goesL_ (some 15) rfl rfl Try.func22 (by kernel_rfl) rfl #[.pointer (some ⟨g, 0, none⟩), .int .i64 a1] rfl (by (try simp only [mA, mC, mN]); first | done | rfl | (simp only [ld, lt]; rfl)) ?_; (with_reducible refine (spec_l20Rd_pick.calls k g s0_0 t223 a1 t227 t228 w0 _ ?side1 ?side2 A5.out).mono ?_); (case side1 => exact IsS59.j HI0.out); (case side2 => exact jB HB.out); rintro e w38 ⟨rfl, hi, hb, hk⟩; refine ⟨_, rfl, ?_⟩; replace HO226 := Aside0.mk (IsS59.kp (f1 := t223) (by exact IsS59.j HI0.out) (by exact lR HO226.out) hk); replace HK := Aside0.mk (KeepBut.trans (by exact jK HK.out) hk (.inl rfl)); replace HB := Aside0.mk (hb); replace HI0 := Aside0.mk (hi); (try clear hb); (try clear hb2); (try clear hk); (try clear hi)) | ((with_reducible refine gate_callee (f := 22) rfl ?_); refine goesL_ (some 18) rfl rfl Try.func22 (by kernel_rfl) rfl #[.pointer (some ⟨g, 0, none⟩), .int .i64 3] rfl (by (try simp only [mA, mC, mN]); first | done | rfl | (simp only [ld, lt]; rfl)) ?_; (with_reducible refine (spec_l20Rd_pick.calls k g s0_0 t228 3 t229 t230 w0 _ ?side1 ?side2 A7.out).mono ?_); (case side1 => exact IsS59.j HI0.out); (case side2 => exact jB HB.out); rintro e w39 ⟨rfl, hi, hb, hk⟩; refine ⟨_, rfl, ?_⟩; replace HO226 := Aside0.mk (IsS59.kp (f1 := t228) (by exact IsS59.j HI0.out) (by exact lR HO226.out) hk); replace HK := Aside0.mk (KeepBut.trans (by exact jK HK.out) hk (.inl rfl)); replace HB := Aside0.mk (hb); replace HI0 := Aside0.mk (hi); (try clear hb); (try clear hb2); (try clear hk); (try clear hi)) | ((with_reducible refine gate_callee (f := 22) rfl ?_); refine goesL_ (some 21) rfl rfl Try.func22 (by kernel_rfl) rfl #[.pointer (some ⟨g, 0, none⟩), .int .i64 2] rfl (by (try simp only [mA, mC, mN]); first | done | rfl | (simp only [ld, lt]; rfl)) ?_; (with_reducible refine (spec_l20Rd_pick.calls k g s0_0 t230 2 t237 t238 w0 _ ?side1 ?side2 A27.out).mono ?_); (case side1 => exact IsS59.j HI0.out); (case side2 => exact jB HB.out); rintro e w40 ⟨rfl, hi, hb, hk⟩; refine ⟨_, rfl, ?_⟩; replace HO226 := Aside0.mk (IsS59.kp (f1 := t230) (by exact IsS59.j HI0.out) (by exact lR HO226.out) hk); replace HK := Aside0.mk (KeepBut.trans (by exact jK HK.out) hk (.inl rfl)); replace HB := Aside0.mk (hb); replace HI0 := Aside0.mk (hi); (try clear hb); (try clear hb2); (try clear hk); (try clear hi)) | ((with_reducible refine gate_dst (N := 22) rfl ?_); refine Kd.R_lit (Kd.int .i64) _ 3 ?hg (N := 22) ?hd (xs := ([10, (-10)] : List Int)) (inner := [.int .i64 10, .int .i64 (-10)]) (ok := fun _ => True) (okp := fun _ => True) ?hr ?hp (fun _ hk => hk) trivial (Below.refl _ _) (Nat.le_refl _) (by simp) ?_; (case hd => rfl); (case hg => rfl); (case hr => first | (go_simp; done) | (go_simp; rfl)); (case hp => exact (Reps.one (show Kd.M (Kd.int .i64) _ _ _ 10 [.int .i64 10] from rfl) (Reps.one (show Kd.M (Kd.int .i64) _ _ _ (-10) [.int .i64 (-10)] from rfl) (Reps.none _ _)))); intro v240 w41 ho42 hb hg_ hnew_; clear hg_ hnew_; (first | rw [← Ny239.out] at ho42 | (simp only [Int.reduceToNat] at ho42; rw [← Ny239.out] at ho42)); have HO241 := Aside0.mk (Kd.R_lower (Kd.R_new' ho42 (rl HO226.out)) (keep_size (w := w) (g := g) (row := none) (by exact jK HK.out))); replace HO226 := Aside0.mk (Kd.R_elder' (by exact lR HO226.out) (Kd.R_base ho42) hb); replace HI0 := Aside0.mk (IsS59.below (by exact IsS59.j HI0.out) hb); replace HK := Aside0.mk (KeepBut.trans (by exact jK HK.out) (KeepBut.of_below hb g none) (.inl rfl)); replace HB := Aside0.mk (below_step (by exact jB HB.out) hb); clear hb ho42) | ((with_reducible refine gate_callee (f := 22) rfl ?_); refine goesL_ (some 24) rfl rfl Try.func22 (by kernel_rfl) rfl #[.pointer (some ⟨g, 0, none⟩), .int .i64 2] rfl (by (try simp only [mA, mC, mN]); first | done | rfl | (simp only [ld, lt]; rfl)) ?_; (with_reducible refine (spec_l20Rd_pick.calls k g s0_0 t238 2 t242 t243 w0 _ ?side1 ?side2 A28.out).mono ?_); (case side1 => exact IsS59.j HI0.out); (case side2 => exact jB HB.out); rintro e w43 ⟨rfl, hi, hb, hk⟩; refine ⟨_, rfl, ?_⟩; replace HO226 := Aside0.mk (IsS59.kp (f1 := t238) (by exact IsS59.j HI0.out) (by exact lR HO226.out) hk); replace HO241 := Aside0.mk (IsS59.kp (f1 := t238) (by exact IsS59.j HI0.out) (by exact lR HO241.out) hk); replace HK := Aside0.mk (KeepBut.trans (by exact jK HK.out) hk (.inl rfl)); replace HB := Aside0.mk (hb); replace HI0 := Aside0.mk (hi); (try clear hb); (try clear hb2); (try clear hk); (try clear hi); obtain ⟨Ao44, co44, eo44⟩ := Kd.R_slice HO241.out; subst eo44; have p244 : 0 ≤ (t242 : Int) := of_decide_eq_true (by first | (with_reducible assumption) | assumption); have q244 : t242 < (y239.length : Int) := of_decide_eq_true (by first | (with_reducible assumption) | assumption); obtain ⟨ad244, e244, hx244_0⟩ := Kd.at_int (Kd.R_reads' HO241.out).2.2 t242 p244 q244; cases e244; replace p244 := eq_true p244; replace q244 := eq_true q244; have p33 : 0 ≤ (t237 : Int) := of_decide_eq_true (by first | (with_reducible assumption) | assumption); have q33 : (t237 : Int) < ((y224.length : Int) : Int) := of_decide_eq_true (by first | (with_reducible assumption) | assumption); obtain ⟨go33, co33, eo33, gb33, gl33, cl33, HG33⟩ := Kd.R_form HO226.out (by omega); (first | cases eo33 | (injection eo33 with ea_ en_ ec_; (first | subst ea_ | (injection ea_ with ea_; subst ea_)); subst ec_; clear en_)); have GB33 := Aside0.mk gb33; have IGB33 : Nonempty _ := ⟨GB33.out⟩; have GG33 := Aside0.mk HG33; clear gb33 gl33 HG33; obtain ⟨hx33_0, hf33_0⟩ := Kd.R_celln 0 HO226.out (t237 : Int) p33 q33; replace p33 := eq_true p33; replace q33 := eq_true q33; have n_ := Aside0.mk (Kd.R_mono (ok' := (fun k_ => some k_ ≠ (.slice (some ad244) y239.length co44 : Value).ownBlock)) HO226.out (fun k_ hk => hk.2)); clear HO226; have HO226 := n_; clear n_; obtain ⟨hy45_, hz45_⟩ := Kd.R_celln 0 HO226.out (t237 : Int) (of_decide_eq_true (by first | (with_reducible assumption) | assumption)) (of_decide_eq_true (by first | (with_reducible assumption) | assumption)); have HP45 := Kd.R_putg HO226.out (t237 : Int) (rd y239 t242)) | ((with_reducible refine gate_store (t := 3) (p := 27) rfl ?_); refine store_event (t := 3) (p := 27) (v := ?vo_w46) (w1 := (w43.setCell ⟨go33, (t237 : Int).toNat, none⟩ (.int .i64 (rd y239 t242)))) ?hg ?ho ?hn ?hr ?_; (case ho => rfl); (case hg => rfl); (case hn => rfl); (case hr => first | (go_simp; done) | (go_simp; rfl)); intro w46 hw; have hg : w43.grownBy w46 (some go33) := (by rw [hw]; exact HP45.2); have hp_ : Kd.R (Kd.int .i64) 3 w46 w.heap.size (fun k_ => some k_ ≠ (.slice (some ad244) y239.length co44 : Value).ownBlock) (.slice (some ⟨go33, 0, none⟩) y224.length co33) y245 := (by rw [hw, Ny245.out]; exact HP45.1); clear HP45; replace HI0 := Aside0.mk (IsS59.grown (by exact IsS59.j HI0.out) hg (IsS59.own_ne HI0.out HO226.out (by decide))); replace HO241 := Aside0.mk (Kd.R_after (v := (.slice (some ⟨go33, 0, none⟩) y224.length co33)) (v1 := (.slice (some ⟨go33, 0, none⟩) y224.length co33)) (ok := (fun _ => True)) (by exact lR HO241.out) hg (.inl rfl)); replace HB := Aside0.mk ((by rw [hw]; exact below_set (HB.out) (Nat.le_trans HL.out GB33.out) : Below w0.heap.size w0 w46)); replace HK := Aside0.mk (KeepBut.trans (by exact jK HK.out) (KeepBut.of_grown hg g) (Kd.R_base2 HO226.out)); replace HO226 := Aside0.mk (hp_); clear hg hw hp_))
        go_ret
        exact ⟨_, by first | rfl | (simp [errW_none, errW_some] <;> rfl) | (simp [*, errW_none, errW_some] <;> rfl), by exact lR <| Kd.R_mono HO226.out (fun _ hk => trivial), by exact IsS59.j HI0.out, by exact jB HB.out, by exact jK HK.out⟩
       ·rw [if_neg c32] at H
        exact absurd H (by simp)
      ·rw [if_neg c31] at H
       exact absurd H (by simp)
     ·rw [if_neg c30] at H
      exact absurd H (by simp)
    ·rw [if_neg c29] at H
     exact absurd H (by simp)
 ·rw [if_neg c6] at H
  have c6b0 : (t227 == 0) = false := beq_eq_false_iff_ne.mpr c6
  have c6b1 : (t227 != 0) = true := bne_iff_ne.mpr c6
  simp only [Option.some.injEq, Prod.mk.injEq] at H
  obtain ⟨rfl, rfl⟩ := H
  go_enter Try.func24, Try.ntmps24
  go_wp2_with (first | ((with_reducible refine gate_callee (f := 22) rfl ?_); refine goesL_ (some 7) rfl rfl Try.func22 (by kernel_rfl) rfl #[.pointer (some ⟨g, 0, none⟩), .int .i64 19] rfl (by (try simp only [mA, mC, mN]); first | done | rfl | (simp only [ld, lt]; rfl)) ?_; (with_reducible refine (spec_l20Rd_pick.calls k g s0_0 s0_1 19 t220 t221 w0 _ ?side1 ?side2 A3.out).mono ?_); (case side1 => exact IsS59.j HI0.out); (case side2 => exact jB HB.out); rintro e w47 ⟨rfl, hi, hb, hk⟩; refine ⟨_, rfl, ?_⟩; replace HK := Aside0.mk (KeepBut.trans (by exact jK HK.out) hk (.inl rfl)); replace HB := Aside0.mk (hb); replace HI0 := Aside0.mk (hi); (try clear hb); (try clear hb2); (try clear hk); (try clear hi)) | ((with_reducible refine gate_callee (f := 22) rfl ?_); refine goesL_ (some 10) rfl rfl Try.func22 (by kernel_rfl) rfl #[.pointer (some ⟨g, 0, none⟩), .int .i64 19] rfl (by (try simp only [mA, mC, mN]); first | done | rfl | (simp only [ld, lt]; rfl)) ?_; (with_reducible refine (spec_l20Rd_pick.calls k g s0_0 t221 19 t222 t223 w0 _ ?side1 ?side2 A4.out).mono ?_); (case side1 => exact IsS59.j HI0.out); (case side2 => exact jB HB.out); rintro e w48 ⟨rfl, hi, hb, hk⟩; refine ⟨_, rfl, ?_⟩; replace HK := Aside0.mk (KeepBut.trans (by exact jK HK.out) hk (.inl rfl)); replace HB := Aside0.mk (hb); replace HI0 := Aside0.mk (hi); (try clear hb); (try clear hb2); (try clear hk); (try clear hi)) | ((with_reducible refine gate_dst (N := 12) rfl ?_); refine Kd.R_lit (Kd.int .i64) _ 3 ?hg (N := 12) ?hd (xs := ([wrap64 (t220 - 9), wrap64 (t222 - 9)] : List Int)) (inner := [.int .i64 (wrap64 (t220 - 9)), .int .i64 (wrap64 (t222 - 9))]) (ok := fun _ => True) (okp := fun _ => True) ?hr ?hp (fun _ hk => hk) trivial (Below.refl _ _) (Nat.le_refl _) (by simp) ?_; (case hd => rfl); (case hg => rfl); (case hr => first | (go_simp; done) | (go_simp; rfl)); (case hp => exact (Reps.one (show Kd.M (Kd.int .i64) _ _ _ (wrap64 (t220 - 9)) [.int .i64 (wrap64 (t220 - 9))] from rfl) (Reps.one (show Kd.M (Kd.int .i64) _ _ _ (wrap64 (t222 - 9)) [.int .i64 (wrap64 (t222 - 9))] from rfl) (Reps.none _ _)))); intro v225 w49 ho50 hb hg_ hnew_; clear hg_ hnew_; (first | rw [← Ny224.out] at ho50 | (simp only [Int.reduceToNat] at ho50; rw [← Ny224.out] at ho50)); have HO226 := Aside0.mk (Kd.R_lower ho50 (keep_size (w := w) (g := g) (row := none) (by exact jK HK.out))); replace HI0 := Aside0.mk (IsS59.below (by exact IsS59.j HI0.out) hb); replace HK := Aside0.mk (KeepBut.trans (by exact jK HK.out) (KeepBut.of_below hb g none) (.inl rfl)); replace HB := Aside0.mk (below_step (by exact jB HB.out) hb); clear hb ho50) | ((with_reducible refine gate_callee (f := 22) rfl ?_); refine goesL_ (some 15) rfl rfl Try.func22 (by kernel_rfl) rfl #[.pointer (some ⟨g, 0, none⟩), .int .i64 a1] rfl (by (try simp only [mA, mC, mN]); first | done | rfl | (simp only [ld, lt]; rfl)) ?_; (with_reducible refine (spec_l20Rd_pick.calls k g s0_0 t223 a1 t227 t228 w0 _ ?side1 ?side2 A5.out).mono ?_); (case side1 => exact IsS59.j HI0.out); (case side2 => exact jB HB.out); rintro e w51 ⟨rfl, hi, hb, hk⟩; refine ⟨_, rfl, ?_⟩; replace HO226 := Aside0.mk (IsS59.kp (f1 := t223) (by exact IsS59.j HI0.out) (by exact lR HO226.out) hk); replace HK := Aside0.mk (KeepBut.trans (by exact jK HK.out) hk (.inl rfl)); replace HB := Aside0.mk (hb); replace HI0 := Aside0.mk (hi); (try clear hb); (try clear hb2); (try clear hk); (try clear hi)))
  go_ret
  exact ⟨_, by first | rfl | (simp [errW_none, errW_some] <;> rfl) | (simp [*, errW_none, errW_some] <;> rfl), by exact lR <| HO226.out, by exact IsS59.j HI0.out, by exact jB HB.out, by exact jK HK.out⟩

/-! ### spec_DrawFrmAt: function 6 -/
def spec_DrawFrmAt.f (k : Nat) (l0 : List Int) : Option (List Int × List Int × Int × List Int × List Int) := (spec_l20Open.f l0).bind fun bt247 => ((spec_l20Form.f k bt247.1 bt247.2 12).bind fun bt250 => ((spec_l20Vals.f k bt247.1 bt250.2.2.2 12).bind fun bt258 => ((spec_l20Args.f k bt247.1 bt258.2 12).bind fun bt262 => (some (bt250.1, bt250.2.1, bt250.2.2.1, bt258.1, bt262.1)))))
theorem spec_DrawFrmAt.mono : ∀ a0 k, LeO (spec_DrawFrmAt.f k a0) (spec_DrawFrmAt.f (k + 1) a0) := by
 intro a0 k
 unfold spec_DrawFrmAt.f
 repeat' first
   | (with_reducible exact spec_l20Args.mono _ _ _ _)
   | (with_reducible exact spec_l20Form.mono _ _ _ _)
   | (with_reducible exact spec_l20Vals.mono _ _ _ _)
   | (with_reducible exact LeO.refl _)
   | (with_reducible exact LeO.none _)
   | (with_reducible refine LeO.ite ?_ ?_)
   | (with_reducible refine LeO.bind ?_ (fun _ => ?_))
   | exact spec_l20Args.mono _ _ _ _
   | exact spec_l20Form.mono _ _ _ _
   | exact spec_l20Vals.mono _ _ _ _
   | exact LeO.none _
   | refine LeO.ite ?_ ?_
   | refine LeO.bind ?_ (fun _ => ?_)
set_option maxHeartbeats 8000000 in
set_option maxRecDepth 100000 in
theorem spec_DrawFrmAt.calls (k : Nat) (A0 : Option Addr) (c0 : Nat) (l0 : List Int) (r1 : List Int) (r2 : List Int) (r3 : Int) (r4 : List Int) (r5 : List Int) (w : World) (hr0 : Kd.C (Kd.int .u8) w A0 l0.length l0) (hc0 : l0.length ≤ c0) (h : spec_DrawFrmAt.f k l0 = some (r1, r2, r3, r4, r5)) :
  Calls Try.prog 6 #[.slice A0 l0.length c0] w fun e w' => ∃ v0_ v1_ v3_ v4_ : Value, e = .returned (.tuple #[.agg #[v0_, v1_, .int .i64 r3], v3_, v4_]) ∧ Kd.R (Kd.int .i64) 3 w' w.heap.size (fun k_ => some k_ ≠ (v1_ : Value).ownBlock ∧ some k_ ≠ (v3_ : Value).ownBlock ∧ some k_ ≠ (v4_ : Value).ownBlock) v0_ r1 ∧ Kd.R (Kd.int .i64) 3 w' w.heap.size (fun k_ => some k_ ≠ (v0_ : Value).ownBlock ∧ some k_ ≠ (v3_ : Value).ownBlock ∧ some k_ ≠ (v4_ : Value).ownBlock) v1_ r2 ∧ Kd.R (Kd.int .i64) 3 w' w.heap.size (fun k_ => some k_ ≠ (v0_ : Value).ownBlock ∧ some k_ ≠ (v1_ : Value).ownBlock ∧ some k_ ≠ (v4_ : Value).ownBlock) v3_ r4 ∧ Kd.R (Kd.int .i64) 3 w' w.heap.size (fun k_ => some k_ ≠ (v0_ : Value).ownBlock ∧ some k_ ≠ (v1_ : Value).ownBlock ∧ some k_ ≠ (v3_ : Value).ownBlock) v4_ r5 ∧ Below w.heap.size w w' := by
 have hu25 := Try.underlying25
 have HR0 := Aside0.mk hr0
 have HC0 := Aside0.mk hc0
 clear hr0 hc0
 have HB := Aside0.mk (Below.refl w.heap.size w)
 have H : ((spec_l20Open.f l0).bind fun bt247 => ((spec_l20Form.f k bt247.1 bt247.2 12).bind fun bt250 => ((spec_l20Vals.f k bt247.1 bt250.2.2.2 12).bind fun bt258 => ((spec_l20Args.f k bt247.1 bt258.2 12).bind fun bt262 => (some (bt250.1, bt250.2.1, bt250.2.2.1, bt258.1, bt262.1)))))) = some (r1, r2, r3, r4, r5) := h
 clear h
 replace H := Option.bind_eq_some_iff.mp H
 obtain ⟨⟨t247, t248⟩, A20, H⟩ := H
 replace H : ((spec_l20Form.f k t247 t248 12).bind fun bt250 => ((spec_l20Vals.f k t247 bt250.2.2.2 12).bind fun bt258 => ((spec_l20Args.f k t247 bt258.2 12).bind fun bt262 => (some (bt250.1, bt250.2.1, bt250.2.2.1, bt258.1, bt262.1))))) = some (r1, r2, r3, r4, r5) := H
 have A2 := Aside0.mk A20
 clear A20
 replace H := Option.bind_eq_some_iff.mp H
 obtain ⟨⟨t250, t253, t256, t257⟩, A30, H⟩ := H
 replace H : ((spec_l20Vals.f k t247 t257 12).bind fun bt258 => ((spec_l20Args.f k t247 bt258.2 12).bind fun bt262 => (some (t250, t253, t256, bt258.1, bt262.1)))) = some (r1, r2, r3, r4, r5) := H
 have A3 := Aside0.mk A30
 clear A30
 replace H := Option.bind_eq_some_iff.mp H
 obtain ⟨⟨t258, t261⟩, A40, H⟩ := H
 replace H : ((spec_l20Args.f k t247 t261 12).bind fun bt262 => (some (t250, t253, t256, t258, bt262.1))) = some (r1, r2, r3, r4, r5) := H
 have A4 := Aside0.mk A40
 clear A40
 replace H := Option.bind_eq_some_iff.mp H
 obtain ⟨⟨t262, t265⟩, A50, H⟩ := H
 replace H : (some (t250, t253, t256, t258, t262)) = some (r1, r2, r3, r4, r5) := H
 have A5 := Aside0.mk A50
 clear A50
 simp only [Option.some.injEq, Prod.mk.injEq] at H
 obtain ⟨rfl, rfl, rfl, rfl, rfl⟩ := H
 go_enter Try.func6, Try.ntmps6
 go_wp2_with (first | ((with_reducible refine gate_dst (N := 2) rfl ?_); refine box_event ?hg (N := 2) ?hd (cs := #[.slice none 0 0, .slice none 0 0, .int .i64 0]) (t := 25) ?hr ?_; (case hd => rfl); (case hg => rfl); (case hr => first | (go_simp; done) | (go_simp; rfl)); intro gb246 hg w6 hbox hb; have BK246 := Aside0.mk (hbox); have GW246 := Aside0.mk ((by rw [hg]; exact (below_size (by exact lB HB.out)) : w.heap.size ≤ gb246)); have IGW246 : Nonempty _ := ⟨GW246.out⟩; have GE246 := Aside0.mk ((by rw [hg]; exact (below_size (by exact lB HB.out)) : w.heap.size ≤ gb246)); have IGE246 : Nonempty _ := ⟨GE246.out⟩; replace HB := Aside0.mk (below_step (by exact lB HB.out) hb); clear hb hbox hg) | ((with_reducible refine gate_callee (f := 20) rfl ?_); refine goesL_ (some 7) rfl rfl Try.func20 (by kernel_rfl) rfl #[.slice A0 l0.length c0] rfl (by (try simp only [mA, mC, mN]); first | done | rfl | (simp only [ld, lt]; rfl)) ?_; (with_reducible refine (spec_l20Open.calls _ _ l0 t247 t248 w _ ?side1 ?side2 ?side3 A2.out).mono ?_); (case side1 => exact jB HB.out); (case side2 => exact HR0.out); (case side3 => exact HC0.out); rintro e w7 ⟨g249, rfl, hi, hb, hb2⟩; refine ⟨_, rfl, ?_⟩; replace HB := Aside0.mk (hb); have HI249 := Aside0.mk (hi); have NB249_246 := Aside0.mk (IsS59.ne_blk hi (blk_below (g := gb246) (o := .cells #[.slice none 0 0, .slice none 0 0, .int .i64 0] 25 (0, 0)) (by exact lK BK246.out) hb2) (by decide)); have INB249_246 : Nonempty _ := ⟨NB249_246.out⟩; have NB246_249 := Aside0.mk (Ne.symm (IsS59.ne_blk hi (blk_below (g := gb246) (o := .cells #[.slice none 0 0, .slice none 0 0, .int .i64 0] 25 (0, 0)) (by exact lK BK246.out) hb2) (by decide))); have INB246_249 : Nonempty _ := ⟨NB246_249.out⟩; replace BK246 := Aside0.mk (blk_below (g := gb246) (o := .cells #[.slice none 0 0, .slice none 0 0, .int .i64 0] 25 (0, 0)) (by exact lK BK246.out) hb2); (try clear hb); (try clear hb2); (try clear hk); (try clear hi)) | ((with_reducible refine gate_callee (f := 21) rfl ?_); refine goesL_ (some 9) rfl rfl Try.func21 (by kernel_rfl) rfl #[.pointer (some ⟨g249, 0, none⟩), .int .i64 12] rfl (by (try simp only [mA, mC, mN]); first | done | rfl | (simp only [ld, lt]; rfl)) ?_; (with_reducible refine (spec_l20Form.calls k g249 t247 t248 12 t250 t253 t256 t257 w _ ?side1 ?side2 A3.out).mono ?_); (case side1 => exact IsS59.j HI249.out); (case side2 => exact jB HB.out); rintro e w8 ⟨v251, v254, rfl, ho0, ho1, hi, hb, hk⟩; refine ⟨_, rfl, ?_⟩; replace BK246 := Aside0.mk (kb hk BK246.out NB246_249.out); have HO252 := Aside0.mk (Kd.R_lower ho0 (below_size (by exact jB HB.out))); have HO255 := Aside0.mk (Kd.R_lower ho1 (below_size (by exact jB HB.out))); replace HB := Aside0.mk (hb); replace HI249 := Aside0.mk (hi); (try clear hb); (try clear hb2); (try clear hk); (try clear hi); (try clear ho0); (try clear ho1)) | ((with_reducible refine gate_callee (f := 23) rfl ?_); refine goesL_ (some 11) rfl rfl Try.func23 (by kernel_rfl) rfl #[.pointer (some ⟨g249, 0, none⟩), .int .i64 12] rfl (by (try simp only [mA, mC, mN]); first | done | rfl | (simp only [ld, lt]; rfl)) ?_; (with_reducible refine (spec_l20Vals.calls k g249 t247 t257 12 t258 t261 w _ ?side1 ?side2 A4.out).mono ?_); (case side1 => exact IsS59.j HI249.out); (case side2 => exact jB HB.out); rintro e w9 ⟨v259, rfl, ho0, hi, hb, hk⟩; refine ⟨_, rfl, ?_⟩; replace BK246 := Aside0.mk (kb hk BK246.out NB246_249.out); have HO260 := Aside0.mk (Kd.R_lower (Kd.R_new' (Kd.R_new' ho0 (rl HO252.out)) (rl HO255.out)) (below_size (by exact jB HB.out))); replace HO252 := Aside0.mk (Kd.R_mono (Kd.R_told (Kd.R_oldK (IsS59.apart (show IsS59 w _ g249 t247 t257 from by exact IsS59.j HI249.out) (by exact lR HO252.out) (by decide)) hk) (Kd.R_base ho0)) (fun _ h_ => h_.1)); replace HO255 := Aside0.mk (Kd.R_mono (Kd.R_told (Kd.R_oldK (IsS59.apart (show IsS59 w _ g249 t247 t257 from by exact IsS59.j HI249.out) (by exact lR HO255.out) (by decide)) hk) (Kd.R_base ho0)) (fun _ h_ => h_.1)); replace HB := Aside0.mk (hb); replace HI249 := Aside0.mk (hi); (try clear hb); (try clear hb2); (try clear hk); (try clear hi); (try clear ho0)) | ((with_reducible refine gate_callee (f := 24) rfl ?_); refine goesL_ (some 13) rfl rfl Try.func24 (by kernel_rfl) rfl #[.pointer (some ⟨g249, 0, none⟩), .int .i64 12] rfl (by (try simp only [mA, mC, mN]); first | done | rfl | (simp only [ld, lt]; rfl)) ?_; (with_reducible refine (spec_l20Args.calls k g249 t247 t261 12 t262 t265 w _ ?side1 ?side2 A5.out).mono ?_); (case side1 => exact IsS59.j HI249.out); (case side2 => exact jB HB.out); rintro e w10 ⟨v263, rfl, ho0, hi, hb, hk⟩; refine ⟨_, rfl, ?_⟩; replace BK246 := Aside0.mk (kb hk BK246.out NB246_249.out); have HO264 := Aside0.mk (Kd.R_lower (Kd.R_new' (Kd.R_new' (Kd.R_new' ho0 (rl HO252.out)) (rl HO255.out)) (rl HO260.out)) (below_size (by exact jB HB.out))); replace HO252 := Aside0.mk (Kd.R_mono (Kd.R_told (Kd.R_oldK (IsS59.apart (show IsS59 w _ g249 t247 t261 from by exact IsS59.j HI249.out) (by exact lR HO252.out) (by decide)) hk) (Kd.R_base ho0)) (fun _ h_ => h_.1)); replace HO255 := Aside0.mk (Kd.R_mono (Kd.R_told (Kd.R_oldK (IsS59.apart (show IsS59 w _ g249 t247 t261 from by exact IsS59.j HI249.out) (by exact lR HO255.out) (by decide)) hk) (Kd.R_base ho0)) (fun _ h_ => h_.1)); replace HO260 := Aside0.mk (Kd.R_mono (Kd.R_told (Kd.R_oldK (IsS59.apart (show IsS59 w _ g249 t247 t261 from by exact IsS59.j HI249.out) (by exact lR HO260.out) (by decide)) hk) (Kd.R_base ho0)) (fun _ h_ => h_.1)); replace HB := Aside0.mk (hb); replace HI249 := Aside0.mk (hi); (try clear hb); (try clear hb2); (try clear hk); (try clear hi); (try clear ho0); obtain ⟨Ao11, co11, eo11⟩ := Kd.R_slice HO252.out; subst eo11; have hnb12 := NB246_249.out; have hnc12 := NB249_246.out; obtain ⟨hcz13_0, hcz13_1, hcz13_2, hfz13_0, hfz13_1, hfz13_2⟩ := cf3 BK246.out; obtain ⟨Ao14, co14, eo14⟩ := Kd.R_slice HO255.out; subst eo14))
 refine bodyPost_ret (results_ctt rfl _ _ gb246 25 #[.slice Ao11 t250.length co11, .slice Ao14 t253.length co14, .int .i64 t256] (0, 0) _ rfl (by (with_reducible repeat first | refine kN ?_ _ | refine kD ?_ | refine kA ?_ _); refine blk_put (cs := #[.slice Ao11 t250.length co11, .slice Ao14 t253.length co14, .int .i64 0]) ?_ 2 _ rfl; (with_reducible repeat first | refine kN ?_ _ | refine kD ?_ | refine kA ?_ _); refine blk_put (cs := #[.slice Ao11 t250.length co11, .slice none 0 0, .int .i64 0]) ?_ 1 _ rfl; (with_reducible repeat first | refine kN ?_ _ | refine kD ?_ | refine kA ?_ _); refine blk_put (cs := #[.slice none 0 0, .slice none 0 0, .int .i64 0]) ?_ 0 _ rfl; exact lK BK246.out) Try.underlying25 rfl (by kernel_rfl)) rfl ?_
 exact ⟨_, _, _, _, by first | rfl | (simp [errW_none, errW_some] <;> rfl) | (simp [*, errW_none, errW_some] <;> rfl), by exact lR <| Kd.R_mono (Kd.R_far (p := ⟨gb246, 2, none⟩) (Kd.R_far (p := ⟨gb246, 1, none⟩) (Kd.R_far (p := ⟨gb246, 0, none⟩) (Kd.R_types HO252.out BK246.out (by decide)) (fun _ hk => by first | exact hk.2 | exact fun e_ => hk.2 (e_.trans (ob _ _ _ _))) (.slice Ao11 t250.length co11)) (fun _ hk => by first | exact hk.2 | exact fun e_ => hk.2 (e_.trans (ob _ _ _ _))) (.slice Ao14 t253.length co14)) (fun _ hk => by first | exact hk.2 | exact fun e_ => hk.2 (e_.trans (ob _ _ _ _))) (.int .i64 t256)) (fun _ hk => ⟨hk.1.1.1, ⟨hk.1.1.2, hk.1.2⟩⟩), by exact lR <| Kd.R_mono (Kd.R_far (p := ⟨gb246, 2, none⟩) (Kd.R_far (p := ⟨gb246, 1, none⟩) (Kd.R_far (p := ⟨gb246, 0, none⟩) (Kd.R_types HO255.out BK246.out (by decide)) (fun _ hk => by first | exact hk.2 | exact fun e_ => hk.2 (e_.trans (ob _ _ _ _))) (.slice Ao11 t250.length co11)) (fun _ hk => by first | exact hk.2 | exact fun e_ => hk.2 (e_.trans (ob _ _ _ _))) (.slice Ao14 t253.length co14)) (fun _ hk => by first | exact hk.2 | exact fun e_ => hk.2 (e_.trans (ob _ _ _ _))) (.int .i64 t256)) (fun _ hk => ⟨hk.1.1.1, ⟨hk.1.1.2, hk.1.2⟩⟩), by exact lR <| Kd.R_mono (Kd.R_far (p := ⟨gb246, 2, none⟩) (Kd.R_far (p := ⟨gb246, 1, none⟩) (Kd.R_far (p := ⟨gb246, 0, none⟩) (Kd.R_types HO260.out BK246.out (by decide)) (fun _ hk => by first | exact hk.2 | exact fun e_ => hk.2 (e_.trans (ob _ _ _ _))) (.slice Ao11 t250.length co11)) (fun _ hk => by first | exact hk.2 | exact fun e_ => hk.2 (e_.trans (ob _ _ _ _))) (.slice Ao14 t253.length co14)) (fun _ hk => by first | exact hk.2 | exact fun e_ => hk.2 (e_.trans (ob _ _ _ _))) (.int .i64 t256)) (fun _ hk => ⟨hk.1.1.1.2, ⟨hk.1.1.2, hk.1.2⟩⟩), by exact lR <| Kd.R_mono (Kd.R_far (p := ⟨gb246, 2, none⟩) (Kd.R_far (p := ⟨gb246, 1, none⟩) (Kd.R_far (p := ⟨gb246, 0, none⟩) (Kd.R_types HO264.out BK246.out (by decide)) (fun _ hk => by first | exact hk.2 | exact fun e_ => hk.2 (e_.trans (ob _ _ _ _))) (.slice Ao11 t250.length co11)) (fun _ hk => by first | exact hk.2 | exact fun e_ => hk.2 (e_.trans (ob _ _ _ _))) (.slice Ao14 t253.length co14)) (fun _ hk => by first | exact hk.2 | exact fun e_ => hk.2 (e_.trans (ob _ _ _ _))) (.int .i64 t256)) (fun _ hk => ⟨hk.1.1.1.2, ⟨hk.1.1.2, hk.1.2⟩⟩), by exact jB HB.out⟩

/-! ### laws_coInts: function 29 -/
def laws_coInts.l0 : Nat → List Int → List Int → Int → Option (Bool)
 | 0, _, _, _ => none
 | k + 1, x0, x1, x5 => if x5 < (x0.length : Int) then (if 0 ≤ x5 then (if x5 < (x1.length : Int) then (if (rd x0 x5) = (rd x1 x5) then (laws_coInts.l0 k x0 x1 (wrap64 (x5 + 1))) else (some false)) else (none)) else (none)) else (some true)
def laws_coInts.f (k : Nat) (l0 : List Int) (l1 : List Int) : Option (Bool) := if (l0.length : Int) = (l1.length : Int) then (laws_coInts.l0 k l0 l1 0) else (some false)
theorem laws_coInts.mono_l : ∀ k, (∀ y0 y1 y2, LeO (laws_coInts.l0 k y0 y1 y2) (laws_coInts.l0 (k + 1) y0 y1 y2))
 | 0 => fun _ _ _ r h => by simp [laws_coInts.l0] at h
 | k + 1 => by
  have ih0 := laws_coInts.mono_l k
  ·intro y0 y1 y2
   unfold laws_coInts.l0
   repeat' first
   | (with_reducible exact ih0 _ _ _)
   | (with_reducible exact LeO.refl _)
   | (with_reducible exact LeO.none _)
   | (with_reducible refine LeO.ite ?_ ?_)
   | (with_reducible refine LeO.bind ?_ (fun _ => ?_))
   | exact ih0 _ _ _
   | exact LeO.none _
   | refine LeO.ite ?_ ?_
   | refine LeO.bind ?_ (fun _ => ?_)
theorem laws_coInts.mono : ∀ a0 a1 k, LeO (laws_coInts.f k a0 a1) (laws_coInts.f (k + 1) a0 a1) := by
 intro a0 a1 k
 have ih0 := laws_coInts.mono_l k
 unfold laws_coInts.f
 repeat' first
   | (with_reducible exact ih0 _ _ _)
   | (with_reducible exact LeO.refl _)
   | (with_reducible exact LeO.none _)
   | (with_reducible refine LeO.ite ?_ ?_)
   | (with_reducible refine LeO.bind ?_ (fun _ => ?_))
   | exact ih0 _ _ _
   | exact LeO.none _
   | refine LeO.ite ?_ ?_
   | refine LeO.bind ?_ (fun _ => ?_)
set_option maxHeartbeats 8000000 in
set_option maxRecDepth 100000 in
theorem laws_coInts.calls (k : Nat) (A0 : Option Addr) (c0 : Nat) (l0 : List Int) (A1 : Option Addr) (c1 : Nat) (l1 : List Int) (r : Bool) (w : World) (hr0 : Kd.C (Kd.int .i64) w A0 l0.length l0) (hc0 : l0.length ≤ c0) (hr1 : Kd.C (Kd.int .i64) w A1 l1.length l1) (hc1 : l1.length ≤ c1) (h : laws_coInts.f k l0 l1 = some r) :
  Calls Try.prog 29 #[.slice A0 l0.length c0, .slice A1 l1.length c1] w fun e w' => e = .returned (.bool r) ∧ Drawn0 w w' := by
 have HR0 := Aside0.mk hr0
 have HC0 := Aside0.mk hc0
 clear hr0 hc0
 have HR1 := Aside0.mk hr1
 have HC1 := Aside0.mk hc1
 clear hr1 hc1
 have H : (if (l0.length : Int) = (l1.length : Int) then (laws_coInts.l0 k l0 l1 0) else (some false)) = some r := h
 clear h
 by_cases c3 : (l0.length : Int) = (l1.length : Int)
 ·rw [if_pos c3] at H
  have c3b0 : ((l0.length : Int) == (l1.length : Int)) = true := beq_iff_eq.mpr c3
  have c3b1 : ((l0.length : Int) != (l1.length : Int)) = false := bne_eq_false_iff_eq.mpr c3
  have c3b2 : (l0.length == l1.length) = true := by first | simpa using c3 | (simp at c3 ⊢; omega)
  clear c3
  have H' := Aside0.mk H
  clear H
  go_enter Try.func29, Try.ntmps29
  go_wp2
  repeat (go_quiet (fail); try go_wp2)
  go_loopg [5] k (fun kq v5 w' => ∃ (x5_1 : Int), v5 = .int .i64 x5_1 ∧ Aside0 (laws_coInts.l0 kq l0 l1 x5_1 = some r) ∧ Aside0 (kq ≤ k) ∧ Drawn0 w w')
  case atStart => exact ⟨(0), (by first | rfl | (simp; done) | (simp [*]; done)), H', ⟨Nat.le_refl _⟩, by repeat (first | exact Drawn0.refl _ | apply Drawn0.step)⟩
  case round =>
   clear H'
   try clear c1
   try clear c2
   try clear p2
   try clear c3
   try clear c3b0
   try clear c3b1
   try clear c3b2
   obtain ⟨x5_1, rfl, HA, HK1, ⟨m1, rfl⟩⟩ := hrel
   cases gk with
   | zero => exact absurd HA.out (by simp [laws_coInts.l0])
   | succ k1 =>
    have H := HA.out
    clear HA
    simp only [laws_coInts.l0] at H
    by_cases c4 : x5_1 < (l0.length : Int)
    ·rw [if_pos c4] at H
     have c4b0 : decide (x5_1 < (l0.length : Int)) = true := decide_eq_true c4
     clear c4
     by_cases c5 : 0 ≤ x5_1
     ·rw [if_pos c5] at H
      have c5b0 : decide (0 ≤ x5_1) = true := decide_eq_true c5
      clear c5
      by_cases c6 : x5_1 < (l1.length : Int)
      ·rw [if_pos c6] at H
       have c6b0 : decide (x5_1 < (l1.length : Int)) = true := decide_eq_true c6
       clear c6
       by_cases c7 : (rd l0 x5_1) = (rd l1 x5_1)
       ·rw [if_pos c7] at H
        have c7b0 : ((rd l0 x5_1) == (rd l1 x5_1)) = true := beq_iff_eq.mpr c7
        have c7b1 : ((rd l0 x5_1) != (rd l1 x5_1)) = false := bne_eq_false_iff_eq.mpr c7
        clear c7
        have H' := Aside0.mk H
        clear H
        have p266 : 0 ≤ (x5_1 : Int) := of_decide_eq_true (by first | (with_reducible assumption) | assumption)
        have q266 : x5_1 < (l0.length : Int) := of_decide_eq_true (by first | (with_reducible assumption) | assumption)
        obtain ⟨ad266, e266, hx266_0⟩ := Kd.at_int HR0.out x5_1 p266 q266
        cases e266
        replace p266 := eq_true p266
        replace q266 := eq_true q266
        have p267 : 0 ≤ (x5_1 : Int) := of_decide_eq_true (by first | (with_reducible assumption) | assumption)
        have q267 : x5_1 < (l1.length : Int) := of_decide_eq_true (by first | (with_reducible assumption) | assumption)
        obtain ⟨ad267, e267, hx267_0⟩ := Kd.at_int HR1.out x5_1 p267 q267
        cases e267
        replace p267 := eq_true p267
        replace q267 := eq_true q267
        go_wp2
        repeat (go_quiet (fail); try go_wp2)
        go_roundg k1
        case measure => have := HK1.out; omega
        case rel => exact ⟨(wrap64 (x5_1 + 1)), (by first | rfl | (simp; done) | (simp [*]; done)), H', ⟨by have := HK1.out; omega⟩, by repeat (first | exact Drawn0.refl _ | apply Drawn0.step)⟩
       ·rw [if_neg c7] at H
        have c7b0 : ((rd l0 x5_1) == (rd l1 x5_1)) = false := beq_eq_false_iff_ne.mpr c7
        have c7b1 : ((rd l0 x5_1) != (rd l1 x5_1)) = true := bne_iff_ne.mpr c7
        obtain rfl := Option.some.inj H
        have p266 : 0 ≤ (x5_1 : Int) := of_decide_eq_true (by first | (with_reducible assumption) | assumption)
        have q266 : x5_1 < (l0.length : Int) := of_decide_eq_true (by first | (with_reducible assumption) | assumption)
        obtain ⟨ad266, e266, hx266_0⟩ := Kd.at_int HR0.out x5_1 p266 q266
        cases e266
        replace p266 := eq_true p266
        replace q266 := eq_true q266
        have p267 : 0 ≤ (x5_1 : Int) := of_decide_eq_true (by first | (with_reducible assumption) | assumption)
        have q267 : x5_1 < (l1.length : Int) := of_decide_eq_true (by first | (with_reducible assumption) | assumption)
        obtain ⟨ad267, e267, hx267_0⟩ := Kd.at_int HR1.out x5_1 p267 q267
        cases e267
        replace p267 := eq_true p267
        replace q267 := eq_true q267
        go_wp2
        repeat (go_quiet (fail); try go_wp2)
        go_ret
        exact ⟨by first | rfl | (simp; done) | (simp [*]; done), by repeat (first | exact Drawn0.refl _ | apply Drawn0.step)⟩
      ·rw [if_neg c6] at H
       exact absurd H (by simp)
     ·rw [if_neg c5] at H
      exact absurd H (by simp)
    ·rw [if_neg c4] at H
     have c4b0 : decide (x5_1 < (l0.length : Int)) = false := decide_eq_false c4
     clear c4
     obtain rfl := Option.some.inj H
     go_wp2
     repeat (go_quiet (fail); try go_wp2)
     go_ret
     exact ⟨by first | rfl | (simp; done) | (simp [*]; done), by repeat (first | exact Drawn0.refl _ | apply Drawn0.step)⟩
 ·rw [if_neg c3] at H
  have c3b0 : ((l0.length : Int) == (l1.length : Int)) = false := beq_eq_false_iff_ne.mpr c3
  have c3b1 : ((l0.length : Int) != (l1.length : Int)) = true := bne_iff_ne.mpr c3
  have c3b2 : (l0.length == l1.length) = false := by first | simpa using c3 | (simp at c3 ⊢; omega)
  obtain rfl := Option.some.inj H
  go_enter Try.func29, Try.ntmps29
  go_wp2
  repeat (go_quiet (fail); try go_wp2)
  go_ret
  exact ⟨by first | rfl | (simp; done) | (simp [*]; done), by repeat (first | exact Drawn0.refl _ | apply Drawn0.step)⟩

/-! ### laws_coForm: function 8 -/
def laws_coForm.f (k : Nat) (l0_0 : List Int) (l0_1 : List Int) (a0_2 : Int) (l1_0 : List Int) (l1_1 : List Int) (a1_2 : Int) : Option (Bool) := (laws_coInts.f k l0_0 l1_0).bind fun t270 => (if t270 = true then ((laws_coInts.f k l0_1 l1_1).bind fun t271 => (if t271 = true then (some (a0_2 == a1_2)) else (some false))) else (some false))
theorem laws_coForm.mono : ∀ a0 a1 a2 a3 a4 a5 k, LeO (laws_coForm.f k a0 a1 a2 a3 a4 a5) (laws_coForm.f (k + 1) a0 a1 a2 a3 a4 a5) := by
 intro a0 a1 a2 a3 a4 a5 k
 unfold laws_coForm.f
 repeat' first
   | (with_reducible exact laws_coInts.mono _ _ _)
   | (with_reducible exact LeO.refl _)
   | (with_reducible exact LeO.none _)
   | (with_reducible refine LeO.ite ?_ ?_)
   | (with_reducible refine LeO.bind ?_ (fun _ => ?_))
   | exact laws_coInts.mono _ _ _
   | exact LeO.none _
   | refine LeO.ite ?_ ?_
   | refine LeO.bind ?_ (fun _ => ?_)
set_option maxHeartbeats 8000000 in
set_option maxRecDepth 100000 in
theorem laws_coForm.calls (k : Nat) (A0_0 : Option Addr) (c0_0 : Nat) (l0_0 : List Int) (A0_1 : Option Addr) (c0_1 : Nat) (l0_1 : List Int) (a0_2 : Int) (A1_0 : Option Addr) (c1_0 : Nat) (l1_0 : List Int) (A1_1 : Option Addr) (c1_1 : Nat) (l1_1 : List Int) (a1_2 : Int) (r : Bool) (w : World) (hr0_0 : Kd.C (Kd.int .i64) w A0_0 l0_0.length l0_0) (hc0_0 : l0_0.length ≤ c0_0) (hr0_1 : Kd.C (Kd.int .i64) w A0_1 l0_1.length l0_1) (hc0_1 : l0_1.length ≤ c0_1) (hr1_0 : Kd.C (Kd.int .i64) w A1_0 l1_0.length l1_0) (hc1_0 : l1_0.length ≤ c1_0) (hr1_1 : Kd.C (Kd.int .i64) w A1_1 l1_1.length l1_1) (hc1_1 : l1_1.length ≤ c1_1) (h : laws_coForm.f k l0_0 l0_1 a0_2 l1_0 l1_1 a1_2 = some r) :
  Calls Try.prog 8 #[.agg #[.slice A0_0 l0_0.length c0_0, .slice A0_1 l0_1.length c0_1, .int .i64 a0_2], .agg #[.slice A1_0 l1_0.length c1_0, .slice A1_1 l1_1.length c1_1, .int .i64 a1_2]] w fun e w' => e = .returned (.bool r) ∧ Below w.heap.size w w' := by
 have hu25 := Try.underlying25
 have HR0_0 := Aside0.mk hr0_0
 have HC0_0 := Aside0.mk hc0_0
 clear hr0_0 hc0_0
 have HR0_1 := Aside0.mk hr0_1
 have HC0_1 := Aside0.mk hc0_1
 clear hr0_1 hc0_1
 have HR1_0 := Aside0.mk hr1_0
 have HC1_0 := Aside0.mk hc1_0
 clear hr1_0 hc1_0
 have HR1_1 := Aside0.mk hr1_1
 have HC1_1 := Aside0.mk hc1_1
 clear hr1_1 hc1_1
 have HB := Aside0.mk (Below.refl w.heap.size w)
 have H : ((laws_coInts.f k l0_0 l1_0).bind fun t270 => (if t270 = true then ((laws_coInts.f k l0_1 l1_1).bind fun t271 => (if t271 = true then (some (a0_2 == a1_2)) else (some false))) else (some false))) = some r := h
 clear h
 replace H := Option.bind_eq_some_iff.mp H
 obtain ⟨t270, A30, H⟩ := H
 replace H : (if t270 = true then ((laws_coInts.f k l0_1 l1_1).bind fun t271 => (if t271 = true then (some (a0_2 == a1_2)) else (some false))) else (some false)) = some r := H
 have A3 := Aside0.mk A30
 clear A30
 by_cases c4 : t270 = true
 ·subst c4
  have H1 : ((laws_coInts.f k l0_1 l1_1).bind fun t271 => (if t271 = true then (some (a0_2 == a1_2)) else (some false))) = some r := by rw [if_pos rfl] at H; exact H
  clear H
  have H := H1
  clear H1
  replace H := Option.bind_eq_some_iff.mp H
  obtain ⟨t271, A50, H⟩ := H
  replace H : (if t271 = true then (some (a0_2 == a1_2)) else (some false)) = some r := H
  have A5 := Aside0.mk A50
  clear A50
  by_cases c6 : t271 = true
  ·subst c6
   have H1 : (some (a0_2 == a1_2)) = some r := by rw [if_pos rfl] at H; exact H
   clear H
   have H := H1
   clear H1
   obtain rfl := Option.some.inj H
   go_enter Try.func8, Try.ntmps8
   go_wp2_with (first | ((with_reducible refine gate_dst (N := 2) rfl ?_); refine box_event ?hg (N := 2) ?hd (cs := #[.slice A0_0 l0_0.length c0_0, .slice A0_1 l0_1.length c0_1, .int .i64 a0_2]) (t := 25) ?hr ?_; (case hd => rfl); (case hg => rfl); (case hr => first | (go_simp; done) | (go_simp; rfl)); intro gb268 hg w7 hbox hb; have BK268 := Aside0.mk (hbox); have GW268 := Aside0.mk ((by rw [hg]; exact (below_size (by exact lB HB.out)) : w.heap.size ≤ gb268)); have IGW268 : Nonempty _ := ⟨GW268.out⟩; have GE268 := Aside0.mk ((by rw [hg]; exact (below_size (by exact lB HB.out)) : w.heap.size ≤ gb268)); have IGE268 : Nonempty _ := ⟨GE268.out⟩; replace HB := Aside0.mk (below_step (by exact lB HB.out) hb); clear hb hbox hg) | ((with_reducible refine gate_dst (N := 3) rfl ?_); refine box_event ?hg (N := 3) ?hd (cs := #[.slice A1_0 l1_0.length c1_0, .slice A1_1 l1_1.length c1_1, .int .i64 a1_2]) (t := 25) ?hr ?_; (case hd => rfl); (case hg => rfl); (case hr => first | (go_simp; done) | (go_simp; rfl)); intro gb269 hg w8 hbox hb; have BK269 := Aside0.mk (hbox); have GW269 := Aside0.mk ((by rw [hg]; exact (below_size (by exact jB HB.out)) : w.heap.size ≤ gb269)); have IGW269 : Nonempty _ := ⟨GW269.out⟩; have GE269 := Aside0.mk ((by rw [hg]; exact (below_size (by exact jB HB.out)) : w.heap.size ≤ gb269)); have IGE269 : Nonempty _ := ⟨GE269.out⟩; replace HB := Aside0.mk (below_step (by exact jB HB.out) hb); have NB268_269 := Aside0.mk ((neL hg (lK BK268.out) : gb268 ≠ gb269)); have INB268_269 : Nonempty _ := ⟨NB268_269.out⟩; have NB269_268 := Aside0.mk ((neG hg (lK BK268.out) : gb269 ≠ gb268)); have INB269_268 : Nonempty _ := ⟨NB269_268.out⟩; replace BK268 := Aside0.mk (bb BK268.out hb); clear hb hbox hg; have hnb9 := NB268_269.out; have hnc9 := NB269_268.out; obtain ⟨hcz10_0, hcz10_1, hcz10_2, hfz10_0, hfz10_1, hfz10_2⟩ := cf3 BK268.out; obtain ⟨hcz11_0, hcz11_1, hcz11_2, hfz11_0, hfz11_1, hfz11_2⟩ := cf3 BK269.out) | ((with_reducible refine gate_callee (f := 29) rfl ?_); refine goesL_ (some 9) rfl rfl Try.func29 (by kernel_rfl) rfl #[.slice A0_0 l0_0.length c0_0, .slice A1_0 l1_0.length c1_0] rfl (by (try simp only [mA, mC, mN]); first | done | rfl | (simp only [ld, lt]; rfl)) ?_; (with_reducible refine (laws_coInts.calls k _ _ l0_0 _ _ l1_0 true _ ?side1 ?side2 ?side3 ?side4 A3.out).mono ?_); (case side1 => exact lC <| (Kd.C_below HR0_0.out HB.out)); (case side2 => exact HC0_0.out); (case side3 => exact lC <| (Kd.C_below HR1_0.out HB.out)); (case side4 => exact HC1_0.out); rintro e w' ⟨rfl, ⟨nd, rfl⟩⟩; refine ⟨_, rfl, ?_⟩) | (go_at_call 29; (with_reducible refine (laws_coInts.calls k _ _ l0_1 _ _ l1_1 true _ ?side1 ?side2 ?side3 ?side4 A5.out).mono ?_); (case side1 => repeat (first | exact (Kd.C_below HR0_1.out (by exact jB HB.out)) | (with_reducible refine Kd.C_alloc ?_ _) | (with_reducible refine Kd.C_drewN ?_ _) | (with_reducible refine Kd.C_drew ?_))); (case side2 => exact HC0_1.out); (case side3 => repeat (first | exact (Kd.C_below HR1_1.out (by exact jB HB.out)) | (with_reducible refine Kd.C_alloc ?_ _) | (with_reducible refine Kd.C_drewN ?_ _) | (with_reducible refine Kd.C_drew ?_))); (case side4 => exact HC1_1.out); rintro e w' ⟨rfl, ⟨nd, rfl⟩⟩))
   go_ret
   exact ⟨by first | rfl | (simp [errW_none, errW_some] <;> rfl) | (simp [*, errW_none, errW_some] <;> rfl), by exact jB HB.out⟩
  ·replace c6 := Bool.eq_false_iff.mpr c6
   subst c6
   have H1 : (some false) = some r := by rw [if_neg (show ¬ (false = true) by decide)] at H; exact H
   clear H
   have H := H1
   clear H1
   obtain rfl := Option.some.inj H
   go_enter Try.func8, Try.ntmps8
   go_wp2_with (first | ((with_reducible refine gate_dst (N := 2) rfl ?_); refine box_event ?hg (N := 2) ?hd (cs := #[.slice A0_0 l0_0.length c0_0, .slice A0_1 l0_1.length c0_1, .int .i64 a0_2]) (t := 25) ?hr ?_; (case hd => rfl); (case hg => rfl); (case hr => first | (go_simp; done) | (go_simp; rfl)); intro gb268 hg w12 hbox hb; have BK268 := Aside0.mk (hbox); have GW268 := Aside0.mk ((by rw [hg]; exact (below_size (by exact lB HB.out)) : w.heap.size ≤ gb268)); have IGW268 : Nonempty _ := ⟨GW268.out⟩; have GE268 := Aside0.mk ((by rw [hg]; exact (below_size (by exact lB HB.out)) : w.heap.size ≤ gb268)); have IGE268 : Nonempty _ := ⟨GE268.out⟩; replace HB := Aside0.mk (below_step (by exact lB HB.out) hb); clear hb hbox hg) | ((with_reducible refine gate_dst (N := 3) rfl ?_); refine box_event ?hg (N := 3) ?hd (cs := #[.slice A1_0 l1_0.length c1_0, .slice A1_1 l1_1.length c1_1, .int .i64 a1_2]) (t := 25) ?hr ?_; (case hd => rfl); (case hg => rfl); (case hr => first | (go_simp; done) | (go_simp; rfl)); intro gb269 hg w13 hbox hb; have BK269 := Aside0.mk (hbox); have GW269 := Aside0.mk ((by rw [hg]; exact (below_size (by exact jB HB.out)) : w.heap.size ≤ gb269)); have IGW269 : Nonempty _ := ⟨GW269.out⟩; have GE269 := Aside0.mk ((by rw [hg]; exact (below_size (by exact jB HB.out)) : w.heap.size ≤ gb269)); have IGE269 : Nonempty _ := ⟨GE269.out⟩; replace HB := Aside0.mk (below_step (by exact jB HB.out) hb); have NB268_269 := Aside0.mk ((neL hg (lK BK268.out) : gb268 ≠ gb269)); have INB268_269 : Nonempty _ := ⟨NB268_269.out⟩; have NB269_268 := Aside0.mk ((neG hg (lK BK268.out) : gb269 ≠ gb268)); have INB269_268 : Nonempty _ := ⟨NB269_268.out⟩; replace BK268 := Aside0.mk (bb BK268.out hb); clear hb hbox hg; have hnb14 := NB268_269.out; have hnc14 := NB269_268.out; obtain ⟨hcz15_0, hcz15_1, hcz15_2, hfz15_0, hfz15_1, hfz15_2⟩ := cf3 BK268.out; obtain ⟨hcz16_0, hcz16_1, hcz16_2, hfz16_0, hfz16_1, hfz16_2⟩ := cf3 BK269.out) | ((with_reducible refine gate_callee (f := 29) rfl ?_); refine goesL_ (some 9) rfl rfl Try.func29 (by kernel_rfl) rfl #[.slice A0_0 l0_0.length c0_0, .slice A1_0 l1_0.length c1_0] rfl (by (try simp only [mA, mC, mN]); first | done | rfl | (simp only [ld, lt]; rfl)) ?_; (with_reducible refine (laws_coInts.calls k _ _ l0_0 _ _ l1_0 true _ ?side1 ?side2 ?side3 ?side4 A3.out).mono ?_); (case side1 => exact lC <| (Kd.C_below HR0_0.out HB.out)); (case side2 => exact HC0_0.out); (case side3 => exact lC <| (Kd.C_below HR1_0.out HB.out)); (case side4 => exact HC1_0.out); rintro e w' ⟨rfl, ⟨nd, rfl⟩⟩; refine ⟨_, rfl, ?_⟩) | (go_at_call 29; (with_reducible refine (laws_coInts.calls k _ _ l0_1 _ _ l1_1 false _ ?side1 ?side2 ?side3 ?side4 A5.out).mono ?_); (case side1 => repeat (first | exact (Kd.C_below HR0_1.out (by exact jB HB.out)) | (with_reducible refine Kd.C_alloc ?_ _) | (with_reducible refine Kd.C_drewN ?_ _) | (with_reducible refine Kd.C_drew ?_))); (case side2 => exact HC0_1.out); (case side3 => repeat (first | exact (Kd.C_below HR1_1.out (by exact jB HB.out)) | (with_reducible refine Kd.C_alloc ?_ _) | (with_reducible refine Kd.C_drewN ?_ _) | (with_reducible refine Kd.C_drew ?_))); (case side4 => exact HC1_1.out); rintro e w' ⟨rfl, ⟨nd, rfl⟩⟩))
   go_ret
   exact ⟨by first | rfl | (simp [errW_none, errW_some] <;> rfl) | (simp [*, errW_none, errW_some] <;> rfl), by exact jB HB.out⟩
 ·replace c4 := Bool.eq_false_iff.mpr c4
  subst c4
  have H1 : (some false) = some r := by rw [if_neg (show ¬ (false = true) by decide)] at H; exact H
  clear H
  have H := H1
  clear H1
  obtain rfl := Option.some.inj H
  go_enter Try.func8, Try.ntmps8
  go_wp2_with (first | ((with_reducible refine gate_dst (N := 2) rfl ?_); refine box_event ?hg (N := 2) ?hd (cs := #[.slice A0_0 l0_0.length c0_0, .slice A0_1 l0_1.length c0_1, .int .i64 a0_2]) (t := 25) ?hr ?_; (case hd => rfl); (case hg => rfl); (case hr => first | (go_simp; done) | (go_simp; rfl)); intro gb268 hg w17 hbox hb; have BK268 := Aside0.mk (hbox); have GW268 := Aside0.mk ((by rw [hg]; exact (below_size (by exact lB HB.out)) : w.heap.size ≤ gb268)); have IGW268 : Nonempty _ := ⟨GW268.out⟩; have GE268 := Aside0.mk ((by rw [hg]; exact (below_size (by exact lB HB.out)) : w.heap.size ≤ gb268)); have IGE268 : Nonempty _ := ⟨GE268.out⟩; replace HB := Aside0.mk (below_step (by exact lB HB.out) hb); clear hb hbox hg) | ((with_reducible refine gate_dst (N := 3) rfl ?_); refine box_event ?hg (N := 3) ?hd (cs := #[.slice A1_0 l1_0.length c1_0, .slice A1_1 l1_1.length c1_1, .int .i64 a1_2]) (t := 25) ?hr ?_; (case hd => rfl); (case hg => rfl); (case hr => first | (go_simp; done) | (go_simp; rfl)); intro gb269 hg w18 hbox hb; have BK269 := Aside0.mk (hbox); have GW269 := Aside0.mk ((by rw [hg]; exact (below_size (by exact jB HB.out)) : w.heap.size ≤ gb269)); have IGW269 : Nonempty _ := ⟨GW269.out⟩; have GE269 := Aside0.mk ((by rw [hg]; exact (below_size (by exact jB HB.out)) : w.heap.size ≤ gb269)); have IGE269 : Nonempty _ := ⟨GE269.out⟩; replace HB := Aside0.mk (below_step (by exact jB HB.out) hb); have NB268_269 := Aside0.mk ((neL hg (lK BK268.out) : gb268 ≠ gb269)); have INB268_269 : Nonempty _ := ⟨NB268_269.out⟩; have NB269_268 := Aside0.mk ((neG hg (lK BK268.out) : gb269 ≠ gb268)); have INB269_268 : Nonempty _ := ⟨NB269_268.out⟩; replace BK268 := Aside0.mk (bb BK268.out hb); clear hb hbox hg; have hnb19 := NB268_269.out; have hnc19 := NB269_268.out; obtain ⟨hcz20_0, hcz20_1, hcz20_2, hfz20_0, hfz20_1, hfz20_2⟩ := cf3 BK268.out; obtain ⟨hcz21_0, hcz21_1, hcz21_2, hfz21_0, hfz21_1, hfz21_2⟩ := cf3 BK269.out) | ((with_reducible refine gate_callee (f := 29) rfl ?_); refine goesL_ (some 9) rfl rfl Try.func29 (by kernel_rfl) rfl #[.slice A0_0 l0_0.length c0_0, .slice A1_0 l1_0.length c1_0] rfl (by (try simp only [mA, mC, mN]); first | done | rfl | (simp only [ld, lt]; rfl)) ?_; (with_reducible refine (laws_coInts.calls k _ _ l0_0 _ _ l1_0 false _ ?side1 ?side2 ?side3 ?side4 A3.out).mono ?_); (case side1 => exact lC <| (Kd.C_below HR0_0.out HB.out)); (case side2 => exact HC0_0.out); (case side3 => exact lC <| (Kd.C_below HR1_0.out HB.out)); (case side4 => exact HC1_0.out); rintro e w' ⟨rfl, ⟨nd, rfl⟩⟩; refine ⟨_, rfl, ?_⟩))
  go_ret
  exact ⟨by first | rfl | (simp [errW_none, errW_some] <;> rfl) | (simp [*, errW_none, errW_some] <;> rfl), by exact jB HB.out⟩

/-! ### impl_in: function 31 -/
def impl_in.f (a0 : Int) (a1 : Int) (a2 : Int) : Option (Bool) := if a0 ≥ a1 then (some (decide (a0 ≤ a2))) else (some false)
set_option maxHeartbeats 8000000 in
set_option maxRecDepth 100000 in
theorem impl_in.calls (a0 : Int) (a1 : Int) (a2 : Int) (r : Bool) (w : World) (h : impl_in.f a0 a1 a2 = some r) :
  Calls Try.prog 31 #[.int .i64 a0, .int .i64 a1, .int .i64 a2] w fun e w' => e = .returned (.bool r) ∧ Drawn0 w w' := by
 have H : (if a0 ≥ a1 then (some (decide (a0 ≤ a2))) else (some false)) = some r := h
 clear h
 by_cases c4 : a0 ≥ a1
 ·rw [if_pos c4] at H
  have c4b0 : decide (a1 ≤ a0) = true := decide_eq_true c4
  clear c4
  obtain rfl := Option.some.inj H
  go_enter Try.func31, Try.ntmps31
  go_wp2
  go_ret
  exact ⟨by first | rfl | (simp; done) | (simp [*]; done), by repeat (first | exact Drawn0.refl _ | apply Drawn0.step)⟩
 ·rw [if_neg c4] at H
  have c4b0 : decide (a1 ≤ a0) = false := decide_eq_false c4
  clear c4
  obtain rfl := Option.some.inj H
  go_enter Try.func31, Try.ntmps31
  go_wp2
  go_ret
  exact ⟨by first | rfl | (simp; done) | (simp [*]; done), by repeat (first | exact Drawn0.refl _ | apply Drawn0.step)⟩

-- NOT PRINTED: function 44 (slices_IndexFunc_int_int)

-- NOT PRINTED: function 41 (slices_ContainsFunc_int_int)

-- NOT PRINTED: function 42 (impl_within_1)

/-! ### impl_within: function 32, by hand -/
set_option maxHeartbeats 1000000 in
theorem idx_ints (q : Int → Bool) (g : Nat) (lb : Array Value) (eg : ∀ args w, (callFunc g args).run Try.prog w = .ok (.enter g args) w) (A0 : Option Addr) (c0 : Nat) (xs : List Int) (w : World)
  (hr : Kd.C (Kd.int .i64) w A0 xs.length xs) (hp : ∀ x, x ∈ xs → ∀ W : World, Below w.heap.size w W → Calls Try.prog g (#[.int .i64 x] ++ lb) W fun e w' => e = .returned (.bool (q x)) ∧ Below W.heap.size W w') :
  Calls Try.prog 44 #[.slice A0 xs.length c0, .func (.func g) #[] lb] w fun e w' => e = .returned (.int .i64 (idxOf q xs)) ∧ Below w.heap.size w w' := by
 have hm := Kd.C_max hr
 have HR := Aside0.mk hr
 have HP := Aside0.mk hp
 clear hr hp
 go_enter Try.func44, Try.ntmps44
 go_wp2
 go_loopg [5, 8] xs.length (fun gg _ s8 wr => ∃ x : Int, s8 = .int .i64 x ∧ Aside0 (0 ≤ x ∧ x ≤ xs.length ∧ (xs.length : Int) - x ≤ gg) ∧ Aside0 (Below w.heap.size w wr) ∧ Aside0 (∀ j : Int, 0 ≤ j → j < x → q (xs.getD j.toNat 0) = false))
 case atStart => exact ⟨0, rfl, ⟨by omega, by omega, by omega⟩, ⟨Below.refl _ _⟩, ⟨fun j h0 h1 => by omega⟩⟩
 case round =>
  obtain ⟨x, rfl, HX, HB, HN⟩ := hrel
  have p1 := HX.out.1
  by_cases hlt : x < (xs.length : Int)
  ·obtain ⟨ad, e1, hx⟩ := Kd.at_int (Kd.C_below HR.out HB.out) x p1 hlt
   cases e1
   have hcall := HP.out (rd xs x) (mem_rd 0 xs x p1 hlt) _ HB.out
   cases hq : q (rd xs x) with
   | true =>
    rw [hq] at hcall
    have HQ := Aside0.mk hq
    clear hq
    have HC := Aside0.mk hcall
    clear hcall
    go_wp2_with (go_at_fn g; refine HC.out.mono ?_; rintro e w' ⟨rfl, hb⟩)
    go_ret
    refine ⟨?_, below_then HB.out HB.out.size hb⟩
    rw [idxOf_hit 0 x p1 hlt HQ.out HN.out]
    rfl
   | false =>
    rw [hq] at hcall
    have HQ := Aside0.mk hq
    clear hq
    have HC := Aside0.mk hcall
    clear hcall
    go_wp2_with (go_at_fn g; refine HC.out.mono ?_; rintro e w' ⟨rfl, hb⟩)
    go_roundg (xs.length - (x.toNat + 1))
    case measure => have := HX.out; omega
    case rel =>
     refine ⟨x + 1, by go_num, ⟨by have := HX.out; omega, by have := HX.out; omega, by have := HX.out; omega⟩, ⟨below_then HB.out HB.out.size hb⟩, ⟨fun j h0 h1 => ?_⟩⟩
     by_cases e : j = x
     ·subst e; exact HQ.out
     ·exact HN.out j h0 (by omega)
  ·go_wp2
   go_ret
   refine ⟨?_, HB.out⟩
   rw [idxOf_miss 0 (fun j h0 h1 => HN.out j h0 (by have := HX.out; omega))]
   rfl
set_option maxHeartbeats 1000000 in
theorem has_ints (q : Int → Bool) (g : Nat) (lb : Array Value) (eg : ∀ args w, (callFunc g args).run Try.prog w = .ok (.enter g args) w) (A0 : Option Addr) (c0 : Nat) (xs : List Int) (w : World)
  (hr : Kd.C (Kd.int .i64) w A0 xs.length xs) (hp : ∀ x, x ∈ xs → ∀ W : World, Below w.heap.size w W → Calls Try.prog g (#[.int .i64 x] ++ lb) W fun e w' => e = .returned (.bool (q x)) ∧ Below W.heap.size W w') :
  Calls Try.prog 41 #[.slice A0 xs.length c0, .func (.func g) #[] lb] w fun e w' => e = .returned (.bool (xs.any q)) ∧ Below w.heap.size w w' := by
 have HC := Aside0.mk (idx_ints q g lb eg A0 c0 xs w hr hp)
 rw [← idxOf_any q xs]
 generalize idxOf q xs = n at HC
 clear hr hp
 go_enter Try.func41, Try.ntmps41
 go_wp2_with (go_at_call 44; refine HC.out.mono ?_; rintro e w' ⟨rfl, hb⟩)
 go_ret
 exact ⟨rfl, hb⟩
def inB (n lo hi : Int) : Bool := decide (lo ≤ n) && decide (n ≤ hi)
theorem in_inB (n lo hi : Int) : impl_in.f n lo hi = some (inB n lo hi) := by
 unfold impl_in.f inB
 by_cases h : n ≥ lo
 ·rw [if_pos h]; simp [h]
 ·rw [if_neg h]; simp [h]
set_option maxHeartbeats 1000000 in
theorem within_pred (most : Int) (B : Nat) (W : World) (x : Int) (hc : W.cell? ⟨B, 0, none⟩ = some (.int .i64 most)) :
  Calls Try.prog 42 (#[.int .i64 x] ++ #[.pointer (some ⟨B, 0, none⟩)]) W fun e w' => e = .returned (.bool (!inB x (wrap64 (-most)) most)) ∧ Below W.heap.size W w' := by
 show Calls Try.prog 42 #[.int .i64 x, .pointer (some ⟨B, 0, none⟩)] W _
 have HI := Aside0.mk (impl_in.calls x (wrap64 (-most)) most (inB x (wrap64 (-most)) most) W (in_inB _ _ _))
 go_enter Try.func42, Try.ntmps42
 go_wp2_with (go_at_call 31; refine HI.out.mono ?_; rintro e w' ⟨rfl, hd⟩)
 go_ret
 exact ⟨rfl, hd.below⟩
def impl_within.f (l0 : List Int) (a1 : Int) (a2 : Int) : Option (Bool) := some (decide ((l0.length : Int) = a1) && !(l0.any fun x => !inB x (wrap64 (-a2)) a2))
set_option maxHeartbeats 8000000 in
set_option maxRecDepth 100000 in
theorem impl_within.calls (A0 : Option Addr) (c0 : Nat) (l0 : List Int) (a1 : Int) (a2 : Int) (r : Bool) (w : World) (hr0 : Kd.C (Kd.int .i64) w A0 l0.length l0) (hc0 : l0.length ≤ c0) (h : impl_within.f l0 a1 a2 = some r) :
  Calls Try.prog 32 #[.slice A0 l0.length c0, .int .i64 a1, .int .i64 a2] w fun e w' => e = .returned (.bool r) ∧ Below w.heap.size w w' := by
 obtain rfl := Option.some.inj h
 clear h
 have eg : ∀ args w, (callFunc 42 args).run Try.prog w = .ok (.enter 42 args) w := enters_of Try.func42 (by kernel_rfl) rfl
 have HC := Aside0.mk (has_ints (fun x => !inB x (wrap64 (-a2)) a2) 42 #[.pointer (some ⟨w.heap.size, 0, none⟩)] eg A0 c0 l0 (w.alloc (.cells #[.int .i64 a2] 3)) (Kd.C_alloc hr0 _)
  (fun x _ W hb => within_pred a2 w.heap.size W x ((hb.cell (p := ⟨w.heap.size, 0, none⟩) (by simp)).trans (by simp))))
 clear hr0
 by_cases hn : (l0.length : Int) = a1
 ·have hb1 : ((l0.length : Int) == a1) = true := beq_iff_eq.mpr hn
  have hd : decide ((l0.length : Int) = a1) = true := decide_eq_true hn
  rw [hd]
  clear hn hd
  generalize l0.any (fun x => !inB x (wrap64 (-a2)) a2) = b at HC
  go_enter Try.func32, Try.ntmps32
  go_wp2_with (go_at_call 41; refine HC.out.mono ?_; rintro e w' ⟨rfl, hb⟩)
  go_ret
  exact ⟨by simp, below_then (below_alloc (Below.refl _ _) _) (by simp) hb⟩
 ·have hb1 : ((l0.length : Int) == a1) = false := beq_eq_false_iff_ne.mpr hn
  have hd : decide ((l0.length : Int) = a1) = false := decide_eq_false hn
  rw [hd]
  clear hn hd HC
  go_enter Try.func32, Try.ntmps32
  go_wp2
  go_ret
  exact ⟨by simp, below_alloc (Below.refl _ _) _⟩

/-! ### impl_FrmOk: function 11 -/
def impl_FrmOk.f (l0_0 : List Int) (l0_1 : List Int) (a0_2 : Int) : Option (Bool) := (impl_within.f l0_0 3 10000000).bind fun t273 => (if t273 = true then ((impl_within.f l0_1 2 10000000).bind fun t274 => (if t274 = true then ((impl_in.f a0_2 (-10000000) 10000000).bind fun t275 => (some t275)) else (some false))) else (some false))
set_option maxHeartbeats 8000000 in
set_option maxRecDepth 100000 in
theorem impl_FrmOk.calls (A0_0 : Option Addr) (c0_0 : Nat) (l0_0 : List Int) (A0_1 : Option Addr) (c0_1 : Nat) (l0_1 : List Int) (a0_2 : Int) (r : Bool) (w : World) (hr0_0 : Kd.C (Kd.int .i64) w A0_0 l0_0.length l0_0) (hc0_0 : l0_0.length ≤ c0_0) (hr0_1 : Kd.C (Kd.int .i64) w A0_1 l0_1.length l0_1) (hc0_1 : l0_1.length ≤ c0_1) (h : impl_FrmOk.f l0_0 l0_1 a0_2 = some r) :
  Calls Try.prog 11 #[.agg #[.slice A0_0 l0_0.length c0_0, .slice A0_1 l0_1.length c0_1, .int .i64 a0_2]] w fun e w' => e = .returned (.bool r) ∧ Below w.heap.size w w' := by
 have hu25 := Try.underlying25
 have HR0_0 := Aside0.mk hr0_0
 have HC0_0 := Aside0.mk hc0_0
 clear hr0_0 hc0_0
 have HR0_1 := Aside0.mk hr0_1
 have HC0_1 := Aside0.mk hc0_1
 clear hr0_1 hc0_1
 have HB := Aside0.mk (Below.refl w.heap.size w)
 have H : ((impl_within.f l0_0 3 10000000).bind fun t273 => (if t273 = true then ((impl_within.f l0_1 2 10000000).bind fun t274 => (if t274 = true then ((impl_in.f a0_2 (-10000000) 10000000).bind fun t275 => (some t275)) else (some false))) else (some false))) = some r := h
 clear h
 replace H := Option.bind_eq_some_iff.mp H
 obtain ⟨t273, A20, H⟩ := H
 replace H : (if t273 = true then ((impl_within.f l0_1 2 10000000).bind fun t274 => (if t274 = true then ((impl_in.f a0_2 (-10000000) 10000000).bind fun t275 => (some t275)) else (some false))) else (some false)) = some r := H
 have A2 := Aside0.mk A20
 clear A20
 by_cases c3 : t273 = true
 ·subst c3
  have H1 : ((impl_within.f l0_1 2 10000000).bind fun t274 => (if t274 = true then ((impl_in.f a0_2 (-10000000) 10000000).bind fun t275 => (some t275)) else (some false))) = some r := by rw [if_pos rfl] at H; exact H
  clear H
  have H := H1
  clear H1
  replace H := Option.bind_eq_some_iff.mp H
  obtain ⟨t274, A40, H⟩ := H
  replace H : (if t274 = true then ((impl_in.f a0_2 (-10000000) 10000000).bind fun t275 => (some t275)) else (some false)) = some r := H
  have A4 := Aside0.mk A40
  clear A40
  by_cases c5 : t274 = true
  ·subst c5
   have H1 : ((impl_in.f a0_2 (-10000000) 10000000).bind fun t275 => (some t275)) = some r := by rw [if_pos rfl] at H; exact H
   clear H
   have H := H1
   clear H1
   replace H := Option.bind_eq_some_iff.mp H
   obtain ⟨t275, A60, H⟩ := H
   replace H : (some t275) = some r := H
   have A6 := Aside0.mk A60
   clear A60
   obtain rfl := Option.some.inj H
   go_enter Try.func11, Try.ntmps11
   go_wp2_with (first | ((with_reducible refine gate_dst (N := 1) rfl ?_); refine box_event ?hg (N := 1) ?hd (cs := #[.slice A0_0 l0_0.length c0_0, .slice A0_1 l0_1.length c0_1, .int .i64 a0_2]) (t := 25) ?hr ?_; (case hd => rfl); (case hg => rfl); (case hr => first | (go_simp; done) | (go_simp; rfl)); intro gb272 hg w7 hbox hb; have BK272 := Aside0.mk (hbox); have GW272 := Aside0.mk ((by rw [hg]; exact (below_size (by exact lB HB.out)) : w.heap.size ≤ gb272)); have IGW272 : Nonempty _ := ⟨GW272.out⟩; have GE272 := Aside0.mk ((by rw [hg]; exact (below_size (by exact lB HB.out)) : w.heap.size ≤ gb272)); have IGE272 : Nonempty _ := ⟨GE272.out⟩; replace HB := Aside0.mk (below_step (by exact lB HB.out) hb); clear hb hbox hg; obtain ⟨hcz8_0, hcz8_1, hcz8_2, hfz8_0, hfz8_1, hfz8_2⟩ := cf3 BK272.out) | ((with_reducible refine gate_callee (f := 32) rfl ?_); refine goesL_ (some 5) rfl rfl Try.func32 (by kernel_rfl) rfl #[.slice A0_0 l0_0.length c0_0, .int .i64 3, .int .i64 10000000] rfl (by (try simp only [mA, mC, mN]); first | done | rfl | (simp only [ld, lt]; rfl)) ?_; (with_reducible refine (impl_within.calls _ _ l0_0 3 10000000 true _ ?side1 ?side2 A2.out).mono ?_); (case side1 => exact lC <| (Kd.C_below HR0_0.out HB.out)); (case side2 => exact HC0_0.out); rintro e w9 ⟨rfl, hb⟩; refine ⟨_, rfl, ?_⟩; replace BK272 := Aside0.mk (bb BK272.out hb); replace HB := Aside0.mk (below_step (by exact jB HB.out) hb); (try clear hb); (try clear hb2); (try clear hk); (try clear hi); obtain ⟨hcz10_0, hcz10_1, hcz10_2, hfz10_0, hfz10_1, hfz10_2⟩ := cf3 BK272.out) | (go_at_call 32; (with_reducible refine (impl_within.calls _ _ l0_1 2 10000000 true _ ?side1 ?side2 A4.out).mono ?_); (case side1 => exact lC <| (Kd.C_below HR0_1.out HB.out)); (case side2 => exact HC0_1.out); rintro e w11 ⟨rfl, hb⟩; replace BK272 := Aside0.mk (bb BK272.out hb); replace HB := Aside0.mk (below_step (by exact jB HB.out) hb); (try clear hb); (try clear hb2); (try clear hk); (try clear hi); obtain ⟨hcz12_0, hcz12_1, hcz12_2, hfz12_0, hfz12_1, hfz12_2⟩ := cf3 BK272.out) | (go_at_call 31; (with_reducible refine (impl_in.calls a0_2 (-10000000) 10000000 t275 _ A6.out).mono ?_); rintro e w' ⟨rfl, ⟨nd, rfl⟩⟩))
   go_ret
   exact ⟨by first | rfl | (simp [errW_none, errW_some] <;> rfl) | (simp [*, errW_none, errW_some] <;> rfl), by exact jB HB.out⟩
  ·replace c5 := Bool.eq_false_iff.mpr c5
   subst c5
   have H1 : (some false) = some r := by rw [if_neg (show ¬ (false = true) by decide)] at H; exact H
   clear H
   have H := H1
   clear H1
   obtain rfl := Option.some.inj H
   go_enter Try.func11, Try.ntmps11
   go_wp2_with (first | ((with_reducible refine gate_dst (N := 1) rfl ?_); refine box_event ?hg (N := 1) ?hd (cs := #[.slice A0_0 l0_0.length c0_0, .slice A0_1 l0_1.length c0_1, .int .i64 a0_2]) (t := 25) ?hr ?_; (case hd => rfl); (case hg => rfl); (case hr => first | (go_simp; done) | (go_simp; rfl)); intro gb272 hg w13 hbox hb; have BK272 := Aside0.mk (hbox); have GW272 := Aside0.mk ((by rw [hg]; exact (below_size (by exact lB HB.out)) : w.heap.size ≤ gb272)); have IGW272 : Nonempty _ := ⟨GW272.out⟩; have GE272 := Aside0.mk ((by rw [hg]; exact (below_size (by exact lB HB.out)) : w.heap.size ≤ gb272)); have IGE272 : Nonempty _ := ⟨GE272.out⟩; replace HB := Aside0.mk (below_step (by exact lB HB.out) hb); clear hb hbox hg; obtain ⟨hcz14_0, hcz14_1, hcz14_2, hfz14_0, hfz14_1, hfz14_2⟩ := cf3 BK272.out) | ((with_reducible refine gate_callee (f := 32) rfl ?_); refine goesL_ (some 5) rfl rfl Try.func32 (by kernel_rfl) rfl #[.slice A0_0 l0_0.length c0_0, .int .i64 3, .int .i64 10000000] rfl (by (try simp only [mA, mC, mN]); first | done | rfl | (simp only [ld, lt]; rfl)) ?_; (with_reducible refine (impl_within.calls _ _ l0_0 3 10000000 true _ ?side1 ?side2 A2.out).mono ?_); (case side1 => exact lC <| (Kd.C_below HR0_0.out HB.out)); (case side2 => exact HC0_0.out); rintro e w15 ⟨rfl, hb⟩; refine ⟨_, rfl, ?_⟩; replace BK272 := Aside0.mk (bb BK272.out hb); replace HB := Aside0.mk (below_step (by exact jB HB.out) hb); (try clear hb); (try clear hb2); (try clear hk); (try clear hi); obtain ⟨hcz16_0, hcz16_1, hcz16_2, hfz16_0, hfz16_1, hfz16_2⟩ := cf3 BK272.out) | (go_at_call 32; (with_reducible refine (impl_within.calls _ _ l0_1 2 10000000 false _ ?side1 ?side2 A4.out).mono ?_); (case side1 => exact lC <| (Kd.C_below HR0_1.out HB.out)); (case side2 => exact HC0_1.out); rintro e w17 ⟨rfl, hb⟩; replace BK272 := Aside0.mk (bb BK272.out hb); replace HB := Aside0.mk (below_step (by exact jB HB.out) hb); (try clear hb); (try clear hb2); (try clear hk); (try clear hi)))
   go_ret
   exact ⟨by first | rfl | (simp [errW_none, errW_some] <;> rfl) | (simp [*, errW_none, errW_some] <;> rfl), by exact jB HB.out⟩
 ·replace c3 := Bool.eq_false_iff.mpr c3
  subst c3
  have H1 : (some false) = some r := by rw [if_neg (show ¬ (false = true) by decide)] at H; exact H
  clear H
  have H := H1
  clear H1
  obtain rfl := Option.some.inj H
  go_enter Try.func11, Try.ntmps11
  go_wp2_with (first | ((with_reducible refine gate_dst (N := 1) rfl ?_); refine box_event ?hg (N := 1) ?hd (cs := #[.slice A0_0 l0_0.length c0_0, .slice A0_1 l0_1.length c0_1, .int .i64 a0_2]) (t := 25) ?hr ?_; (case hd => rfl); (case hg => rfl); (case hr => first | (go_simp; done) | (go_simp; rfl)); intro gb272 hg w18 hbox hb; have BK272 := Aside0.mk (hbox); have GW272 := Aside0.mk ((by rw [hg]; exact (below_size (by exact lB HB.out)) : w.heap.size ≤ gb272)); have IGW272 : Nonempty _ := ⟨GW272.out⟩; have GE272 := Aside0.mk ((by rw [hg]; exact (below_size (by exact lB HB.out)) : w.heap.size ≤ gb272)); have IGE272 : Nonempty _ := ⟨GE272.out⟩; replace HB := Aside0.mk (below_step (by exact lB HB.out) hb); clear hb hbox hg; obtain ⟨hcz19_0, hcz19_1, hcz19_2, hfz19_0, hfz19_1, hfz19_2⟩ := cf3 BK272.out) | ((with_reducible refine gate_callee (f := 32) rfl ?_); refine goesL_ (some 5) rfl rfl Try.func32 (by kernel_rfl) rfl #[.slice A0_0 l0_0.length c0_0, .int .i64 3, .int .i64 10000000] rfl (by (try simp only [mA, mC, mN]); first | done | rfl | (simp only [ld, lt]; rfl)) ?_; (with_reducible refine (impl_within.calls _ _ l0_0 3 10000000 false _ ?side1 ?side2 A2.out).mono ?_); (case side1 => exact lC <| (Kd.C_below HR0_0.out HB.out)); (case side2 => exact HC0_0.out); rintro e w20 ⟨rfl, hb⟩; refine ⟨_, rfl, ?_⟩; replace BK272 := Aside0.mk (bb BK272.out hb); replace HB := Aside0.mk (below_step (by exact jB HB.out) hb); (try clear hb); (try clear hb2); (try clear hk); (try clear hi)))
  go_ret
  exact ⟨by first | rfl | (simp [errW_none, errW_some] <;> rfl) | (simp [*, errW_none, errW_some] <;> rfl), by exact jB HB.out⟩

end Go.Proofs.Ytopbdoilpdpkmaa.QFnFrmTimes

-- shorter
