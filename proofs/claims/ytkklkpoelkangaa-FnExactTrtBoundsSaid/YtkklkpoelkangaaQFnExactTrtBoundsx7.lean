/- Plain functions, and that the Go code computes them: written by a program of this session over the seat's translation; the conditions stand in each theorem. -/
import Derived.Test.YtkklkpoelkangaaQFnExactTrtBoundsx0
import Derived.Test.YtkklkpoelkangaaQFnExactTrtBoundsx6
namespace Go.Proofs.Ytkklkpoelkangaa.QFnExactTrtBounds
open Go.RowKit Go.Proofs.YtkklkpoelkangaaW.PrintWords Go.Proofs.YtkklkpoelkangaaW.PrintLast Go.Proofs.YtkklkpoelkangaaW.PrintMore Go.Proofs.Ytkklkpoelkangaa.HWords
attribute [local go_sem] max2_int min2_int max_two min_two max_three min_three max_four min_four   -- for this text's walks alone
set_option linter.unusedVariables false
set_option linter.unusedSimpArgs false

/-! ### impl_TrtOthers: function 120 -/
def impl_TrtOthers.l0 : Nat → Int → Int → List Int → Int → Int → Option (Int)
  | 0, _, _, _, _, _ => none
  | k + 1, x1, x5, x9, x10, x11 => if x11 < x10 then (if 0 ≤ x11 then (if x11 < (x9.length : Int) then (if x11 = x1 then (impl_TrtOthers.l0 k x1 x5 x9 x10 (wrap64 (x11 + 1))) else (impl_TrtOthers.l0 k x1 (wrap64 (x5 + (rd x9 x11))) x9 x10 (wrap64 (x11 + 1)))) else (none)) else (none)) else (some x5)
def impl_TrtOthers.f (k : Nat) (l0_0 : List Int) (l0_1 : List Int) (a1 : Int) : Option (Int) := impl_TrtOthers.l0 k a1 0 l0_1 (l0_1.length : Int) 0
theorem impl_TrtOthers.mono_l : ∀ k, (∀ y0 y1 y2 y3 y4, LeO (impl_TrtOthers.l0 k y0 y1 y2 y3 y4) (impl_TrtOthers.l0 (k + 1) y0 y1 y2 y3 y4))
  | 0 => fun _ _ _ _ _ r h => by simp [impl_TrtOthers.l0] at h
  | k + 1 => by
    have ih0 := impl_TrtOthers.mono_l k
    · intro y0 y1 y2 y3 y4
      unfold impl_TrtOthers.l0
      repeat' first
      | (with_reducible exact ih0 _ _ _ _ _)
      | (with_reducible exact LeO.refl _)
      | (with_reducible exact LeO.none _)
      | (with_reducible refine LeO.ite ?_ ?_)
      | (with_reducible refine LeO.bind ?_ (fun _ => ?_))
      | exact ih0 _ _ _ _ _
      | exact LeO.none _
      | refine LeO.ite ?_ ?_
      | refine LeO.bind ?_ (fun _ => ?_)
theorem impl_TrtOthers.mono : ∀ a0 a1 a2 k, LeO (impl_TrtOthers.f k a0 a1 a2) (impl_TrtOthers.f (k + 1) a0 a1 a2) := by
  intro a0 a1 a2 k
  have ih0 := impl_TrtOthers.mono_l k
  unfold impl_TrtOthers.f
  repeat' first
      | (with_reducible exact ih0 _ _ _ _ _)
      | (with_reducible exact LeO.refl _)
      | (with_reducible exact LeO.none _)
      | (with_reducible refine LeO.ite ?_ ?_)
      | (with_reducible refine LeO.bind ?_ (fun _ => ?_))
      | exact ih0 _ _ _ _ _
      | exact LeO.none _
      | refine LeO.ite ?_ ?_
      | refine LeO.bind ?_ (fun _ => ?_)
set_option maxHeartbeats 8000000 in
set_option maxRecDepth 100000 in
theorem impl_TrtOthers.calls (k : Nat) (A0_0 : Option Addr) (c0_0 : Nat) (l0_0 : List Int) (A0_1 : Option Addr) (c0_1 : Nat) (l0_1 : List Int) (a1 : Int) (r : Int) (w : World) (hr0_0 : Kd.C (Kd.int .i64) w A0_0 l0_0.length l0_0) (hc0_0 : l0_0.length ≤ c0_0) (hr0_1 : Kd.C (Kd.int .i64) w A0_1 l0_1.length l0_1) (hc0_1 : l0_1.length ≤ c0_1) (h : impl_TrtOthers.f k l0_0 l0_1 a1 = some r) :
    Calls Try.prog 120 #[.agg #[.slice A0_0 l0_0.length c0_0, .slice A0_1 l0_1.length c0_1], .int .i64 a1] w fun e w' => e = .returned (.int .i64 r) ∧ Below w.heap.size w w' := by
  have hu46 := Try.underlying46
  have HR0_0 := Aside0.mk hr0_0
  have HC0_0 := Aside0.mk hc0_0
  clear hr0_0 hc0_0
  have HR0_1 := Aside0.mk hr0_1
  have HC0_1 := Aside0.mk hc0_1
  clear hr0_1 hc0_1
  have HB := Aside0.mk (Below.refl w.heap.size w)
  have H : (impl_TrtOthers.l0 k a1 0 l0_1 (l0_1.length : Int) 0) = some r := h
  clear h
  have H' := Aside0.mk H
  clear H
  go_enter Try.func120, Try.ntmps120
  go_wp2_with (first | ((with_reducible refine gate_dst (N := 2) rfl ?_); refine box_event ?hg (N := 2) ?hd (cs := #[.slice A0_0 l0_0.length c0_0, .slice A0_1 l0_1.length c0_1]) (t := 46) ?hr ?_; (case hd => rfl); (case hg => rfl); (case hr => first | (go_simp; done) | (go_simp; rfl)); intro gb274 hg w3 hbox hb; have n0_ := Aside0.mk (below_step (by repeat (first | (with_reducible first | exact HB.out | apply below_alloc | apply pw_below_drewN | apply below_drew1) | exact HB.out)) hb); have n1_ := Aside0.mk (hbox); have n2_ := Aside0.mk ((by rw [hg]; exact (below_size (by repeat (first | (with_reducible first | exact HB.out | apply below_alloc | apply pw_below_drewN | apply below_drew1) | exact HB.out))) : w.heap.size ≤ gb274)); have n3_ := Aside0.mk ((by rw [hg]; exact (below_size (by repeat (first | (with_reducible first | exact HB.out | apply below_alloc | apply pw_below_drewN | apply below_drew1) | exact HB.out))) : w.heap.size ≤ gb274)); clear HB; have HB := n0_; have BK274 := n1_; have GW274 := n2_; have GE274 := n3_; clear n0_ n1_ n2_ n3_; clear hb hbox hg; have hcz4_0 : w3.cell? ⟨gb274, 0, none⟩ = some (.slice A0_0 l0_0.length c0_0) := (blk_cell BK274.out 0).trans rfl; have hcz4_1 : w3.cell? ⟨gb274, 1, none⟩ = some (.slice A0_1 l0_1.length c0_1) := (blk_cell BK274.out 1).trans rfl; have hfz4_0 := blk_frozen BK274.out 0; have hfz4_1 := blk_frozen BK274.out 1))
  go_loopg [5, 11] k (fun kq v5 v11 w' => ∃ (x5_1 : Int) (x11_1 : Int), v5 = .int .i64 x5_1 ∧ v11 = .int .i64 x11_1 ∧ Aside0 (impl_TrtOthers.l0 kq a1 x5_1 l0_1 (l0_1.length : Int) x11_1 = some r) ∧ Aside0 (kq ≤ k) ∧ Aside0 (w'.heap[gb274]? = some (.cells #[(.slice A0_0 l0_0.length c0_0), (.slice A0_1 l0_1.length c0_1)] 46 (0, 0))) ∧ Aside0 (Below w.heap.size w w'))
  case atStart => exact ⟨(0), (0), (by first | rfl | (simp; done) | (simp [*]; done)), (by first | rfl | (simp; done) | (simp [*]; done)), H', ⟨Nat.le_refl _⟩, ⟨by (with_reducible repeat (first | refine blk_drewN ?_ _ | refine blk_drew ?_ | refine blk_alloc ?_ _)); exact BK274.out⟩, ⟨by repeat (first | (with_reducible first | exact HB.out | apply below_alloc | apply pw_below_drewN | apply below_drew1 | refine below_set ?_ GE274.out) | exact HB.out)⟩⟩
  case round =>
    clear H'
    try clear c1
    try clear p2
    try clear hcz4_0
    try clear hcz4_1
    try clear hfz4_0
    try clear hfz4_1
    obtain ⟨x5_1, x11_1, rfl, rfl, HA, HK1, BK274, HB⟩ := hrel
    cases gk with
    | zero => exact absurd HA.out (by simp [impl_TrtOthers.l0])
    | succ k1 =>
      have H := HA.out
      clear HA
      simp only [impl_TrtOthers.l0] at H
      by_cases c5 : x11_1 < (l0_1.length : Int)
      · rw [if_pos c5] at H
        have c5b0 : decide (x11_1 < (l0_1.length : Int)) = true := decide_eq_true c5
        clear c5
        by_cases c6 : 0 ≤ x11_1
        · rw [if_pos c6] at H
          have c6b0 : decide (0 ≤ x11_1) = true := decide_eq_true c6
          clear c6
          by_cases c7 : x11_1 < (l0_1.length : Int)
          · rw [if_pos c7] at H
            have c7b0 : decide (x11_1 < (l0_1.length : Int)) = true := decide_eq_true c7
            clear c7
            by_cases c8 : x11_1 = a1
            · rw [if_pos c8] at H
              have c8b0 : (x11_1 == a1) = true := beq_iff_eq.mpr c8
              have c8b1 : (x11_1 != a1) = false := bne_eq_false_iff_eq.mpr c8
              clear c8
              have H' := Aside0.mk H
              clear H
              have p275 : 0 ≤ (x11_1 : Int) := of_decide_eq_true (by first | (with_reducible assumption) | assumption)
              have q275 : x11_1 < (l0_1.length : Int) := of_decide_eq_true (by first | (with_reducible assumption) | assumption)
              obtain ⟨ad275, e275, hx275_0⟩ := Kd.at_int HR0_1.out x11_1 p275 q275
              cases e275
              replace hx275_0 := (HB.out.cell (World.block_lt_of_cell? w _ hx275_0)).trans hx275_0
              replace p275 := eq_true p275
              replace q275 := eq_true q275
              go_wp2
              go_roundg k1
              case measure => have := HK1.out; omega
              case rel => exact ⟨(x5_1), (wrap64 (x11_1 + 1)), (by first | rfl | (simp; done) | (simp [*]; done)), (by first | rfl | (simp; done) | (simp [*]; done)), H', ⟨by have := HK1.out; omega⟩, ⟨by (with_reducible repeat (first | refine blk_drewN ?_ _ | refine blk_drew ?_ | refine blk_alloc ?_ _)); exact BK274.out⟩, ⟨by repeat (first | (with_reducible first | exact HB.out | apply below_alloc | apply pw_below_drewN | apply below_drew1 | refine below_set ?_ GE274.out) | exact HB.out)⟩⟩
            · rw [if_neg c8] at H
              have c8b0 : (x11_1 == a1) = false := beq_eq_false_iff_ne.mpr c8
              have c8b1 : (x11_1 != a1) = true := bne_iff_ne.mpr c8
              have H' := Aside0.mk H
              clear H
              have p275 : 0 ≤ (x11_1 : Int) := of_decide_eq_true (by first | (with_reducible assumption) | assumption)
              have q275 : x11_1 < (l0_1.length : Int) := of_decide_eq_true (by first | (with_reducible assumption) | assumption)
              obtain ⟨ad275, e275, hx275_0⟩ := Kd.at_int HR0_1.out x11_1 p275 q275
              cases e275
              replace hx275_0 := (HB.out.cell (World.block_lt_of_cell? w _ hx275_0)).trans hx275_0
              replace p275 := eq_true p275
              replace q275 := eq_true q275
              go_wp2
              go_roundg k1
              case measure => have := HK1.out; omega
              case rel => exact ⟨(wrap64 (x5_1 + (rd l0_1 x11_1))), (wrap64 (x11_1 + 1)), (by first | rfl | (simp; done) | (simp [*]; done)), (by first | rfl | (simp; done) | (simp [*]; done)), H', ⟨by have := HK1.out; omega⟩, ⟨by (with_reducible repeat (first | refine blk_drewN ?_ _ | refine blk_drew ?_ | refine blk_alloc ?_ _)); exact BK274.out⟩, ⟨by repeat (first | (with_reducible first | exact HB.out | apply below_alloc | apply pw_below_drewN | apply below_drew1 | refine below_set ?_ GE274.out) | exact HB.out)⟩⟩
          · rw [if_neg c7] at H
            exact absurd H (by simp)
        · rw [if_neg c6] at H
          exact absurd H (by simp)
      · rw [if_neg c5] at H
        have c5b0 : decide (x11_1 < (l0_1.length : Int)) = false := decide_eq_false c5
        clear c5
        obtain rfl := Option.some.inj H
        go_wp2
        go_ret
        exact ⟨by first | rfl | (simp [errW_none, errW_some] <;> rfl) | (simp [*, errW_none, errW_some] <;> rfl), by repeat (first | (with_reducible first | exact HB.out | apply below_alloc | apply pw_below_drewN | apply below_drew1 | refine below_set ?_ GE274.out) | exact HB.out)⟩

-- NOT PRINTED: function 141 (impl_zeros_1)

/-! ### impl_zeros: function 121, by hand -/
set_option maxHeartbeats 1000000 in
theorem zeros_pred (W : World) (x : Int) : Calls Try.prog 141 (#[.int .i64 x] ++ #[]) W fun e w' => e = .returned (.bool (x != 0)) ∧ Below W.heap.size W w' := by
  show Calls Try.prog 141 #[.int .i64 x] W _
  go_enter Try.func141, Try.ntmps141
  go_wp2
  go_ret
  exact ⟨rfl, Below.refl _ _⟩
def impl_zeros.f (l0 : List Int) : Option (Bool) := some (!(l0.any fun x => x != 0))
set_option maxHeartbeats 8000000 in
set_option maxRecDepth 100000 in
theorem impl_zeros.calls (A0 : Option Addr) (c0 : Nat) (l0 : List Int) (r : Bool) (w : World) (hr0 : Kd.C (Kd.int .i64) w A0 l0.length l0) (hc0 : l0.length ≤ c0) (h : impl_zeros.f l0 = some r) :
    Calls Try.prog 121 #[.slice A0 l0.length c0] w fun e w' => e = .returned (.bool r) ∧ Below w.heap.size w w' := by
  obtain rfl := Option.some.inj h
  clear h
  have eg : ∀ args w, (callFunc 141 args).run Try.prog w = .ok (.enter 141 args) w := enters_of Try.func141 (by kernel_rfl) rfl
  have HC := Aside0.mk (has_ints (fun x => x != 0) 141 #[] eg A0 c0 l0 w hr0 (fun x _ W _ => zeros_pred W x))
  clear hr0
  generalize l0.any (fun x => x != 0) = b at HC ⊢
  go_enter Try.func121, Try.ntmps121
  go_wp2_with (go_at_call 134; refine HC.out.mono ?_; rintro e w' ⟨rfl, hb⟩)
  go_ret
  exact ⟨rfl, hb⟩

/-! ### slices_Equal_int_int: function 143 -/
def slices_Equal_int_int.l0 : Nat → List Int → List Int → Int → Int → Option (Bool)
  | 0, _, _, _, _ => none
  | k + 1, x0, x1, x12, x13 => if x13 < x12 then (if 0 ≤ x13 then (if x13 < (x0.length : Int) then (if x13 < (x1.length : Int) then (if (rd x0 x13) = (rd x1 x13) then (slices_Equal_int_int.l0 k x0 x1 x12 (wrap64 (x13 + 1))) else (some false)) else (none)) else (none)) else (none)) else (some true)
def slices_Equal_int_int.f (k : Nat) (l0 : List Int) (l1 : List Int) : Option (Bool) := if (l0.length : Int) = (l1.length : Int) then (slices_Equal_int_int.l0 k l0 l1 (l0.length : Int) 0) else (some false)
theorem slices_Equal_int_int.mono_l : ∀ k, (∀ y0 y1 y2 y3, LeO (slices_Equal_int_int.l0 k y0 y1 y2 y3) (slices_Equal_int_int.l0 (k + 1) y0 y1 y2 y3))
  | 0 => fun _ _ _ _ r h => by simp [slices_Equal_int_int.l0] at h
  | k + 1 => by
    have ih0 := slices_Equal_int_int.mono_l k
    · intro y0 y1 y2 y3
      unfold slices_Equal_int_int.l0
      repeat' first
      | (with_reducible exact ih0 _ _ _ _)
      | (with_reducible exact LeO.refl _)
      | (with_reducible exact LeO.none _)
      | (with_reducible refine LeO.ite ?_ ?_)
      | (with_reducible refine LeO.bind ?_ (fun _ => ?_))
      | exact ih0 _ _ _ _
      | exact LeO.none _
      | refine LeO.ite ?_ ?_
      | refine LeO.bind ?_ (fun _ => ?_)
theorem slices_Equal_int_int.mono : ∀ a0 a1 k, LeO (slices_Equal_int_int.f k a0 a1) (slices_Equal_int_int.f (k + 1) a0 a1) := by
  intro a0 a1 k
  have ih0 := slices_Equal_int_int.mono_l k
  unfold slices_Equal_int_int.f
  repeat' first
      | (with_reducible exact ih0 _ _ _ _)
      | (with_reducible exact LeO.refl _)
      | (with_reducible exact LeO.none _)
      | (with_reducible refine LeO.ite ?_ ?_)
      | (with_reducible refine LeO.bind ?_ (fun _ => ?_))
      | exact ih0 _ _ _ _
      | exact LeO.none _
      | refine LeO.ite ?_ ?_
      | refine LeO.bind ?_ (fun _ => ?_)
set_option maxHeartbeats 8000000 in
set_option maxRecDepth 100000 in
theorem slices_Equal_int_int.calls (k : Nat) (A0 : Option Addr) (c0 : Nat) (l0 : List Int) (A1 : Option Addr) (c1 : Nat) (l1 : List Int) (r : Bool) (w : World) (hr0 : Kd.C (Kd.int .i64) w A0 l0.length l0) (hc0 : l0.length ≤ c0) (hr1 : Kd.C (Kd.int .i64) w A1 l1.length l1) (hc1 : l1.length ≤ c1) (h : slices_Equal_int_int.f k l0 l1 = some r) :
    Calls Try.prog 143 #[.slice A0 l0.length c0, .slice A1 l1.length c1] w fun e w' => e = .returned (.bool r) ∧ Drawn0 w w' := by
  have HR0 := Aside0.mk hr0
  have HC0 := Aside0.mk hc0
  clear hr0 hc0
  have HR1 := Aside0.mk hr1
  have HC1 := Aside0.mk hc1
  clear hr1 hc1
  have H : (if (l0.length : Int) = (l1.length : Int) then (slices_Equal_int_int.l0 k l0 l1 (l0.length : Int) 0) else (some false)) = some r := h
  clear h
  by_cases c3 : (l0.length : Int) = (l1.length : Int)
  · rw [if_pos c3] at H
    have c3b0 : ((l0.length : Int) == (l1.length : Int)) = true := beq_iff_eq.mpr c3
    have c3b1 : ((l0.length : Int) != (l1.length : Int)) = false := bne_eq_false_iff_eq.mpr c3
    have c3b2 : (l0.length == l1.length) = true := by first | simpa using c3 | (simp at c3 ⊢; omega)
    clear c3
    have H' := Aside0.mk H
    clear H
    go_enter Try.func143, Try.ntmps143
    go_wp2
    repeat (go_quiet (fail); try go_wp2)
    go_loopg [13] k (fun kq v13 w' => ∃ (x13_1 : Int), v13 = .int .i64 x13_1 ∧ Aside0 (slices_Equal_int_int.l0 kq l0 l1 (l0.length : Int) x13_1 = some r) ∧ Aside0 (kq ≤ k) ∧ Drawn0 w w')
    case atStart => exact ⟨(0), (by first | rfl | (simp; done) | (simp [*]; done)), H', ⟨Nat.le_refl _⟩, by repeat (first | exact Drawn0.refl _ | apply Drawn0.step)⟩
    case round =>
      clear H'
      try clear c1
      try clear p2
      try clear c3
      try clear c3b0
      try clear c3b1
      try clear c3b2
      obtain ⟨x13_1, rfl, HA, HK1, ⟨m1, rfl⟩⟩ := hrel
      cases gk with
      | zero => exact absurd HA.out (by simp [slices_Equal_int_int.l0])
      | succ k1 =>
        have H := HA.out
        clear HA
        simp only [slices_Equal_int_int.l0] at H
        by_cases c4 : x13_1 < (l0.length : Int)
        · rw [if_pos c4] at H
          have c4b0 : decide (x13_1 < (l0.length : Int)) = true := decide_eq_true c4
          clear c4
          by_cases c5 : 0 ≤ x13_1
          · rw [if_pos c5] at H
            have c5b0 : decide (0 ≤ x13_1) = true := decide_eq_true c5
            clear c5
            by_cases c6 : x13_1 < (l0.length : Int)
            · rw [if_pos c6] at H
              have c6b0 : decide (x13_1 < (l0.length : Int)) = true := decide_eq_true c6
              clear c6
              by_cases c7 : x13_1 < (l1.length : Int)
              · rw [if_pos c7] at H
                have c7b0 : decide (x13_1 < (l1.length : Int)) = true := decide_eq_true c7
                clear c7
                by_cases c8 : (rd l0 x13_1) = (rd l1 x13_1)
                · rw [if_pos c8] at H
                  have c8b0 : ((rd l0 x13_1) == (rd l1 x13_1)) = true := beq_iff_eq.mpr c8
                  have c8b1 : ((rd l0 x13_1) != (rd l1 x13_1)) = false := bne_eq_false_iff_eq.mpr c8
                  clear c8
                  have H' := Aside0.mk H
                  clear H
                  have p276 : 0 ≤ (x13_1 : Int) := of_decide_eq_true (by first | (with_reducible assumption) | assumption)
                  have q276 : x13_1 < (l0.length : Int) := of_decide_eq_true (by first | (with_reducible assumption) | assumption)
                  obtain ⟨ad276, e276, hx276_0⟩ := Kd.at_int HR0.out x13_1 p276 q276
                  cases e276
                  replace p276 := eq_true p276
                  replace q276 := eq_true q276
                  have p277 : 0 ≤ (x13_1 : Int) := of_decide_eq_true (by first | (with_reducible assumption) | assumption)
                  have q277 : x13_1 < (l1.length : Int) := of_decide_eq_true (by first | (with_reducible assumption) | assumption)
                  obtain ⟨ad277, e277, hx277_0⟩ := Kd.at_int HR1.out x13_1 p277 q277
                  cases e277
                  replace p277 := eq_true p277
                  replace q277 := eq_true q277
                  go_wp2
                  repeat (go_quiet (fail); try go_wp2)
                  go_roundg k1
                  case measure => have := HK1.out; omega
                  case rel => exact ⟨(wrap64 (x13_1 + 1)), (by first | rfl | (simp; done) | (simp [*]; done)), H', ⟨by have := HK1.out; omega⟩, by repeat (first | exact Drawn0.refl _ | apply Drawn0.step)⟩
                · rw [if_neg c8] at H
                  have c8b0 : ((rd l0 x13_1) == (rd l1 x13_1)) = false := beq_eq_false_iff_ne.mpr c8
                  have c8b1 : ((rd l0 x13_1) != (rd l1 x13_1)) = true := bne_iff_ne.mpr c8
                  obtain rfl := Option.some.inj H
                  have p276 : 0 ≤ (x13_1 : Int) := of_decide_eq_true (by first | (with_reducible assumption) | assumption)
                  have q276 : x13_1 < (l0.length : Int) := of_decide_eq_true (by first | (with_reducible assumption) | assumption)
                  obtain ⟨ad276, e276, hx276_0⟩ := Kd.at_int HR0.out x13_1 p276 q276
                  cases e276
                  replace p276 := eq_true p276
                  replace q276 := eq_true q276
                  have p277 : 0 ≤ (x13_1 : Int) := of_decide_eq_true (by first | (with_reducible assumption) | assumption)
                  have q277 : x13_1 < (l1.length : Int) := of_decide_eq_true (by first | (with_reducible assumption) | assumption)
                  obtain ⟨ad277, e277, hx277_0⟩ := Kd.at_int HR1.out x13_1 p277 q277
                  cases e277
                  replace p277 := eq_true p277
                  replace q277 := eq_true q277
                  go_wp2
                  repeat (go_quiet (fail); try go_wp2)
                  go_ret
                  exact ⟨by first | rfl | (simp; done) | (simp [*]; done), by repeat (first | exact Drawn0.refl _ | apply Drawn0.step)⟩
              · rw [if_neg c7] at H
                exact absurd H (by simp)
            · rw [if_neg c6] at H
              exact absurd H (by simp)
          · rw [if_neg c5] at H
            exact absurd H (by simp)
        · rw [if_neg c4] at H
          have c4b0 : decide (x13_1 < (l0.length : Int)) = false := decide_eq_false c4
          clear c4
          obtain rfl := Option.some.inj H
          go_wp2
          repeat (go_quiet (fail); try go_wp2)
          go_ret
          exact ⟨by first | rfl | (simp; done) | (simp [*]; done), by repeat (first | exact Drawn0.refl _ | apply Drawn0.step)⟩
  · rw [if_neg c3] at H
    have c3b0 : ((l0.length : Int) == (l1.length : Int)) = false := beq_eq_false_iff_ne.mpr c3
    have c3b1 : ((l0.length : Int) != (l1.length : Int)) = true := bne_iff_ne.mpr c3
    have c3b2 : (l0.length == l1.length) = false := by first | simpa using c3 | (simp at c3 ⊢; omega)
    obtain rfl := Option.some.inj H
    go_enter Try.func143, Try.ntmps143
    go_wp2
    repeat (go_quiet (fail); try go_wp2)
    go_ret
    exact ⟨by first | rfl | (simp; done) | (simp [*]; done), by repeat (first | exact Drawn0.refl _ | apply Drawn0.step)⟩

-- NOT PRINTED: function 142 (impl_CatHas_1)

/-! ### impl_CatHas: function 122, by hand -/
theorem rd_nat (l : List Int) (i : Nat) (h : i < l.length) : rd l (i : Int) = l[i] := by
  unfold rd
  rw [show ((i : Int)).toNat = i from by omega, List.getD_eq_getElem?_getD, List.getElem?_eq_getElem h]
  rfl
theorem equal_loop (x y : List Int) (hl : x.length = y.length) (hm : x.length ≤ 9223372036854775807) (d : Nat) : ∀ (k i : Nat), i + d = x.length → d < k → (x.take i = y.take i) →
    slices_Equal_int_int.l0 k x y (x.length : Int) (i : Int) = some (decide (x = y)) := by
  induction d with
  | zero =>
    intro k i hi hk he
    obtain ⟨k, rfl⟩ : ∃ m, k = m + 1 := ⟨k - 1, by omega⟩
    simp only [slices_Equal_int_int.l0]
    rw [if_neg (by omega)]
    rw [List.take_of_length_le (by omega), List.take_of_length_le (by omega)] at he
    rw [decide_eq_true he]
  | succ d ih =>
    intro k i hi hk he
    obtain ⟨k, rfl⟩ : ∃ m, k = m + 1 := ⟨k - 1, by omega⟩
    have h1 : i < x.length := by omega
    have h2 : i < y.length := by omega
    simp only [slices_Equal_int_int.l0]
    rw [if_pos (by omega), if_pos (by omega), if_pos (by omega), if_pos (by omega), rd_nat x i h1, rd_nat y i h2]
    by_cases hq : x[i] = y[i]
    · rw [if_pos hq, show wrap64 ((i : Int) + 1) = ((i + 1 : Nat) : Int) from by unfold wrap64; omega]
      exact ih k (i + 1) (by omega) (by omega) (by rw [List.take_succ_eq_append_getElem h1, List.take_succ_eq_append_getElem h2, he, hq])
    · rw [if_neg hq, decide_eq_false (fun e => hq (by subst e; rfl))]
theorem equal_eq (x y : List Int) (hm : x.length ≤ 9223372036854775807) : slices_Equal_int_int.f (x.length + 1) x y = some (decide (x = y)) := by
  unfold slices_Equal_int_int.f
  by_cases h : x.length = y.length
  · rw [if_pos (by omega)]
    exact equal_loop x y h hm x.length (x.length + 1) 0 (by omega) (by omega) rfl
  · rw [if_neg (by omega), decide_eq_false (fun e => h (by rw [e]))]
set_option maxHeartbeats 1000000 in
theorem cathas_pred (B1 : Nat) (A3 : Option Addr) (c3 : Nat) (l3 : List Int) (hc3 : l3.length ≤ c3) (W : World) (A : Option Addr) (c : Nat) (x : List Int) (hc : x.length ≤ c) (hr : Kd.C (Kd.int .i64) W A x.length x)
    (hr3 : Kd.C (Kd.int .i64) W A3 l3.length l3) (hb1 : W.cell? ⟨B1, 0, none⟩ = some (.slice A3 l3.length c3)) :
    Calls Try.prog 142 (#[.slice A x.length c] ++ #[.pointer (some ⟨B1, 0, none⟩)]) W fun e w' => e = .returned (.bool (decide (x = l3))) ∧ Below W.heap.size W w' := by
  show Calls Try.prog 142 #[.slice A x.length c, .pointer (some ⟨B1, 0, none⟩)] W _
  have HD := Aside0.mk (slices_Equal_int_int.calls (x.length + 1) A c x A3 c3 l3 _ W hr hc hr3 hc3 (equal_eq x l3 (Kd.C_max hr)))
  clear hr hr3 hc hc3
  generalize decide (x = l3) = b at HD ⊢
  go_enter Try.func142, Try.ntmps142
  go_wp2_with (go_at_call 143; refine HD.out.mono ?_; rintro e w' ⟨rfl, hd⟩)
  go_ret
  exact ⟨rfl, hd.below⟩
def impl_CatHas.f (l0 : List (List Int)) (l1 : List Int) : Option (Int) := some (idxOf (fun x => decide (x = l1)) l0)
set_option maxHeartbeats 8000000 in
set_option maxRecDepth 100000 in
theorem impl_CatHas.calls (A0 : Option Addr) (c0 : Nat) (l0 : List (List Int)) (A1 : Option Addr) (c1 : Nat) (l1 : List Int) (r : Int) (w : World) (hr0 : Kd.C (Kd.slice 3 (Kd.int .i64)) w A0 l0.length l0) (hc0 : l0.length ≤ c0) (hr1 : Kd.C (Kd.int .i64) w A1 l1.length l1) (hc1 : l1.length ≤ c1) (h : impl_CatHas.f l0 l1 = some r) :
    Calls Try.prog 122 #[.slice A0 l0.length c0, .slice A1 l1.length c1] w fun e w' => e = .returned (.int .i64 r) ∧ Below w.heap.size w w' := by
  obtain rfl := Option.some.inj h
  clear h
  have eg : ∀ args w, (callFunc 142 args).run Try.prog w = .ok (.enter 142 args) w := enters_of Try.func142 (by kernel_rfl) rfl
  have HC := Aside0.mk (idx_rows (fun x => decide (x = l1)) 142 #[.pointer (some ⟨w.heap.size, 0, none⟩)] eg A0 c0 l0 (w.alloc (.cells #[.slice A1 l1.length c1] 22)) (Kd.C_alloc hr0 _)
    (fun x _ W A c hb hl hi => cathas_pred w.heap.size A1 c1 l1 hc1 W A c x hl hi (Kd.C_below (Kd.C_alloc hr1 _) hb) ((hb.cell (p := ⟨w.heap.size, 0, none⟩) (by simp)).trans (by simp))))
  clear hr0 hr1
  generalize idxOf (fun x => decide (x = l1)) l0 = n at HC ⊢
  go_enter Try.func122, Try.ntmps122
  go_wp2_with (go_at_call 132; refine HC.out.mono ?_; rintro e w' ⟨rfl, hb⟩)
  go_ret
  exact ⟨rfl, below_then (below_alloc (Below.refl _ _) _) (by simp) hb⟩

-- NOT PRINTED: function 145 (impl_CatPart_1)

/-! ### impl_CatPart: function 123, by hand -/
theorem idxOf_lt {α : Type} (q : α → Bool) (xs : List α) : idxOf q xs < (xs.length : Int) := by
  unfold idxOf
  cases h : xs.findIdx? q with
  | none => simp only; omega
  | some i =>
    rw [List.findIdx?_eq_some_iff_getElem] at h
    obtain ⟨hl, _, _⟩ := h
    simp only; omega
theorem neg_step (f : Int → Int) (C : List Int) (x : Int) (h0 : 0 ≤ x) (h1 : x < (C.length : Int)) :
    ((C.map f).take x.toNat ++ C.drop x.toNat).set x.toNat (f (rd ((C.map f).take x.toNat ++ C.drop x.toNat) x)) = (C.map f).take (x + 1).toNat ++ C.drop (x + 1).toNat := by
  have hl : x.toNat < C.length := by omega
  have hm : x.toNat < (C.map f).length := by rw [List.length_map]; exact hl
  have hr : rd ((C.map f).take x.toNat ++ C.drop x.toNat) x = C[x.toNat] := by
    unfold rd
    rw [List.getD_eq_getElem?_getD, List.getElem?_append_right (by rw [List.length_take]; omega), List.length_take, Nat.min_eq_left (by omega), Nat.sub_self, List.drop_eq_getElem_cons hl]
    rfl
  rw [hr, List.set_append_right _ _ (by rw [List.length_take]; omega), List.length_take, Nat.min_eq_left (by omega), Nat.sub_self, List.drop_eq_getElem_cons hl, List.set_cons_zero,
    show (x + 1).toNat = x.toNat + 1 from by omega, List.take_succ_eq_append_getElem hm, List.getElem_map, List.append_assoc]
  rfl
set_option maxHeartbeats 1000000 in
theorem catpart_pred (W : World) (x : Int) : Calls Try.prog 145 (#[.int .i64 x] ++ #[]) W fun e w' => e = .returned (.bool (x != 0)) ∧ Below W.heap.size W w' := by
  show Calls Try.prog 145 #[.int .i64 x] W _
  go_enter Try.func145, Try.ntmps145
  go_wp2
  go_ret
  exact ⟨by first | rfl | simp [bne], Below.refl _ _⟩
def impl_CatPart.f (l0_0 : List Int) (l0_1 : List Int) (a0_2 : Int) : Option (List Int) := if l0_0.length ≤ 17592186044415 then some (if 0 ≤ idxOf (fun x : Int => x != 0) l0_0 ∧ rd l0_0 (idxOf (fun x : Int => x != 0) l0_0) < 0 then l0_0.map (fun x => wrap64 (-x)) else l0_0) else none
set_option maxHeartbeats 8000000 in
set_option maxRecDepth 100000 in
theorem impl_CatPart.calls (A0_0 : Option Addr) (c0_0 : Nat) (l0_0 : List Int) (A0_1 : Option Addr) (c0_1 : Nat) (l0_1 : List Int) (a0_2 : Int) (r : List Int) (w : World) (hr0_0 : Kd.C (Kd.int .i64) w A0_0 l0_0.length l0_0) (hc0_0 : l0_0.length ≤ c0_0) (hr0_1 : Kd.C (Kd.int .i64) w A0_1 l0_1.length l0_1) (hc0_1 : l0_1.length ≤ c0_1) (h : impl_CatPart.f l0_0 l0_1 a0_2 = some r) :
    Calls Try.prog 123 #[.agg #[.slice A0_0 l0_0.length c0_0, .slice A0_1 l0_1.length c0_1, .int .i64 a0_2]] w fun e w' => ∃ v0_ : Value, e = .returned (v0_) ∧ Kd.R (Kd.int .i64) 3 w' w.heap.size (fun _ => True) v0_ r ∧ Below w.heap.size w w' := by
  unfold impl_CatPart.f at h
  by_cases hL : l0_0.length ≤ 17592186044415
  case neg => rw [if_neg hL] at h; exact absurd h (by simp)
  case pos =>
    rw [if_pos hL] at h
    have h := Option.some.inj h
    have eg : ∀ args w, (callFunc 145 args).run Try.prog w = .ok (.enter 145 args) w := enters_of Try.func145 (by kernel_rfl) rfl
    have HCl := Aside0.mk (fun (W : World) (hb : Below w.heap.size w W) => slices_Clone_int_int.calls A0_0 c0_0 l0_0 l0_0 W (Kd.C_below hr0_0 hb) hc0_0 (by unfold slices_Clone_int_int.f; rw [if_pos hL]))
    have HI := Aside0.mk (fun (A : Option Addr) (c : Nat) (W : World) (hr : Kd.C (Kd.int .i64) W A l0_0.length l0_0) => idx_ints (fun x : Int => x != 0) 145 #[] eg A c l0_0 W hr (fun x _ V _ => catpart_pred V x))
    have HB0 := Aside0.mk (below_alloc (Below.refl w.heap.size w) (.cells #[.slice A0_0 l0_0.length c0_0, .slice A0_1 l0_1.length c0_1, .int .i64 a0_2] 26))
    have hlt := idxOf_lt (fun x : Int => x != 0) l0_0
    have hmx := Kd.C_max hr0_0
    clear hr0_0 hr0_1 hL eg
    generalize idxOf (fun x : Int => x != 0) l0_0 = n at h HI hlt
    by_cases h0 : 0 ≤ n
    case neg =>
      rw [if_neg (fun hh => h0 hh.1)] at h
      subst h
      have hge : decide (0 ≤ n) = false := decide_eq_false h0
      clear hlt
      go_enter Try.func123, Try.ntmps123
      go_wp2_with (first
        | (go_at_call 126; refine (HCl.out _ HB0.out).mono ?_; rintro e w2 ⟨v8, rfl, ho, hb⟩; obtain ⟨AC, cC, rfl⟩ := Kd.R_slice ho; obtain ⟨AR, cR, eR, lR, gR⟩ := Kd.R_reads ho; injection eR with ea en ec; subst ea ec; have HG := Aside0.mk gR; have HO := Aside0.mk (Kd.R_lower ho HB0.out.size); have HB := Aside0.mk (below_then HB0.out HB0.out.size hb); clear ho hb gR lR en)
        | (go_at_call 144; refine (HI.out AC cC _ HG.out).mono ?_; rintro e w3 ⟨rfl, hb⟩; have n1 := Aside0.mk (Kd.R_below HO.out hb); have n2 := Aside0.mk (below_then HB.out HB.out.size hb); clear HO HB HG hb; have HO := n1; have HB := n2; clear n1 n2))
      go_ret
      exact ⟨_, rfl, HO.out, HB.out⟩
    case pos =>
      by_cases h1 : rd l0_0 n < 0
      case neg =>
        rw [if_neg (fun hh => h1 hh.2)] at h
        subst h
        go_enter Try.func123, Try.ntmps123
        go_wp2_with (first
          | (go_at_call 126; refine (HCl.out _ HB0.out).mono ?_; rintro e w2 ⟨v8, rfl, ho, hb⟩; obtain ⟨AC, cC, rfl⟩ := Kd.R_slice ho; obtain ⟨AR, cR, eR, lR, gR⟩ := Kd.R_reads ho; injection eR with ea en ec; subst ea ec; have HG := Aside0.mk gR; have HO := Aside0.mk (Kd.R_lower ho HB0.out.size); have HB := Aside0.mk (below_then HB0.out HB0.out.size hb); clear ho hb gR lR en)
          | (go_at_call 144; refine (HI.out AC cC _ HG.out).mono ?_; rintro e w3 ⟨rfl, hb⟩; have n1 := Aside0.mk (Kd.R_below HO.out hb); have n2 := Aside0.mk (below_then HB.out HB.out.size hb); clear HO HB HG hb; have HO := n1; have HB := n2; clear n1 n2; obtain ⟨g9, co9, e9, gb9, gl9, cl9, HG9⟩ := Kd.R_form HO.out (by omega); injection e9 with ea en ec; subst ea; obtain ⟨hy, hz⟩ := Kd.R_celln 0 HO.out n h0 hlt; have hy' : w3.cell? ⟨g9, n.toNat, none⟩ = some (.int .i64 (rd l0_0 n)) := hy; clear HG9 gb9 gl9 ec en hy))
        go_ret
        exact ⟨_, rfl, HO.out, HB.out⟩
      case pos =>
        rw [if_pos ⟨h0, h1⟩] at h
        subst h
        go_enter Try.func123, Try.ntmps123
        go_wp2_with (first
          | (go_at_call 126; refine (HCl.out _ HB0.out).mono ?_; rintro e w2 ⟨v8, rfl, ho, hb⟩; obtain ⟨AC, cC, rfl⟩ := Kd.R_slice ho; obtain ⟨AR, cR, eR, lR, gR⟩ := Kd.R_reads ho; injection eR with ea en ec; subst ea ec; have HG := Aside0.mk gR; have HO := Aside0.mk (Kd.R_lower ho HB0.out.size); have HB := Aside0.mk (below_then HB0.out HB0.out.size hb); clear ho hb gR lR en)
          | (go_at_call 144; refine (HI.out AC cC _ HG.out).mono ?_; rintro e w3 ⟨rfl, hb⟩; have n1 := Aside0.mk (Kd.R_below HO.out hb); have n2 := Aside0.mk (below_then HB.out HB.out.size hb); clear HO HB HG hb; have HO := n1; have HB := n2; clear n1 n2; obtain ⟨g9, co9, e9, gb9, gl9, cl9, HG9⟩ := Kd.R_form HO.out (by omega); injection e9 with ea en ec; subst ea; obtain ⟨hy, hz⟩ := Kd.R_celln 0 HO.out n h0 hlt; have hy' : w3.cell? ⟨g9, n.toNat, none⟩ = some (.int .i64 (rd l0_0 n)) := hy; clear HG9 gb9 gl9 ec en hy))
        clear hy' h1
        go_loopg [22] l0_0.length (fun gg v22 wr => ∃ (xi : List Int) (x : Int), v22 = .int .i64 x ∧ Aside0 (0 ≤ x ∧ x ≤ l0_0.length ∧ (l0_0.length : Int) - x ≤ gg) ∧ Aside0 (xi = (l0_0.map (fun x => wrap64 (-x))).take x.toNat ++ l0_0.drop x.toNat) ∧ Aside0 (Kd.R (Kd.int .i64) 3 wr w.heap.size (fun _ => True) (.slice (some ⟨g9, 0, none⟩) l0_0.length cC) xi) ∧ Aside0 (Below w.heap.size w wr))
        case atStart => exact ⟨l0_0, 0, rfl, ⟨by omega, by omega, by omega⟩, ⟨by simp⟩, HO, HB⟩
        case round =>
          clear HO HB
          obtain ⟨xi, x, rfl, HX, HE, HO, HB⟩ := hrel
          have p1 := HX.out.1
          by_cases hl2 : x < (l0_0.length : Int)
          · have hxl : xi.length = l0_0.length := by rw [HE.out, List.length_append, List.length_take, List.length_map, List.length_drop]; omega
            obtain ⟨g8, co9, e9, gb9, gl9, cl9, HG9⟩ := Kd.R_form HO.out (by omega)
            injection e9 with ea en ec
            injection ea with ea
            injection ea with ea
            subst ea
            obtain ⟨hy, hz⟩ := Kd.R_celln 0 HO.out x p1 hl2
            have hy' : wr.cell? ⟨g9, x.toNat, none⟩ = some (.int .i64 (rd xi x)) := hy
            clear hy hxl
            have HP := Aside0.mk (Kd.R_putg HO.out x (wrap64 (-(rd xi x))))
            have GB := Aside0.mk gb9
            clear gb9 gl9 HG9 ec en
            go_wp2
            go_roundg (l0_0.length - (x.toNat + 1))
            case measure => have := HX.out; omega
            case rel => exact ⟨_, x + 1, by go_num, ⟨by have := HX.out; omega, by have := HX.out; omega, by have := HX.out; omega⟩, ⟨by rw [HE.out]; exact neg_step (fun x => wrap64 (-x)) l0_0 x p1 hl2⟩, ⟨HP.out.1⟩, ⟨HB.out.setCell GB.out _⟩⟩
          · have hx9 : x = l0_0.length := by have := HX.out; omega
            go_wp2
            go_ret
            refine ⟨_, rfl, ?_, HB.out⟩
            have := HO.out
            rw [HE.out, hx9, List.take_of_length_le (by rw [List.length_map]; omega), List.drop_of_length_le (by omega), List.append_nil] at this
            exact this

end Go.Proofs.Ytkklkpoelkangaa.QFnExactTrtBounds
